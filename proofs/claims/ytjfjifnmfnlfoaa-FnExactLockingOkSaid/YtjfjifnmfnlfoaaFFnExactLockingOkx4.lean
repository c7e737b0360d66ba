/- The functions that the law FnExactLockingOk reaches, by the engine. Printed by a program of this seat. -/
import Derived.Test.YtjfjifnmfnlfoaaE5
import Derived.Test.YtjfjifnmfnlfoaaProg
import Derived.Test.YtjfjifnmfnlfoaaFFnExactLockingOkx3
namespace Go.Proofs.Ytjfjifnmfnlfoaa.Fns
open Go.Proofs.Try Go.Proofs.Ytjfjifnmfnlfoaa.Eng Go.RowKit
set_option maxRecDepth 100000
set_option linter.unusedVariables false
set_option linter.unusedSimpArgs false
theorem impl_LockingOk.J (k : Nat) (a0 : S29) (a1 : S37) (r : Bool) (h : impl_LockingOk.f k a0 a1 = some r) : J prog (.call 26 [(.ag [(.sl true a0.f0.length 1 (a0.f0.flatMap encI)), (I a0.f1), (.sl true a0.f2.length 2 (a0.f2.flatMap (e83 true)))]), (.ag [(.sl true a1.f0.length 1 (a1.f0.flatMap encI)), (.sl true a1.f1.length 1 (a1.f1.flatMap encB)), (.sl true a1.f2.length 1 (a1.f2.flatMap encB))])] [] (B r) []) := by
  unfold impl_LockingOk.f at h
  obtain ⟨ih0, ih1, ih2, ih3⟩ := impl_LockingOk.lab k
  refine .call' [c_ 2, c_ 3] ?_
  refine .reg' [2, 3] [] ⟨[(2, (.pt 256 0 3)), (3, (.pt 257 0 3))], [(256, [(.sl true a0.f0.length 1 (a0.f0.flatMap encI)), (I a0.f1), (.sl true a0.f2.length 2 (a0.f2.flatMap (e83 true)))]), (257, [(.sl true a1.f0.length 1 (a1.f0.flatMap encI)), (.sl true a1.f1.length 1 (a1.f1.flatMap encB)), (.sl true a1.f2.length 1 (a1.f2.flatMap encB))])], [], []⟩ [c_ 12, c_ 13, c_ 7] aln nocal ?_
  obtain ⟨x1, hx1, h⟩ := Option.bind_eq_some_iff.mp h
  by_cases c1 : x1 = true
  · rw [if_pos c1] at h
    by_cases c2 : (a1.f0.length : Int) = (a0.f0.length : Int)
    · rw [if_pos c2] at h
      by_cases c3 : (a1.f1.length : Int) = (a0.f2.length : Int)
      · rw [if_pos c3] at h
        refine .reg' [2, 3, 40] [.no, .c ⟨13, [(.ag [(.sl true a0.f0.length 1 (a0.f0.flatMap encI)), (I a0.f1), (.sl true a0.f2.length 2 (a0.f2.flatMap (e83 true)))])], [], (B x1), [], [], [], [], (B x1), []⟩, .no, .v (B false), .no, .no, .no, .no, .no, .no, .no, .no, .v (B false), .no, .no, .no, .no, .no, .no, .no, .no, .v (B false)] ⟨[(2, (.pt 256 0 3)), (3, (.pt 257 0 3)), (40, (B (!((a1.f2.length : Int) == a0.f1))))], [(256, [(.sl true a0.f0.length 1 (a0.f0.flatMap encI)), (I a0.f1), (.sl true a0.f2.length 2 (a0.f2.flatMap (e83 true)))]), (257, [(.sl true a1.f0.length 1 (a1.f0.flatMap encI)), (.sl true a1.f1.length 1 (a1.f1.flatMap encB)), (.sl true a1.f2.length 1 (a1.f2.flatMap encB))])], [3 = 3 ∧ 0 + 3 ≤ 3, COK (hget [(256, [(.sl true a0.f0.length 1 (a0.f0.flatMap encI)), (I a0.f1), (.sl true a0.f2.length 2 (a0.f2.flatMap (e83 true)))]), (257, [(.sl true a1.f0.length 1 (a1.f0.flatMap encI)), (.sl true a1.f1.length 1 (a1.f1.flatMap encB)), (.sl true a1.f2.length 1 (a1.f2.flatMap encB))])]) [(.ag [(.sl true a0.f0.length 1 (a0.f0.flatMap encI)), (I a0.f1), (.sl true a0.f2.length 2 (a0.f2.flatMap (e83 true)))])] ⟨13, [(.ag [(.sl true a0.f0.length 1 (a0.f0.flatMap encI)), (I a0.f1), (.sl true a0.f2.length 2 (a0.f2.flatMap (e83 true)))])], [], (B x1), [], [], [], [], (B x1), []⟩, (B (!x1) : V) = B false, 3 = 3 ∧ 0 + 1 ≤ 3, 3 = 3 ∧ 0 + 1 ≤ 3, (B (!((a1.f0.length : Int) == (a0.f0.length : Int))) : V) = B false, 3 = 3 ∧ 1 + 1 ≤ 3, 3 = 3 ∧ 2 + 1 ≤ 3, (B (!((a1.f1.length : Int) == (a0.f2.length : Int))) : V) = B false, 3 = 3 ∧ 2 + 1 ≤ 3, 3 = 3 ∧ 1 + 1 ≤ 3], [⟨13, [(.ag [(.sl true a0.f0.length 1 (a0.f0.flatMap encI)), (I a0.f1), (.sl true a0.f2.length 2 (a0.f2.flatMap (e83 true)))])], [], (B x1), [], [], [], [], (B x1), []⟩]⟩ [c_ 13, c_ 7] (alc ⟨rfl, by decide⟩ (alc (cok0 false (a2c (.z (frz_ag (a2c (frz_sl encI_ok (fun h => h)) (a2c .s (a2c (frz_sl (e83_ok true) (fun h => h)) a2n))))) a2n) (.z .s) (fun h => absurd h (by decide))) (alc (bF (nF c1)) (alc ⟨rfl, by decide⟩ (alc ⟨rfl, by decide⟩ (alc (bF (nF (qT c2))) (alc ⟨rfl, by decide⟩ (alc ⟨rfl, by decide⟩ (alc (bF (nF (qT c3))) (alc ⟨rfl, by decide⟩ (alc ⟨rfl, by decide⟩ aln))))))))))) (acal (impl_PlantOk.J k a0 _ hx1) nocal) ?_
        by_cases c4 : (a1.f2.length : Int) = a0.f1
        · rw [if_pos c4] at h
          refine .cond' (.tmp 40) false [c_ 28, c_ 29, c_ 15] (bF (nF (qT c4))) ?_
          refine .reg' [2, 3, 42, 43, 44] [] ⟨[(2, (.pt 256 0 3)), (3, (.pt 257 0 3)), (42, (.sl true a1.f0.length 1 (a1.f0.flatMap encI))), (43, (I (a1.f0.length : Int))), (44, (I 0))], [(256, [(.sl true a0.f0.length 1 (a0.f0.flatMap encI)), (I a0.f1), (.sl true a0.f2.length 2 (a0.f2.flatMap (e83 true)))]), (257, [(.sl true a1.f0.length 1 (a1.f0.flatMap encI)), (.sl true a1.f1.length 1 (a1.f1.flatMap encB)), (.sl true a1.f2.length 1 (a1.f2.flatMap encB))])], [3 = 3 ∧ 0 + 1 ≤ 3], []⟩ [l_ 58, b_ 0, c_ 15] (alc ⟨rfl, by decide⟩ aln) nocal ?_
          exact ih0 a0 a1 0 _ h
        · rw [if_neg c4] at h
          refine .cond' (.tmp 40) true [c_ 52, c_ 53, c_ 7] (bT (nT (qF c4))) ?_
          refine .reg' [4] [] ⟨[(4, (B false))], [(256, [(.sl true a0.f0.length 1 (a0.f0.flatMap encI)), (I a0.f1), (.sl true a0.f2.length 2 (a0.f2.flatMap (e83 true)))]), (257, [(.sl true a1.f0.length 1 (a1.f0.flatMap encI)), (.sl true a1.f1.length 1 (a1.f1.flatMap encB)), (.sl true a1.f2.length 1 (a1.f2.flatMap encB))])], [], []⟩ [c_ 53, c_ 7] aln nocal ?_
          have h := Option.some.inj h
          subst h
          exact .fin0 [] (B false) [] aln (.z .s)
      · rw [if_neg c3] at h
        refine .reg' [2, 3, 40] [.no, .c ⟨13, [(.ag [(.sl true a0.f0.length 1 (a0.f0.flatMap encI)), (I a0.f1), (.sl true a0.f2.length 2 (a0.f2.flatMap (e83 true)))])], [], (B x1), [], [], [], [], (B x1), []⟩, .no, .v (B false), .no, .no, .no, .no, .no, .no, .no, .no, .v (B false), .no, .no, .no, .no, .no, .no, .no, .no, .v (B true)] ⟨[(2, (.pt 256 0 3)), (3, (.pt 257 0 3)), (40, (B true))], [(256, [(.sl true a0.f0.length 1 (a0.f0.flatMap encI)), (I a0.f1), (.sl true a0.f2.length 2 (a0.f2.flatMap (e83 true)))]), (257, [(.sl true a1.f0.length 1 (a1.f0.flatMap encI)), (.sl true a1.f1.length 1 (a1.f1.flatMap encB)), (.sl true a1.f2.length 1 (a1.f2.flatMap encB))])], [3 = 3 ∧ 0 + 3 ≤ 3, COK (hget [(256, [(.sl true a0.f0.length 1 (a0.f0.flatMap encI)), (I a0.f1), (.sl true a0.f2.length 2 (a0.f2.flatMap (e83 true)))]), (257, [(.sl true a1.f0.length 1 (a1.f0.flatMap encI)), (.sl true a1.f1.length 1 (a1.f1.flatMap encB)), (.sl true a1.f2.length 1 (a1.f2.flatMap encB))])]) [(.ag [(.sl true a0.f0.length 1 (a0.f0.flatMap encI)), (I a0.f1), (.sl true a0.f2.length 2 (a0.f2.flatMap (e83 true)))])] ⟨13, [(.ag [(.sl true a0.f0.length 1 (a0.f0.flatMap encI)), (I a0.f1), (.sl true a0.f2.length 2 (a0.f2.flatMap (e83 true)))])], [], (B x1), [], [], [], [], (B x1), []⟩, (B (!x1) : V) = B false, 3 = 3 ∧ 0 + 1 ≤ 3, 3 = 3 ∧ 0 + 1 ≤ 3, (B (!((a1.f0.length : Int) == (a0.f0.length : Int))) : V) = B false, 3 = 3 ∧ 1 + 1 ≤ 3, 3 = 3 ∧ 2 + 1 ≤ 3, (B (!((a1.f1.length : Int) == (a0.f2.length : Int))) : V) = B true], [⟨13, [(.ag [(.sl true a0.f0.length 1 (a0.f0.flatMap encI)), (I a0.f1), (.sl true a0.f2.length 2 (a0.f2.flatMap (e83 true)))])], [], (B x1), [], [], [], [], (B x1), []⟩]⟩ [c_ 13, c_ 7] (alc ⟨rfl, by decide⟩ (alc (cok0 false (a2c (.z (frz_ag (a2c (frz_sl encI_ok (fun h => h)) (a2c .s (a2c (frz_sl (e83_ok true) (fun h => h)) a2n))))) a2n) (.z .s) (fun h => absurd h (by decide))) (alc (bF (nF c1)) (alc ⟨rfl, by decide⟩ (alc ⟨rfl, by decide⟩ (alc (bF (nF (qT c2))) (alc ⟨rfl, by decide⟩ (alc ⟨rfl, by decide⟩ (alc (bT (nT (qF c3))) aln))))))))) (acal (impl_PlantOk.J k a0 _ hx1) nocal) ?_
        refine .cond' (.tmp 40) true [c_ 52, c_ 53, c_ 7] (rfl) ?_
        refine .reg' [4] [] ⟨[(4, (B false))], [(256, [(.sl true a0.f0.length 1 (a0.f0.flatMap encI)), (I a0.f1), (.sl true a0.f2.length 2 (a0.f2.flatMap (e83 true)))]), (257, [(.sl true a1.f0.length 1 (a1.f0.flatMap encI)), (.sl true a1.f1.length 1 (a1.f1.flatMap encB)), (.sl true a1.f2.length 1 (a1.f2.flatMap encB))])], [], []⟩ [c_ 53, c_ 7] aln nocal ?_
        have h := Option.some.inj h
        subst h
        exact .fin0 [] (B false) [] aln (.z .s)
    · rw [if_neg c2] at h
      refine .reg' [2, 3, 40] [.no, .c ⟨13, [(.ag [(.sl true a0.f0.length 1 (a0.f0.flatMap encI)), (I a0.f1), (.sl true a0.f2.length 2 (a0.f2.flatMap (e83 true)))])], [], (B x1), [], [], [], [], (B x1), []⟩, .no, .v (B false), .no, .no, .no, .no, .no, .no, .no, .no, .v (B true)] ⟨[(2, (.pt 256 0 3)), (3, (.pt 257 0 3)), (40, (B true))], [(256, [(.sl true a0.f0.length 1 (a0.f0.flatMap encI)), (I a0.f1), (.sl true a0.f2.length 2 (a0.f2.flatMap (e83 true)))]), (257, [(.sl true a1.f0.length 1 (a1.f0.flatMap encI)), (.sl true a1.f1.length 1 (a1.f1.flatMap encB)), (.sl true a1.f2.length 1 (a1.f2.flatMap encB))])], [3 = 3 ∧ 0 + 3 ≤ 3, COK (hget [(256, [(.sl true a0.f0.length 1 (a0.f0.flatMap encI)), (I a0.f1), (.sl true a0.f2.length 2 (a0.f2.flatMap (e83 true)))]), (257, [(.sl true a1.f0.length 1 (a1.f0.flatMap encI)), (.sl true a1.f1.length 1 (a1.f1.flatMap encB)), (.sl true a1.f2.length 1 (a1.f2.flatMap encB))])]) [(.ag [(.sl true a0.f0.length 1 (a0.f0.flatMap encI)), (I a0.f1), (.sl true a0.f2.length 2 (a0.f2.flatMap (e83 true)))])] ⟨13, [(.ag [(.sl true a0.f0.length 1 (a0.f0.flatMap encI)), (I a0.f1), (.sl true a0.f2.length 2 (a0.f2.flatMap (e83 true)))])], [], (B x1), [], [], [], [], (B x1), []⟩, (B (!x1) : V) = B false, 3 = 3 ∧ 0 + 1 ≤ 3, 3 = 3 ∧ 0 + 1 ≤ 3, (B (!((a1.f0.length : Int) == (a0.f0.length : Int))) : V) = B true], [⟨13, [(.ag [(.sl true a0.f0.length 1 (a0.f0.flatMap encI)), (I a0.f1), (.sl true a0.f2.length 2 (a0.f2.flatMap (e83 true)))])], [], (B x1), [], [], [], [], (B x1), []⟩]⟩ [c_ 13, c_ 7] (alc ⟨rfl, by decide⟩ (alc (cok0 false (a2c (.z (frz_ag (a2c (frz_sl encI_ok (fun h => h)) (a2c .s (a2c (frz_sl (e83_ok true) (fun h => h)) a2n))))) a2n) (.z .s) (fun h => absurd h (by decide))) (alc (bF (nF c1)) (alc ⟨rfl, by decide⟩ (alc ⟨rfl, by decide⟩ (alc (bT (nT (qF c2))) aln)))))) (acal (impl_PlantOk.J k a0 _ hx1) nocal) ?_
      refine .cond' (.tmp 40) true [c_ 52, c_ 53, c_ 7] (rfl) ?_
      refine .reg' [4] [] ⟨[(4, (B false))], [(256, [(.sl true a0.f0.length 1 (a0.f0.flatMap encI)), (I a0.f1), (.sl true a0.f2.length 2 (a0.f2.flatMap (e83 true)))]), (257, [(.sl true a1.f0.length 1 (a1.f0.flatMap encI)), (.sl true a1.f1.length 1 (a1.f1.flatMap encB)), (.sl true a1.f2.length 1 (a1.f2.flatMap encB))])], [], []⟩ [c_ 53, c_ 7] aln nocal ?_
      have h := Option.some.inj h
      subst h
      exact .fin0 [] (B false) [] aln (.z .s)
  · rw [if_neg c1] at h
    refine .reg' [2, 3, 40] [.no, .c ⟨13, [(.ag [(.sl true a0.f0.length 1 (a0.f0.flatMap encI)), (I a0.f1), (.sl true a0.f2.length 2 (a0.f2.flatMap (e83 true)))])], [], (B x1), [], [], [], [], (B x1), []⟩, .no, .v (B true)] ⟨[(2, (.pt 256 0 3)), (3, (.pt 257 0 3)), (40, (B true))], [(256, [(.sl true a0.f0.length 1 (a0.f0.flatMap encI)), (I a0.f1), (.sl true a0.f2.length 2 (a0.f2.flatMap (e83 true)))]), (257, [(.sl true a1.f0.length 1 (a1.f0.flatMap encI)), (.sl true a1.f1.length 1 (a1.f1.flatMap encB)), (.sl true a1.f2.length 1 (a1.f2.flatMap encB))])], [3 = 3 ∧ 0 + 3 ≤ 3, COK (hget [(256, [(.sl true a0.f0.length 1 (a0.f0.flatMap encI)), (I a0.f1), (.sl true a0.f2.length 2 (a0.f2.flatMap (e83 true)))]), (257, [(.sl true a1.f0.length 1 (a1.f0.flatMap encI)), (.sl true a1.f1.length 1 (a1.f1.flatMap encB)), (.sl true a1.f2.length 1 (a1.f2.flatMap encB))])]) [(.ag [(.sl true a0.f0.length 1 (a0.f0.flatMap encI)), (I a0.f1), (.sl true a0.f2.length 2 (a0.f2.flatMap (e83 true)))])] ⟨13, [(.ag [(.sl true a0.f0.length 1 (a0.f0.flatMap encI)), (I a0.f1), (.sl true a0.f2.length 2 (a0.f2.flatMap (e83 true)))])], [], (B x1), [], [], [], [], (B x1), []⟩, (B (!x1) : V) = B true], [⟨13, [(.ag [(.sl true a0.f0.length 1 (a0.f0.flatMap encI)), (I a0.f1), (.sl true a0.f2.length 2 (a0.f2.flatMap (e83 true)))])], [], (B x1), [], [], [], [], (B x1), []⟩]⟩ [c_ 13, c_ 7] (alc ⟨rfl, by decide⟩ (alc (cok0 false (a2c (.z (frz_ag (a2c (frz_sl encI_ok (fun h => h)) (a2c .s (a2c (frz_sl (e83_ok true) (fun h => h)) a2n))))) a2n) (.z .s) (fun h => absurd h (by decide))) (alc (bT (nT (vF c1))) aln))) (acal (impl_PlantOk.J k a0 _ hx1) nocal) ?_
    refine .cond' (.tmp 40) true [c_ 52, c_ 53, c_ 7] (rfl) ?_
    refine .reg' [4] [] ⟨[(4, (B false))], [(256, [(.sl true a0.f0.length 1 (a0.f0.flatMap encI)), (I a0.f1), (.sl true a0.f2.length 2 (a0.f2.flatMap (e83 true)))]), (257, [(.sl true a1.f0.length 1 (a1.f0.flatMap encI)), (.sl true a1.f1.length 1 (a1.f1.flatMap encB)), (.sl true a1.f2.length 1 (a1.f2.flatMap encB))])], [], []⟩ [c_ 53, c_ 7] aln nocal ?_
    have h := Option.some.inj h
    subst h
    exact .fin0 [] (B false) [] aln (.z .s)
/-! laws_eqIntS: function 41 -/
def laws_eqIntS.l0 : Nat → (List Int) → (List Int) → Int → Option Bool
 | 0, _, _, _ => none
 | k + 1, a0, a1, x1 => (if x1 < (a0.length : Int) then (if 0 ≤ x1 then (if x1 < (a1.length : Int) then (if (at_ a0 x1) = (at_ a1 x1) then (laws_eqIntS.l0 k a0 a1 (wrap64 (x1 + 1))) else (some false)) else none) else none) else (some true))
def laws_eqIntS.f (k : Nat) (a0 : (List Int)) (a1 : (List Int)) : Option Bool := (if (a0.length : Int) = (a1.length : Int) then (laws_eqIntS.l0 k a0 a1 0) else (some false))
theorem laws_eqIntS.lab : ∀ k, (∀ (a0 : (List Int)) (a1 : (List Int)) (x1 : Int) (r : Bool), laws_eqIntS.l0 k a0 a1 x1 = some r → J prog (.run 41 [] [l_ 58, b_ 0, c_ 15] [(0, (.sl true a0.length 1 (a0.flatMap encI))), (1, (.sl true a1.length 1 (a1.flatMap encI))), (5, (I x1))] [] (B r) []))
 | 0 => (by intro a0 a1 x1 r h; unfold laws_eqIntS.l0 at h; cases h)
 | k + 1 => by
  have ih := laws_eqIntS.lab k
  have ih0 := ih
  · intro a0 a1 x1 r h
    unfold laws_eqIntS.l0 at h
    refine .loop' [c_ 464, c_ 465, c_ 233, l_ 58, b_ 0, c_ 15] ?_
    refine .reg' [0, 1, 5, 14] [] ⟨[(0, (.sl true a0.length 1 (a0.flatMap encI))), (1, (.sl true a1.length 1 (a1.flatMap encI))), (5, (I x1)), (14, (B (decide (x1 < (a0.length : Int)))))], [], [], []⟩ [c_ 465, c_ 233, l_ 58, b_ 0, c_ 15] aln nocal ?_
    by_cases c2 : x1 < (a0.length : Int)
    · rw [if_pos c2] at h
      refine .cond' (.tmp 14) true [c_ 1864, c_ 1865, b_ 1, c_ 467, l_ 58, b_ 0, c_ 15] (bT (dT c2)) ?_
      by_cases c3 : 0 ≤ x1
      · rw [if_pos c3] at h
        by_cases c4 : x1 < (a1.length : Int)
        · rw [if_pos c4] at h
          refine .reg' [0, 1, 5, 25] [.no, .no, .no, .v (I (at_ a0 x1)), .no, .no, .no, .v (I (at_ a1 x1))] ⟨[(0, (.sl true a0.length 1 (a0.flatMap encI))), (1, (.sl true a1.length 1 (a1.flatMap encI))), (5, (I x1)), (25, (B (!((at_ a0 x1) == (at_ a1 x1)))))], [], [(0 : Int) ≤ x1 ∧ x1 < (a0.length : Int), rdC prog 3 ((a0.flatMap encI).drop (x1.toNat * 1)) = (I (at_ a0 x1)), 1 ≤ ((a0.flatMap encI).drop (x1.toNat * 1)).length, (0 : Int) ≤ x1 ∧ x1 < (a1.length : Int), rdC prog 3 ((a1.flatMap encI).drop (x1.toNat * 1)) = (I (at_ a1 x1)), 1 ≤ ((a1.flatMap encI).drop (x1.toNat * 1)).length], []⟩ [c_ 1865, b_ 1, c_ 467, l_ 58, b_ 0, c_ 15] (alc ⟨c3, c2⟩ (alc (ldC1 encI_ok rfl c3 c2) (alc (okI encI_ok c3 c2 (by decide)) (alc ⟨c3, c4⟩ (alc (ldC1 encI_ok rfl c3 c4) (alc (okI encI_ok c3 c4 (by decide)) aln)))))) nocal ?_
          by_cases c5 : (at_ a0 x1) = (at_ a1 x1)
          · rw [if_pos c5] at h
            refine .cond' (.tmp 25) false [c_ 467, l_ 58, b_ 0, c_ 15] (bF (nF (qT c5))) ?_
            refine .reg' [0, 1, 5] [] ⟨[(0, (.sl true a0.length 1 (a0.flatMap encI))), (1, (.sl true a1.length 1 (a1.flatMap encI))), (5, (I (wrap64 (x1 + 1))))], [], [], []⟩ [l_ 58, b_ 0, c_ 15] aln nocal ?_
            exact ih0 a0 a1 (wrap64 (x1 + 1)) _ h
          · rw [if_neg c5] at h
            refine .cond' (.tmp 25) true [c_ 7460, c_ 7461, b_ 1, c_ 467, l_ 58, b_ 0, c_ 15] (bT (nT (qF c5))) ?_
            refine .reg' [4] [] ⟨[(4, (B false))], [], [], []⟩ [c_ 7461, b_ 1, c_ 467, l_ 58, b_ 0, c_ 15] aln nocal ?_
            have h := Option.some.inj h
            subst h
            exact .fin0 [] (B false) [] aln (.z .s)
        · rw [if_neg c4] at h
          cases h
      · rw [if_neg c3] at h
        cases h
    · rw [if_neg c2] at h
      refine .cond' (.tmp 14) false [c_ 30, c_ 31] (bF (dF c2)) ?_
      refine .reg' [4] [] ⟨[(4, (B true))], [], [], []⟩ [c_ 31] aln nocal ?_
      have h := Option.some.inj h
      subst h
      exact .fin0 [] (B true) [] aln (.z .s)
theorem laws_eqIntS.J (k : Nat) (a0 : (List Int)) (a1 : (List Int)) (r : Bool) (h : laws_eqIntS.f k a0 a1 = some r) : J prog (.call 41 [(.sl true a0.length 1 (a0.flatMap encI)), (.sl true a1.length 1 (a1.flatMap encI))] [] (B r) []) := by
  unfold laws_eqIntS.f at h
  have ih0 := laws_eqIntS.lab k
  refine .call' [c_ 2, c_ 3] ?_
  refine .reg' [0, 1] [] ⟨[(0, (.sl true a0.length 1 (a0.flatMap encI))), (1, (.sl true a1.length 1 (a1.flatMap encI)))], [], [], []⟩ [c_ 12, c_ 13, c_ 7] aln nocal ?_
  refine .reg' [0, 1, 10] [] ⟨[(0, (.sl true a0.length 1 (a0.flatMap encI))), (1, (.sl true a1.length 1 (a1.flatMap encI))), (10, (B (!((a0.length : Int) == (a1.length : Int)))))], [], [], []⟩ [c_ 13, c_ 7] aln nocal ?_
  by_cases c1 : (a0.length : Int) = (a1.length : Int)
  · rw [if_pos c1] at h
    refine .cond' (.tmp 10) false [c_ 28, c_ 29, c_ 15] (bF (nF (qT c1))) ?_
    refine .reg' [0, 1, 5] [] ⟨[(0, (.sl true a0.length 1 (a0.flatMap encI))), (1, (.sl true a1.length 1 (a1.flatMap encI))), (5, (I 0))], [], [], []⟩ [l_ 58, b_ 0, c_ 15] aln nocal ?_
    exact ih0 a0 a1 0 _ h
  · rw [if_neg c1] at h
    refine .cond' (.tmp 10) true [c_ 52, c_ 53, c_ 7] (bT (nT (qF c1))) ?_
    refine .reg' [4] [] ⟨[(4, (B false))], [], [], []⟩ [c_ 53, c_ 7] aln nocal ?_
    have h := Option.some.inj h
    subst h
    exact .fin0 [] (B false) [] aln (.z .s)
/-! laws_eqNeed: function 130 -/
def laws_eqNeed.f (a0 : S93) (a1 : S93) : Option Bool := (if a0.f0 = a1.f0 then (if a0.f1 = a1.f1 then (some true) else (some false)) else (some false))
theorem laws_eqNeed.J (a0 : S93) (a1 : S93) (r : Bool) (h : laws_eqNeed.f a0 a1 = some r) : J prog (.call 130 [(.ag [(I a0.f0), (I a0.f1)]), (.ag [(I a1.f0), (I a1.f1)])] [] (B r) []) := by
  unfold laws_eqNeed.f at h
  refine .call' [c_ 2, c_ 3] ?_
  refine .reg' [2, 3] [] ⟨[(2, (.pt 256 0 2)), (3, (.pt 257 0 2))], [(256, [(I a0.f0), (I a0.f1)]), (257, [(I a1.f0), (I a1.f1)])], [], []⟩ [c_ 12, c_ 13, c_ 7] aln nocal ?_
  refine .reg' [2, 3, 9] [] ⟨[(2, (.pt 256 0 2)), (3, (.pt 257 0 2)), (9, (B (!(a0.f0 == a1.f0))))], [(256, [(I a0.f0), (I a0.f1)]), (257, [(I a1.f0), (I a1.f1)])], [2 = 2 ∧ 0 + 1 ≤ 2, 2 = 2 ∧ 0 + 1 ≤ 2], []⟩ [c_ 13, c_ 7] (alc ⟨rfl, by decide⟩ (alc ⟨rfl, by decide⟩ aln)) nocal ?_
  by_cases c1 : a0.f0 = a1.f0
  · rw [if_pos c1] at h
    refine .cond' (.tmp 9) false [c_ 28, c_ 29, c_ 15] (bF (nF (qT c1))) ?_
    refine .reg' [14] [] ⟨[(14, (B (!(a0.f1 == a1.f1))))], [(256, [(I a0.f0), (I a0.f1)]), (257, [(I a1.f0), (I a1.f1)])], [2 = 2 ∧ 1 + 1 ≤ 2, 2 = 2 ∧ 1 + 1 ≤ 2], []⟩ [c_ 29, c_ 15] (alc ⟨rfl, by decide⟩ (alc ⟨rfl, by decide⟩ aln)) nocal ?_
    by_cases c2 : a0.f1 = a1.f1
    · rw [if_pos c2] at h
      refine .cond' (.tmp 14) false [c_ 30, c_ 31] (bF (nF (qT c2))) ?_
      refine .reg' [4] [] ⟨[(4, (B true))], [(256, [(I a0.f0), (I a0.f1)]), (257, [(I a1.f0), (I a1.f1)])], [], []⟩ [c_ 31] aln nocal ?_
      have h := Option.some.inj h
      subst h
      exact .fin0 [] (B true) [] aln (.z .s)
    · rw [if_neg c2] at h
      refine .cond' (.tmp 14) true [c_ 116, c_ 117, c_ 15] (bT (nT (qF c2))) ?_
      refine .reg' [4] [] ⟨[(4, (B false))], [(256, [(I a0.f0), (I a0.f1)]), (257, [(I a1.f0), (I a1.f1)])], [], []⟩ [c_ 117, c_ 15] aln nocal ?_
      have h := Option.some.inj h
      subst h
      exact .fin0 [] (B false) [] aln (.z .s)
  · rw [if_neg c1] at h
    refine .cond' (.tmp 9) true [c_ 52, c_ 53, c_ 7] (bT (nT (qF c1))) ?_
    refine .reg' [4] [] ⟨[(4, (B false))], [(256, [(I a0.f0), (I a0.f1)]), (257, [(I a1.f0), (I a1.f1)])], [], []⟩ [c_ 53, c_ 7] aln nocal ?_
    have h := Option.some.inj h
    subst h
    exact .fin0 [] (B false) [] aln (.z .s)
/-! laws_eqNeedS: function 118 -/
def laws_eqNeedS.l0 : Nat → (List S93) → (List S93) → Int → Option Bool
 | 0, _, _, _ => none
 | k + 1, a0, a1, x1 => (if x1 < (a0.length : Int) then (if 0 ≤ x1 then (if x1 < (a1.length : Int) then ((laws_eqNeed.f (at_ a0 x1) (at_ a1 x1)).bind fun x2 => (if x2 = true then (laws_eqNeedS.l0 k a0 a1 (wrap64 (x1 + 1))) else (some false))) else none) else none) else (some true))
def laws_eqNeedS.f (k : Nat) (a0 : (List S93)) (a1 : (List S93)) : Option Bool := (if (a0.length : Int) = (a1.length : Int) then (laws_eqNeedS.l0 k a0 a1 0) else (some false))
theorem laws_eqNeedS.lab : ∀ k, (∀ (a0 : (List S93)) (a1 : (List S93)) (x1 : Int) (r : Bool), laws_eqNeedS.l0 k a0 a1 x1 = some r → J prog (.run 118 [] [l_ 58, b_ 0, c_ 15] [(0, (.sl true a0.length 2 (a0.flatMap e93))), (1, (.sl true a1.length 2 (a1.flatMap e93))), (5, (I x1))] [] (B r) []))
 | 0 => (by intro a0 a1 x1 r h; unfold laws_eqNeedS.l0 at h; cases h)
 | k + 1 => by
  have ih := laws_eqNeedS.lab k
  have ih0 := ih
  · intro a0 a1 x1 r h
    unfold laws_eqNeedS.l0 at h
    refine .loop' [c_ 464, c_ 465, c_ 233, l_ 58, b_ 0, c_ 15] ?_
    refine .reg' [0, 1, 5, 14] [] ⟨[(0, (.sl true a0.length 2 (a0.flatMap e93))), (1, (.sl true a1.length 2 (a1.flatMap e93))), (5, (I x1)), (14, (B (decide (x1 < (a0.length : Int)))))], [], [], []⟩ [c_ 465, c_ 233, l_ 58, b_ 0, c_ 15] aln nocal ?_
    by_cases c2 : x1 < (a0.length : Int)
    · rw [if_pos c2] at h
      refine .cond' (.tmp 14) true [c_ 1864, c_ 1865, b_ 1, c_ 467, l_ 58, b_ 0, c_ 15] (bT (dT c2)) ?_
      by_cases c3 : 0 ≤ x1
      · rw [if_pos c3] at h
        by_cases c4 : x1 < (a1.length : Int)
        · rw [if_pos c4] at h
          obtain ⟨x2, hx2, h⟩ := Option.bind_eq_some_iff.mp h
          refine .reg' [0, 1, 5, 26] [.no, .no, .no, .v (.ag [(I (at_ a0 x1).f0), (I (at_ a0 x1).f1)]), .no, .no, .no, .v (.ag [(I (at_ a1 x1).f0), (I (at_ a1 x1).f1)]), .c ⟨130, [(.ag [(I (at_ a0 x1).f0), (I (at_ a0 x1).f1)]), (.ag [(I (at_ a1 x1).f0), (I (at_ a1 x1).f1)])], [], (B x2), [], [], [], [], (B x2), []⟩] ⟨[(0, (.sl true a0.length 2 (a0.flatMap e93))), (1, (.sl true a1.length 2 (a1.flatMap e93))), (5, (I x1)), (26, (B (!x2)))], [], [(0 : Int) ≤ x1 ∧ x1 < (a0.length : Int), rdC prog 94 ((a0.flatMap e93).drop (x1.toNat * 2)) = (.ag [(I (at_ a0 x1).f0), (I (at_ a0 x1).f1)]), 2 ≤ ((a0.flatMap e93).drop (x1.toNat * 2)).length, (0 : Int) ≤ x1 ∧ x1 < (a1.length : Int), rdC prog 94 ((a1.flatMap e93).drop (x1.toNat * 2)) = (.ag [(I (at_ a1 x1).f0), (I (at_ a1 x1).f1)]), 2 ≤ ((a1.flatMap e93).drop (x1.toNat * 2)).length, COK (hget []) [(.ag [(I (at_ a0 x1).f0), (I (at_ a0 x1).f1)]), (.ag [(I (at_ a1 x1).f0), (I (at_ a1 x1).f1)])] ⟨130, [(.ag [(I (at_ a0 x1).f0), (I (at_ a0 x1).f1)]), (.ag [(I (at_ a1 x1).f0), (I (at_ a1 x1).f1)])], [], (B x2), [], [], [], [], (B x2), []⟩], [⟨130, [(.ag [(I (at_ a0 x1).f0), (I (at_ a0 x1).f1)]), (.ag [(I (at_ a1 x1).f0), (I (at_ a1 x1).f1)])], [], (B x2), [], [], [], [], (B x2), []⟩]⟩ [c_ 1865, b_ 1, c_ 467, l_ 58, b_ 0, c_ 15] (alc ⟨c3, c2⟩ (alc (ldA e93_ok rfl rfl c3 c2) (alc (okI e93_ok c3 c2 (by decide)) (alc ⟨c3, c4⟩ (alc (ldA e93_ok rfl rfl c3 c4) (alc (okI e93_ok c3 c4 (by decide)) (alc (cok0 false (a2c (.z (frz_ag (a2c .s (a2c .s a2n)))) (a2c (.z (frz_ag (a2c .s (a2c .s a2n)))) a2n)) (.z .s) (fun h => absurd h (by decide))) aln))))))) (acal (laws_eqNeed.J (at_ a0 x1) (at_ a1 x1) _ hx2) nocal) ?_
          by_cases c5 : x2 = true
          · rw [if_pos c5] at h
            refine .cond' (.tmp 26) false [c_ 467, l_ 58, b_ 0, c_ 15] (bF (nF c5)) ?_
            refine .reg' [0, 1, 5] [] ⟨[(0, (.sl true a0.length 2 (a0.flatMap e93))), (1, (.sl true a1.length 2 (a1.flatMap e93))), (5, (I (wrap64 (x1 + 1))))], [], [], []⟩ [l_ 58, b_ 0, c_ 15] aln nocal ?_
            exact ih0 a0 a1 (wrap64 (x1 + 1)) _ h
          · rw [if_neg c5] at h
            refine .cond' (.tmp 26) true [c_ 7460, c_ 7461, b_ 1, c_ 467, l_ 58, b_ 0, c_ 15] (bT (nT (vF c5))) ?_
            refine .reg' [4] [] ⟨[(4, (B false))], [], [], []⟩ [c_ 7461, b_ 1, c_ 467, l_ 58, b_ 0, c_ 15] aln nocal ?_
            have h := Option.some.inj h
            subst h
            exact .fin0 [] (B false) [] aln (.z .s)
        · rw [if_neg c4] at h
          cases h
      · rw [if_neg c3] at h
        cases h
    · rw [if_neg c2] at h
      refine .cond' (.tmp 14) false [c_ 30, c_ 31] (bF (dF c2)) ?_
      refine .reg' [4] [] ⟨[(4, (B true))], [], [], []⟩ [c_ 31] aln nocal ?_
      have h := Option.some.inj h
      subst h
      exact .fin0 [] (B true) [] aln (.z .s)
theorem laws_eqNeedS.J (k : Nat) (a0 : (List S93)) (a1 : (List S93)) (r : Bool) (h : laws_eqNeedS.f k a0 a1 = some r) : J prog (.call 118 [(.sl true a0.length 2 (a0.flatMap e93)), (.sl true a1.length 2 (a1.flatMap e93))] [] (B r) []) := by
  unfold laws_eqNeedS.f at h
  have ih0 := laws_eqNeedS.lab k
  refine .call' [c_ 2, c_ 3] ?_
  refine .reg' [0, 1] [] ⟨[(0, (.sl true a0.length 2 (a0.flatMap e93))), (1, (.sl true a1.length 2 (a1.flatMap e93)))], [], [], []⟩ [c_ 12, c_ 13, c_ 7] aln nocal ?_
  refine .reg' [0, 1, 10] [] ⟨[(0, (.sl true a0.length 2 (a0.flatMap e93))), (1, (.sl true a1.length 2 (a1.flatMap e93))), (10, (B (!((a0.length : Int) == (a1.length : Int)))))], [], [], []⟩ [c_ 13, c_ 7] aln nocal ?_
  by_cases c1 : (a0.length : Int) = (a1.length : Int)
  · rw [if_pos c1] at h
    refine .cond' (.tmp 10) false [c_ 28, c_ 29, c_ 15] (bF (nF (qT c1))) ?_
    refine .reg' [0, 1, 5] [] ⟨[(0, (.sl true a0.length 2 (a0.flatMap e93))), (1, (.sl true a1.length 2 (a1.flatMap e93))), (5, (I 0))], [], [], []⟩ [l_ 58, b_ 0, c_ 15] aln nocal ?_
    exact ih0 a0 a1 0 _ h
  · rw [if_neg c1] at h
    refine .cond' (.tmp 10) true [c_ 52, c_ 53, c_ 7] (bT (nT (qF c1))) ?_
    refine .reg' [4] [] ⟨[(4, (B false))], [], [], []⟩ [c_ 53, c_ 7] aln nocal ?_
    have h := Option.some.inj h
    subst h
    exact .fin0 [] (B false) [] aln (.z .s)
/-! laws_eqRoute: function 101 -/
def laws_eqRoute.f (k : Nat) (a0 : S83) (a1 : S83) : Option Bool := ((laws_eqNeedS.f k a0.f0 a1.f0).bind fun x1 => (if x1 = true then ((laws_eqIntS.f k a0.f1 a1.f1).bind fun x2 => (if x2 = true then (some true) else (some false))) else (some false)))
theorem laws_eqRoute.J (k : Nat) (a0 : S83) (a1 : S83) (r : Bool) (h : laws_eqRoute.f k a0 a1 = some r) : J prog (.call 101 [(.ag [(.sl true a0.f0.length 2 (a0.f0.flatMap e93)), (.sl true a0.f1.length 1 (a0.f1.flatMap encI))]), (.ag [(.sl true a1.f0.length 2 (a1.f0.flatMap e93)), (.sl true a1.f1.length 1 (a1.f1.flatMap encI))])] [] (B r) []) := by
  unfold laws_eqRoute.f at h
  refine .call' [c_ 2, c_ 3] ?_
  refine .reg' [2, 3] [] ⟨[(2, (.pt 256 0 2)), (3, (.pt 257 0 2))], [(256, [(.sl true a0.f0.length 2 (a0.f0.flatMap e93)), (.sl true a0.f1.length 1 (a0.f1.flatMap encI))]), (257, [(.sl true a1.f0.length 2 (a1.f0.flatMap e93)), (.sl true a1.f1.length 1 (a1.f1.flatMap encI))])], [], []⟩ [c_ 12, c_ 13, c_ 7] aln nocal ?_
  obtain ⟨x1, hx1, h⟩ := Option.bind_eq_some_iff.mp h
  refine .reg' [2, 3, 10] [.no, .no, .no, .no, .c ⟨118, [(.sl true a0.f0.length 2 (a0.f0.flatMap e93)), (.sl true a1.f0.length 2 (a1.f0.flatMap e93))], [], (B x1), [], [], [], [], (B x1), []⟩] ⟨[(2, (.pt 256 0 2)), (3, (.pt 257 0 2)), (10, (B (!x1)))], [(256, [(.sl true a0.f0.length 2 (a0.f0.flatMap e93)), (.sl true a0.f1.length 1 (a0.f1.flatMap encI))]), (257, [(.sl true a1.f0.length 2 (a1.f0.flatMap e93)), (.sl true a1.f1.length 1 (a1.f1.flatMap encI))])], [2 = 2 ∧ 0 + 1 ≤ 2, 2 = 2 ∧ 0 + 1 ≤ 2, COK (hget [(256, [(.sl true a0.f0.length 2 (a0.f0.flatMap e93)), (.sl true a0.f1.length 1 (a0.f1.flatMap encI))]), (257, [(.sl true a1.f0.length 2 (a1.f0.flatMap e93)), (.sl true a1.f1.length 1 (a1.f1.flatMap encI))])]) [(.sl true a0.f0.length 2 (a0.f0.flatMap e93)), (.sl true a1.f0.length 2 (a1.f0.flatMap e93))] ⟨118, [(.sl true a0.f0.length 2 (a0.f0.flatMap e93)), (.sl true a1.f0.length 2 (a1.f0.flatMap e93))], [], (B x1), [], [], [], [], (B x1), []⟩], [⟨118, [(.sl true a0.f0.length 2 (a0.f0.flatMap e93)), (.sl true a1.f0.length 2 (a1.f0.flatMap e93))], [], (B x1), [], [], [], [], (B x1), []⟩]⟩ [c_ 13, c_ 7] (alc ⟨rfl, by decide⟩ (alc ⟨rfl, by decide⟩ (alc (cok0 false (a2c (.z (frz_sl e93_ok (fun h => h))) (a2c (.z (frz_sl e93_ok (fun h => h))) a2n)) (.z .s) (fun h => absurd h (by decide))) aln))) (acal (laws_eqNeedS.J k a0.f0 a1.f0 _ hx1) nocal) ?_
  by_cases c1 : x1 = true
  · rw [if_pos c1] at h
    refine .cond' (.tmp 10) false [c_ 28, c_ 29, c_ 15] (bF (nF c1)) ?_
    obtain ⟨x2, hx2, h⟩ := Option.bind_eq_some_iff.mp h
    refine .reg' [16] [.no, .no, .no, .no, .c ⟨41, [(.sl true a0.f1.length 1 (a0.f1.flatMap encI)), (.sl true a1.f1.length 1 (a1.f1.flatMap encI))], [], (B x2), [], [], [], [], (B x2), []⟩] ⟨[(16, (B (!x2)))], [(256, [(.sl true a0.f0.length 2 (a0.f0.flatMap e93)), (.sl true a0.f1.length 1 (a0.f1.flatMap encI))]), (257, [(.sl true a1.f0.length 2 (a1.f0.flatMap e93)), (.sl true a1.f1.length 1 (a1.f1.flatMap encI))])], [2 = 2 ∧ 1 + 1 ≤ 2, 2 = 2 ∧ 1 + 1 ≤ 2, COK (hget [(256, [(.sl true a0.f0.length 2 (a0.f0.flatMap e93)), (.sl true a0.f1.length 1 (a0.f1.flatMap encI))]), (257, [(.sl true a1.f0.length 2 (a1.f0.flatMap e93)), (.sl true a1.f1.length 1 (a1.f1.flatMap encI))])]) [(.sl true a0.f1.length 1 (a0.f1.flatMap encI)), (.sl true a1.f1.length 1 (a1.f1.flatMap encI))] ⟨41, [(.sl true a0.f1.length 1 (a0.f1.flatMap encI)), (.sl true a1.f1.length 1 (a1.f1.flatMap encI))], [], (B x2), [], [], [], [], (B x2), []⟩], [⟨41, [(.sl true a0.f1.length 1 (a0.f1.flatMap encI)), (.sl true a1.f1.length 1 (a1.f1.flatMap encI))], [], (B x2), [], [], [], [], (B x2), []⟩]⟩ [c_ 29, c_ 15] (alc ⟨rfl, by decide⟩ (alc ⟨rfl, by decide⟩ (alc (cok0 false (a2c (.z (frz_sl encI_ok (fun h => h))) (a2c (.z (frz_sl encI_ok (fun h => h))) a2n)) (.z .s) (fun h => absurd h (by decide))) aln))) (acal (laws_eqIntS.J k a0.f1 a1.f1 _ hx2) nocal) ?_
    by_cases c2 : x2 = true
    · rw [if_pos c2] at h
      refine .cond' (.tmp 16) false [c_ 30, c_ 31] (bF (nF c2)) ?_
      refine .reg' [4] [] ⟨[(4, (B true))], [(256, [(.sl true a0.f0.length 2 (a0.f0.flatMap e93)), (.sl true a0.f1.length 1 (a0.f1.flatMap encI))]), (257, [(.sl true a1.f0.length 2 (a1.f0.flatMap e93)), (.sl true a1.f1.length 1 (a1.f1.flatMap encI))])], [], []⟩ [c_ 31] aln nocal ?_
      have h := Option.some.inj h
      subst h
      exact .fin0 [] (B true) [] aln (.z .s)
    · rw [if_neg c2] at h
      refine .cond' (.tmp 16) true [c_ 116, c_ 117, c_ 15] (bT (nT (vF c2))) ?_
      refine .reg' [4] [] ⟨[(4, (B false))], [(256, [(.sl true a0.f0.length 2 (a0.f0.flatMap e93)), (.sl true a0.f1.length 1 (a0.f1.flatMap encI))]), (257, [(.sl true a1.f0.length 2 (a1.f0.flatMap e93)), (.sl true a1.f1.length 1 (a1.f1.flatMap encI))])], [], []⟩ [c_ 117, c_ 15] aln nocal ?_
      have h := Option.some.inj h
      subst h
      exact .fin0 [] (B false) [] aln (.z .s)
  · rw [if_neg c1] at h
    refine .cond' (.tmp 10) true [c_ 52, c_ 53, c_ 7] (bT (nT (vF c1))) ?_
    refine .reg' [4] [] ⟨[(4, (B false))], [(256, [(.sl true a0.f0.length 2 (a0.f0.flatMap e93)), (.sl true a0.f1.length 1 (a0.f1.flatMap encI))]), (257, [(.sl true a1.f0.length 2 (a1.f0.flatMap e93)), (.sl true a1.f1.length 1 (a1.f1.flatMap encI))])], [], []⟩ [c_ 53, c_ 7] aln nocal ?_
    have h := Option.some.inj h
    subst h
    exact .fin0 [] (B false) [] aln (.z .s)
/-! laws_eqRouteS: function 59 -/
def laws_eqRouteS.l0 : Nat → (List S83) → (List S83) → Int → Option Bool
 | 0, _, _, _ => none
 | k + 1, a0, a1, x1 => (if x1 < (a0.length : Int) then (if 0 ≤ x1 then (if x1 < (a1.length : Int) then ((laws_eqRoute.f k (at_ a0 x1) (at_ a1 x1)).bind fun x2 => (if x2 = true then (laws_eqRouteS.l0 k a0 a1 (wrap64 (x1 + 1))) else (some false))) else none) else none) else (some true))
def laws_eqRouteS.f (k : Nat) (a0 : (List S83)) (a1 : (List S83)) : Option Bool := (if (a0.length : Int) = (a1.length : Int) then (laws_eqRouteS.l0 k a0 a1 0) else (some false))
theorem laws_eqRouteS.lab : ∀ k, (∀ (a0 : (List S83)) (a1 : (List S83)) (x1 : Int) (r : Bool), laws_eqRouteS.l0 k a0 a1 x1 = some r → J prog (.run 59 [] [l_ 58, b_ 0, c_ 15] [(0, (.sl true a0.length 2 (a0.flatMap (e83 true)))), (1, (.sl true a1.length 2 (a1.flatMap (e83 true)))), (5, (I x1))] [] (B r) []))
 | 0 => (by intro a0 a1 x1 r h; unfold laws_eqRouteS.l0 at h; cases h)
 | k + 1 => by
  have ih := laws_eqRouteS.lab k
  have ih0 := ih
  · intro a0 a1 x1 r h
    unfold laws_eqRouteS.l0 at h
    refine .loop' [c_ 464, c_ 465, c_ 233, l_ 58, b_ 0, c_ 15] ?_
    refine .reg' [0, 1, 5, 14] [] ⟨[(0, (.sl true a0.length 2 (a0.flatMap (e83 true)))), (1, (.sl true a1.length 2 (a1.flatMap (e83 true)))), (5, (I x1)), (14, (B (decide (x1 < (a0.length : Int)))))], [], [], []⟩ [c_ 465, c_ 233, l_ 58, b_ 0, c_ 15] aln nocal ?_
    by_cases c2 : x1 < (a0.length : Int)
    · rw [if_pos c2] at h
      refine .cond' (.tmp 14) true [c_ 1864, c_ 1865, b_ 1, c_ 467, l_ 58, b_ 0, c_ 15] (bT (dT c2)) ?_
      by_cases c3 : 0 ≤ x1
      · rw [if_pos c3] at h
        by_cases c4 : x1 < (a1.length : Int)
        · rw [if_pos c4] at h
          obtain ⟨x2, hx2, h⟩ := Option.bind_eq_some_iff.mp h
          refine .reg' [0, 1, 5, 26] [.no, .no, .no, .v (.ag [(.sl true (at_ a0 x1).f0.length 2 ((at_ a0 x1).f0.flatMap e93)), (.sl true (at_ a0 x1).f1.length 1 ((at_ a0 x1).f1.flatMap encI))]), .no, .no, .no, .v (.ag [(.sl true (at_ a1 x1).f0.length 2 ((at_ a1 x1).f0.flatMap e93)), (.sl true (at_ a1 x1).f1.length 1 ((at_ a1 x1).f1.flatMap encI))]), .c ⟨101, [(.ag [(.sl true (at_ a0 x1).f0.length 2 ((at_ a0 x1).f0.flatMap e93)), (.sl true (at_ a0 x1).f1.length 1 ((at_ a0 x1).f1.flatMap encI))]), (.ag [(.sl true (at_ a1 x1).f0.length 2 ((at_ a1 x1).f0.flatMap e93)), (.sl true (at_ a1 x1).f1.length 1 ((at_ a1 x1).f1.flatMap encI))])], [], (B x2), [], [], [], [], (B x2), []⟩] ⟨[(0, (.sl true a0.length 2 (a0.flatMap (e83 true)))), (1, (.sl true a1.length 2 (a1.flatMap (e83 true)))), (5, (I x1)), (26, (B (!x2)))], [], [(0 : Int) ≤ x1 ∧ x1 < (a0.length : Int), rdC prog 84 ((a0.flatMap (e83 true)).drop (x1.toNat * 2)) = (.ag [(.sl true (at_ a0 x1).f0.length 2 ((at_ a0 x1).f0.flatMap e93)), (.sl true (at_ a0 x1).f1.length 1 ((at_ a0 x1).f1.flatMap encI))]), 2 ≤ ((a0.flatMap (e83 true)).drop (x1.toNat * 2)).length, (0 : Int) ≤ x1 ∧ x1 < (a1.length : Int), rdC prog 84 ((a1.flatMap (e83 true)).drop (x1.toNat * 2)) = (.ag [(.sl true (at_ a1 x1).f0.length 2 ((at_ a1 x1).f0.flatMap e93)), (.sl true (at_ a1 x1).f1.length 1 ((at_ a1 x1).f1.flatMap encI))]), 2 ≤ ((a1.flatMap (e83 true)).drop (x1.toNat * 2)).length, COK (hget []) [(.ag [(.sl true (at_ a0 x1).f0.length 2 ((at_ a0 x1).f0.flatMap e93)), (.sl true (at_ a0 x1).f1.length 1 ((at_ a0 x1).f1.flatMap encI))]), (.ag [(.sl true (at_ a1 x1).f0.length 2 ((at_ a1 x1).f0.flatMap e93)), (.sl true (at_ a1 x1).f1.length 1 ((at_ a1 x1).f1.flatMap encI))])] ⟨101, [(.ag [(.sl true (at_ a0 x1).f0.length 2 ((at_ a0 x1).f0.flatMap e93)), (.sl true (at_ a0 x1).f1.length 1 ((at_ a0 x1).f1.flatMap encI))]), (.ag [(.sl true (at_ a1 x1).f0.length 2 ((at_ a1 x1).f0.flatMap e93)), (.sl true (at_ a1 x1).f1.length 1 ((at_ a1 x1).f1.flatMap encI))])], [], (B x2), [], [], [], [], (B x2), []⟩], [⟨101, [(.ag [(.sl true (at_ a0 x1).f0.length 2 ((at_ a0 x1).f0.flatMap e93)), (.sl true (at_ a0 x1).f1.length 1 ((at_ a0 x1).f1.flatMap encI))]), (.ag [(.sl true (at_ a1 x1).f0.length 2 ((at_ a1 x1).f0.flatMap e93)), (.sl true (at_ a1 x1).f1.length 1 ((at_ a1 x1).f1.flatMap encI))])], [], (B x2), [], [], [], [], (B x2), []⟩]⟩ [c_ 1865, b_ 1, c_ 467, l_ 58, b_ 0, c_ 15] (alc ⟨c3, c2⟩ (alc (ldA (e83_ok true) rfl rfl c3 c2) (alc (okI (e83_ok true) c3 c2 (by decide)) (alc ⟨c3, c4⟩ (alc (ldA (e83_ok true) rfl rfl c3 c4) (alc (okI (e83_ok true) c3 c4 (by decide)) (alc (cok0 false (a2c (.z (frz_ag (a2c (frz_sl e93_ok (fun h => h)) (a2c (frz_sl encI_ok (fun h => h)) a2n)))) (a2c (.z (frz_ag (a2c (frz_sl e93_ok (fun h => h)) (a2c (frz_sl encI_ok (fun h => h)) a2n)))) a2n)) (.z .s) (fun h => absurd h (by decide))) aln))))))) (acal (laws_eqRoute.J k (at_ a0 x1) (at_ a1 x1) _ hx2) nocal) ?_
          by_cases c5 : x2 = true
          · rw [if_pos c5] at h
            refine .cond' (.tmp 26) false [c_ 467, l_ 58, b_ 0, c_ 15] (bF (nF c5)) ?_
            refine .reg' [0, 1, 5] [] ⟨[(0, (.sl true a0.length 2 (a0.flatMap (e83 true)))), (1, (.sl true a1.length 2 (a1.flatMap (e83 true)))), (5, (I (wrap64 (x1 + 1))))], [], [], []⟩ [l_ 58, b_ 0, c_ 15] aln nocal ?_
            exact ih0 a0 a1 (wrap64 (x1 + 1)) _ h
          · rw [if_neg c5] at h
            refine .cond' (.tmp 26) true [c_ 7460, c_ 7461, b_ 1, c_ 467, l_ 58, b_ 0, c_ 15] (bT (nT (vF c5))) ?_
            refine .reg' [4] [] ⟨[(4, (B false))], [], [], []⟩ [c_ 7461, b_ 1, c_ 467, l_ 58, b_ 0, c_ 15] aln nocal ?_
            have h := Option.some.inj h
            subst h
            exact .fin0 [] (B false) [] aln (.z .s)
        · rw [if_neg c4] at h
          cases h
      · rw [if_neg c3] at h
        cases h
    · rw [if_neg c2] at h
      refine .cond' (.tmp 14) false [c_ 30, c_ 31] (bF (dF c2)) ?_
      refine .reg' [4] [] ⟨[(4, (B true))], [], [], []⟩ [c_ 31] aln nocal ?_
      have h := Option.some.inj h
      subst h
      exact .fin0 [] (B true) [] aln (.z .s)
theorem laws_eqRouteS.J (k : Nat) (a0 : (List S83)) (a1 : (List S83)) (r : Bool) (h : laws_eqRouteS.f k a0 a1 = some r) : J prog (.call 59 [(.sl true a0.length 2 (a0.flatMap (e83 true))), (.sl true a1.length 2 (a1.flatMap (e83 true)))] [] (B r) []) := by
  unfold laws_eqRouteS.f at h
  have ih0 := laws_eqRouteS.lab k
  refine .call' [c_ 2, c_ 3] ?_
  refine .reg' [0, 1] [] ⟨[(0, (.sl true a0.length 2 (a0.flatMap (e83 true)))), (1, (.sl true a1.length 2 (a1.flatMap (e83 true))))], [], [], []⟩ [c_ 12, c_ 13, c_ 7] aln nocal ?_
  refine .reg' [0, 1, 10] [] ⟨[(0, (.sl true a0.length 2 (a0.flatMap (e83 true)))), (1, (.sl true a1.length 2 (a1.flatMap (e83 true)))), (10, (B (!((a0.length : Int) == (a1.length : Int)))))], [], [], []⟩ [c_ 13, c_ 7] aln nocal ?_
  by_cases c1 : (a0.length : Int) = (a1.length : Int)
  · rw [if_pos c1] at h
    refine .cond' (.tmp 10) false [c_ 28, c_ 29, c_ 15] (bF (nF (qT c1))) ?_
    refine .reg' [0, 1, 5] [] ⟨[(0, (.sl true a0.length 2 (a0.flatMap (e83 true)))), (1, (.sl true a1.length 2 (a1.flatMap (e83 true)))), (5, (I 0))], [], [], []⟩ [l_ 58, b_ 0, c_ 15] aln nocal ?_
    exact ih0 a0 a1 0 _ h
  · rw [if_neg c1] at h
    refine .cond' (.tmp 10) true [c_ 52, c_ 53, c_ 7] (bT (nT (qF c1))) ?_
    refine .reg' [4] [] ⟨[(4, (B false))], [], [], []⟩ [c_ 53, c_ 7] aln nocal ?_
    have h := Option.some.inj h
    subst h
    exact .fin0 [] (B false) [] aln (.z .s)
/-! laws_eqPlant: function 14 -/
def laws_eqPlant.f (k : Nat) (a0 : S29) (a1 : S29) : Option Bool := ((laws_eqIntS.f k a0.f0 a1.f0).bind fun x1 => (if x1 = true then (if a0.f1 = a1.f1 then ((laws_eqRouteS.f k a0.f2 a1.f2).bind fun x2 => (if x2 = true then (some true) else (some false))) else (some false)) else (some false)))
theorem laws_eqPlant.J (k : Nat) (a0 : S29) (a1 : S29) (r : Bool) (h : laws_eqPlant.f k a0 a1 = some r) : J prog (.call 14 [(.ag [(.sl true a0.f0.length 1 (a0.f0.flatMap encI)), (I a0.f1), (.sl true a0.f2.length 2 (a0.f2.flatMap (e83 true)))]), (.ag [(.sl true a1.f0.length 1 (a1.f0.flatMap encI)), (I a1.f1), (.sl true a1.f2.length 2 (a1.f2.flatMap (e83 true)))])] [] (B r) []) := by
  unfold laws_eqPlant.f at h
  refine .call' [c_ 2, c_ 3] ?_
  refine .reg' [2, 3] [] ⟨[(2, (.pt 256 0 3)), (3, (.pt 257 0 3))], [(256, [(.sl true a0.f0.length 1 (a0.f0.flatMap encI)), (I a0.f1), (.sl true a0.f2.length 2 (a0.f2.flatMap (e83 true)))]), (257, [(.sl true a1.f0.length 1 (a1.f0.flatMap encI)), (I a1.f1), (.sl true a1.f2.length 2 (a1.f2.flatMap (e83 true)))])], [], []⟩ [c_ 12, c_ 13, c_ 7] aln nocal ?_
  obtain ⟨x1, hx1, h⟩ := Option.bind_eq_some_iff.mp h
  refine .reg' [2, 3, 10] [.no, .no, .no, .no, .c ⟨41, [(.sl true a0.f0.length 1 (a0.f0.flatMap encI)), (.sl true a1.f0.length 1 (a1.f0.flatMap encI))], [], (B x1), [], [], [], [], (B x1), []⟩] ⟨[(2, (.pt 256 0 3)), (3, (.pt 257 0 3)), (10, (B (!x1)))], [(256, [(.sl true a0.f0.length 1 (a0.f0.flatMap encI)), (I a0.f1), (.sl true a0.f2.length 2 (a0.f2.flatMap (e83 true)))]), (257, [(.sl true a1.f0.length 1 (a1.f0.flatMap encI)), (I a1.f1), (.sl true a1.f2.length 2 (a1.f2.flatMap (e83 true)))])], [3 = 3 ∧ 0 + 1 ≤ 3, 3 = 3 ∧ 0 + 1 ≤ 3, COK (hget [(256, [(.sl true a0.f0.length 1 (a0.f0.flatMap encI)), (I a0.f1), (.sl true a0.f2.length 2 (a0.f2.flatMap (e83 true)))]), (257, [(.sl true a1.f0.length 1 (a1.f0.flatMap encI)), (I a1.f1), (.sl true a1.f2.length 2 (a1.f2.flatMap (e83 true)))])]) [(.sl true a0.f0.length 1 (a0.f0.flatMap encI)), (.sl true a1.f0.length 1 (a1.f0.flatMap encI))] ⟨41, [(.sl true a0.f0.length 1 (a0.f0.flatMap encI)), (.sl true a1.f0.length 1 (a1.f0.flatMap encI))], [], (B x1), [], [], [], [], (B x1), []⟩], [⟨41, [(.sl true a0.f0.length 1 (a0.f0.flatMap encI)), (.sl true a1.f0.length 1 (a1.f0.flatMap encI))], [], (B x1), [], [], [], [], (B x1), []⟩]⟩ [c_ 13, c_ 7] (alc ⟨rfl, by decide⟩ (alc ⟨rfl, by decide⟩ (alc (cok0 false (a2c (.z (frz_sl encI_ok (fun h => h))) (a2c (.z (frz_sl encI_ok (fun h => h))) a2n)) (.z .s) (fun h => absurd h (by decide))) aln))) (acal (laws_eqIntS.J k a0.f0 a1.f0 _ hx1) nocal) ?_
  by_cases c1 : x1 = true
  · rw [if_pos c1] at h
    refine .cond' (.tmp 10) false [c_ 28, c_ 29, c_ 15] (bF (nF c1)) ?_
    refine .reg' [2, 3, 15] [] ⟨[(2, (.pt 256 0 3)), (3, (.pt 257 0 3)), (15, (B (!(a0.f1 == a1.f1))))], [(256, [(.sl true a0.f0.length 1 (a0.f0.flatMap encI)), (I a0.f1), (.sl true a0.f2.length 2 (a0.f2.flatMap (e83 true)))]), (257, [(.sl true a1.f0.length 1 (a1.f0.flatMap encI)), (I a1.f1), (.sl true a1.f2.length 2 (a1.f2.flatMap (e83 true)))])], [3 = 3 ∧ 1 + 1 ≤ 3, 3 = 3 ∧ 1 + 1 ≤ 3], []⟩ [c_ 29, c_ 15] (alc ⟨rfl, by decide⟩ (alc ⟨rfl, by decide⟩ aln)) nocal ?_
    by_cases c2 : a0.f1 = a1.f1
    · rw [if_pos c2] at h
      refine .cond' (.tmp 15) false [c_ 60, c_ 61, c_ 31] (bF (nF (qT c2))) ?_
      obtain ⟨x2, hx2, h⟩ := Option.bind_eq_some_iff.mp h
      refine .reg' [21] [.no, .no, .no, .no, .c ⟨59, [(.sl true a0.f2.length 2 (a0.f2.flatMap (e83 true))), (.sl true a1.f2.length 2 (a1.f2.flatMap (e83 true)))], [], (B x2), [], [], [], [], (B x2), []⟩] ⟨[(21, (B (!x2)))], [(256, [(.sl true a0.f0.length 1 (a0.f0.flatMap encI)), (I a0.f1), (.sl true a0.f2.length 2 (a0.f2.flatMap (e83 true)))]), (257, [(.sl true a1.f0.length 1 (a1.f0.flatMap encI)), (I a1.f1), (.sl true a1.f2.length 2 (a1.f2.flatMap (e83 true)))])], [3 = 3 ∧ 2 + 1 ≤ 3, 3 = 3 ∧ 2 + 1 ≤ 3, COK (hget [(256, [(.sl true a0.f0.length 1 (a0.f0.flatMap encI)), (I a0.f1), (.sl true a0.f2.length 2 (a0.f2.flatMap (e83 true)))]), (257, [(.sl true a1.f0.length 1 (a1.f0.flatMap encI)), (I a1.f1), (.sl true a1.f2.length 2 (a1.f2.flatMap (e83 true)))])]) [(.sl true a0.f2.length 2 (a0.f2.flatMap (e83 true))), (.sl true a1.f2.length 2 (a1.f2.flatMap (e83 true)))] ⟨59, [(.sl true a0.f2.length 2 (a0.f2.flatMap (e83 true))), (.sl true a1.f2.length 2 (a1.f2.flatMap (e83 true)))], [], (B x2), [], [], [], [], (B x2), []⟩], [⟨59, [(.sl true a0.f2.length 2 (a0.f2.flatMap (e83 true))), (.sl true a1.f2.length 2 (a1.f2.flatMap (e83 true)))], [], (B x2), [], [], [], [], (B x2), []⟩]⟩ [c_ 61, c_ 31] (alc ⟨rfl, by decide⟩ (alc ⟨rfl, by decide⟩ (alc (cok0 false (a2c (.z (frz_sl (e83_ok true) (fun h => h))) (a2c (.z (frz_sl (e83_ok true) (fun h => h))) a2n)) (.z .s) (fun h => absurd h (by decide))) aln))) (acal (laws_eqRouteS.J k a0.f2 a1.f2 _ hx2) nocal) ?_
      by_cases c3 : x2 = true
      · rw [if_pos c3] at h
        refine .cond' (.tmp 21) false [c_ 62, c_ 63] (bF (nF c3)) ?_
        refine .reg' [4] [] ⟨[(4, (B true))], [(256, [(.sl true a0.f0.length 1 (a0.f0.flatMap encI)), (I a0.f1), (.sl true a0.f2.length 2 (a0.f2.flatMap (e83 true)))]), (257, [(.sl true a1.f0.length 1 (a1.f0.flatMap encI)), (I a1.f1), (.sl true a1.f2.length 2 (a1.f2.flatMap (e83 true)))])], [], []⟩ [c_ 63] aln nocal ?_
        have h := Option.some.inj h
        subst h
        exact .fin0 [] (B true) [] aln (.z .s)
      · rw [if_neg c3] at h
        refine .cond' (.tmp 21) true [c_ 244, c_ 245, c_ 31] (bT (nT (vF c3))) ?_
        refine .reg' [4] [] ⟨[(4, (B false))], [(256, [(.sl true a0.f0.length 1 (a0.f0.flatMap encI)), (I a0.f1), (.sl true a0.f2.length 2 (a0.f2.flatMap (e83 true)))]), (257, [(.sl true a1.f0.length 1 (a1.f0.flatMap encI)), (I a1.f1), (.sl true a1.f2.length 2 (a1.f2.flatMap (e83 true)))])], [], []⟩ [c_ 245, c_ 31] aln nocal ?_
        have h := Option.some.inj h
        subst h
        exact .fin0 [] (B false) [] aln (.z .s)
    · rw [if_neg c2] at h
      refine .cond' (.tmp 15) true [c_ 116, c_ 117, c_ 15] (bT (nT (qF c2))) ?_
      refine .reg' [4] [] ⟨[(4, (B false))], [(256, [(.sl true a0.f0.length 1 (a0.f0.flatMap encI)), (I a0.f1), (.sl true a0.f2.length 2 (a0.f2.flatMap (e83 true)))]), (257, [(.sl true a1.f0.length 1 (a1.f0.flatMap encI)), (I a1.f1), (.sl true a1.f2.length 2 (a1.f2.flatMap (e83 true)))])], [], []⟩ [c_ 117, c_ 15] aln nocal ?_
      have h := Option.some.inj h
      subst h
      exact .fin0 [] (B false) [] aln (.z .s)
  · rw [if_neg c1] at h
    refine .cond' (.tmp 10) true [c_ 52, c_ 53, c_ 7] (bT (nT (vF c1))) ?_
    refine .reg' [4] [] ⟨[(4, (B false))], [(256, [(.sl true a0.f0.length 1 (a0.f0.flatMap encI)), (I a0.f1), (.sl true a0.f2.length 2 (a0.f2.flatMap (e83 true)))]), (257, [(.sl true a1.f0.length 1 (a1.f0.flatMap encI)), (I a1.f1), (.sl true a1.f2.length 2 (a1.f2.flatMap (e83 true)))])], [], []⟩ [c_ 53, c_ 7] aln nocal ?_
    have h := Option.some.inj h
    subst h
    exact .fin0 [] (B false) [] aln (.z .s)
/-! laws_eqBoolS: function 62 -/
def laws_eqBoolS.l0 : Nat → (List Bool) → (List Bool) → Int → Option Bool
 | 0, _, _, _ => none
 | k + 1, a0, a1, x1 => (if x1 < (a0.length : Int) then (if 0 ≤ x1 then (if x1 < (a1.length : Int) then (if ((at_ a0 x1) == (at_ a1 x1)) = true then (laws_eqBoolS.l0 k a0 a1 (wrap64 (x1 + 1))) else (some false)) else none) else none) else (some true))
def laws_eqBoolS.f (k : Nat) (a0 : (List Bool)) (a1 : (List Bool)) : Option Bool := (if (a0.length : Int) = (a1.length : Int) then (laws_eqBoolS.l0 k a0 a1 0) else (some false))
theorem laws_eqBoolS.lab : ∀ k, (∀ (a0 : (List Bool)) (a1 : (List Bool)) (x1 : Int) (r : Bool), laws_eqBoolS.l0 k a0 a1 x1 = some r → J prog (.run 62 [] [l_ 58, b_ 0, c_ 15] [(0, (.sl true a0.length 1 (a0.flatMap encB))), (1, (.sl true a1.length 1 (a1.flatMap encB))), (5, (I x1))] [] (B r) []))
 | 0 => (by intro a0 a1 x1 r h; unfold laws_eqBoolS.l0 at h; cases h)
 | k + 1 => by
  have ih := laws_eqBoolS.lab k
  have ih0 := ih
  · intro a0 a1 x1 r h
    unfold laws_eqBoolS.l0 at h
    refine .loop' [c_ 464, c_ 465, c_ 233, l_ 58, b_ 0, c_ 15] ?_
    refine .reg' [0, 1, 5, 14] [] ⟨[(0, (.sl true a0.length 1 (a0.flatMap encB))), (1, (.sl true a1.length 1 (a1.flatMap encB))), (5, (I x1)), (14, (B (decide (x1 < (a0.length : Int)))))], [], [], []⟩ [c_ 465, c_ 233, l_ 58, b_ 0, c_ 15] aln nocal ?_
    by_cases c2 : x1 < (a0.length : Int)
    · rw [if_pos c2] at h
      refine .cond' (.tmp 14) true [c_ 1864, c_ 1865, b_ 1, c_ 467, l_ 58, b_ 0, c_ 15] (bT (dT c2)) ?_
      by_cases c3 : 0 ≤ x1
      · rw [if_pos c3] at h
        by_cases c4 : x1 < (a1.length : Int)
        · rw [if_pos c4] at h
          refine .reg' [0, 1, 5, 25] [.no, .no, .no, .v (B (at_ a0 x1)), .no, .no, .no, .v (B (at_ a1 x1))] ⟨[(0, (.sl true a0.length 1 (a0.flatMap encB))), (1, (.sl true a1.length 1 (a1.flatMap encB))), (5, (I x1)), (25, (B (!((at_ a0 x1) == (at_ a1 x1)))))], [], [(0 : Int) ≤ x1 ∧ x1 < (a0.length : Int), rdC prog 4 ((a0.flatMap encB).drop (x1.toNat * 1)) = (B (at_ a0 x1)), 1 ≤ ((a0.flatMap encB).drop (x1.toNat * 1)).length, (0 : Int) ≤ x1 ∧ x1 < (a1.length : Int), rdC prog 4 ((a1.flatMap encB).drop (x1.toNat * 1)) = (B (at_ a1 x1)), 1 ≤ ((a1.flatMap encB).drop (x1.toNat * 1)).length], []⟩ [c_ 1865, b_ 1, c_ 467, l_ 58, b_ 0, c_ 15] (alc ⟨c3, c2⟩ (alc (ldC1 encB_ok rfl c3 c2) (alc (okI encB_ok c3 c2 (by decide)) (alc ⟨c3, c4⟩ (alc (ldC1 encB_ok rfl c3 c4) (alc (okI encB_ok c3 c4 (by decide)) aln)))))) nocal ?_
          by_cases c5 : ((at_ a0 x1) == (at_ a1 x1)) = true
          · rw [if_pos c5] at h
            refine .cond' (.tmp 25) false [c_ 467, l_ 58, b_ 0, c_ 15] (bF (nF c5)) ?_
            refine .reg' [0, 1, 5] [] ⟨[(0, (.sl true a0.length 1 (a0.flatMap encB))), (1, (.sl true a1.length 1 (a1.flatMap encB))), (5, (I (wrap64 (x1 + 1))))], [], [], []⟩ [l_ 58, b_ 0, c_ 15] aln nocal ?_
            exact ih0 a0 a1 (wrap64 (x1 + 1)) _ h
          · rw [if_neg c5] at h
            refine .cond' (.tmp 25) true [c_ 7460, c_ 7461, b_ 1, c_ 467, l_ 58, b_ 0, c_ 15] (bT (nT (vF c5))) ?_
            refine .reg' [4] [] ⟨[(4, (B false))], [], [], []⟩ [c_ 7461, b_ 1, c_ 467, l_ 58, b_ 0, c_ 15] aln nocal ?_
            have h := Option.some.inj h
            subst h
            exact .fin0 [] (B false) [] aln (.z .s)
        · rw [if_neg c4] at h
          cases h
      · rw [if_neg c3] at h
        cases h
    · rw [if_neg c2] at h
      refine .cond' (.tmp 14) false [c_ 30, c_ 31] (bF (dF c2)) ?_
      refine .reg' [4] [] ⟨[(4, (B true))], [], [], []⟩ [c_ 31] aln nocal ?_
      have h := Option.some.inj h
      subst h
      exact .fin0 [] (B true) [] aln (.z .s)
theorem laws_eqBoolS.J (k : Nat) (a0 : (List Bool)) (a1 : (List Bool)) (r : Bool) (h : laws_eqBoolS.f k a0 a1 = some r) : J prog (.call 62 [(.sl true a0.length 1 (a0.flatMap encB)), (.sl true a1.length 1 (a1.flatMap encB))] [] (B r) []) := by
  unfold laws_eqBoolS.f at h
  have ih0 := laws_eqBoolS.lab k
  refine .call' [c_ 2, c_ 3] ?_
  refine .reg' [0, 1] [] ⟨[(0, (.sl true a0.length 1 (a0.flatMap encB))), (1, (.sl true a1.length 1 (a1.flatMap encB)))], [], [], []⟩ [c_ 12, c_ 13, c_ 7] aln nocal ?_
  refine .reg' [0, 1, 10] [] ⟨[(0, (.sl true a0.length 1 (a0.flatMap encB))), (1, (.sl true a1.length 1 (a1.flatMap encB))), (10, (B (!((a0.length : Int) == (a1.length : Int)))))], [], [], []⟩ [c_ 13, c_ 7] aln nocal ?_
  by_cases c1 : (a0.length : Int) = (a1.length : Int)
  · rw [if_pos c1] at h
    refine .cond' (.tmp 10) false [c_ 28, c_ 29, c_ 15] (bF (nF (qT c1))) ?_
    refine .reg' [0, 1, 5] [] ⟨[(0, (.sl true a0.length 1 (a0.flatMap encB))), (1, (.sl true a1.length 1 (a1.flatMap encB))), (5, (I 0))], [], [], []⟩ [l_ 58, b_ 0, c_ 15] aln nocal ?_
    exact ih0 a0 a1 0 _ h
  · rw [if_neg c1] at h
    refine .cond' (.tmp 10) true [c_ 52, c_ 53, c_ 7] (bT (nT (qF c1))) ?_
    refine .reg' [4] [] ⟨[(4, (B false))], [], [], []⟩ [c_ 53, c_ 7] aln nocal ?_
    have h := Option.some.inj h
    subst h
    exact .fin0 [] (B false) [] aln (.z .s)
/-! laws_eqLocking: function 19 -/
def laws_eqLocking.f (k : Nat) (a0 : S37) (a1 : S37) : Option Bool := ((laws_eqIntS.f k a0.f0 a1.f0).bind fun x1 => (if x1 = true then ((laws_eqBoolS.f k a0.f1 a1.f1).bind fun x2 => (if x2 = true then ((laws_eqBoolS.f k a0.f2 a1.f2).bind fun x3 => (if x3 = true then (some true) else (some false))) else (some false))) else (some false)))
theorem laws_eqLocking.J (k : Nat) (a0 : S37) (a1 : S37) (r : Bool) (h : laws_eqLocking.f k a0 a1 = some r) : J prog (.call 19 [(.ag [(.sl true a0.f0.length 1 (a0.f0.flatMap encI)), (.sl true a0.f1.length 1 (a0.f1.flatMap encB)), (.sl true a0.f2.length 1 (a0.f2.flatMap encB))]), (.ag [(.sl true a1.f0.length 1 (a1.f0.flatMap encI)), (.sl true a1.f1.length 1 (a1.f1.flatMap encB)), (.sl true a1.f2.length 1 (a1.f2.flatMap encB))])] [] (B r) []) := by
  unfold laws_eqLocking.f at h
  refine .call' [c_ 2, c_ 3] ?_
  refine .reg' [2, 3] [] ⟨[(2, (.pt 256 0 3)), (3, (.pt 257 0 3))], [(256, [(.sl true a0.f0.length 1 (a0.f0.flatMap encI)), (.sl true a0.f1.length 1 (a0.f1.flatMap encB)), (.sl true a0.f2.length 1 (a0.f2.flatMap encB))]), (257, [(.sl true a1.f0.length 1 (a1.f0.flatMap encI)), (.sl true a1.f1.length 1 (a1.f1.flatMap encB)), (.sl true a1.f2.length 1 (a1.f2.flatMap encB))])], [], []⟩ [c_ 12, c_ 13, c_ 7] aln nocal ?_
  obtain ⟨x1, hx1, h⟩ := Option.bind_eq_some_iff.mp h
  refine .reg' [2, 3, 10] [.no, .no, .no, .no, .c ⟨41, [(.sl true a0.f0.length 1 (a0.f0.flatMap encI)), (.sl true a1.f0.length 1 (a1.f0.flatMap encI))], [], (B x1), [], [], [], [], (B x1), []⟩] ⟨[(2, (.pt 256 0 3)), (3, (.pt 257 0 3)), (10, (B (!x1)))], [(256, [(.sl true a0.f0.length 1 (a0.f0.flatMap encI)), (.sl true a0.f1.length 1 (a0.f1.flatMap encB)), (.sl true a0.f2.length 1 (a0.f2.flatMap encB))]), (257, [(.sl true a1.f0.length 1 (a1.f0.flatMap encI)), (.sl true a1.f1.length 1 (a1.f1.flatMap encB)), (.sl true a1.f2.length 1 (a1.f2.flatMap encB))])], [3 = 3 ∧ 0 + 1 ≤ 3, 3 = 3 ∧ 0 + 1 ≤ 3, COK (hget [(256, [(.sl true a0.f0.length 1 (a0.f0.flatMap encI)), (.sl true a0.f1.length 1 (a0.f1.flatMap encB)), (.sl true a0.f2.length 1 (a0.f2.flatMap encB))]), (257, [(.sl true a1.f0.length 1 (a1.f0.flatMap encI)), (.sl true a1.f1.length 1 (a1.f1.flatMap encB)), (.sl true a1.f2.length 1 (a1.f2.flatMap encB))])]) [(.sl true a0.f0.length 1 (a0.f0.flatMap encI)), (.sl true a1.f0.length 1 (a1.f0.flatMap encI))] ⟨41, [(.sl true a0.f0.length 1 (a0.f0.flatMap encI)), (.sl true a1.f0.length 1 (a1.f0.flatMap encI))], [], (B x1), [], [], [], [], (B x1), []⟩], [⟨41, [(.sl true a0.f0.length 1 (a0.f0.flatMap encI)), (.sl true a1.f0.length 1 (a1.f0.flatMap encI))], [], (B x1), [], [], [], [], (B x1), []⟩]⟩ [c_ 13, c_ 7] (alc ⟨rfl, by decide⟩ (alc ⟨rfl, by decide⟩ (alc (cok0 false (a2c (.z (frz_sl encI_ok (fun h => h))) (a2c (.z (frz_sl encI_ok (fun h => h))) a2n)) (.z .s) (fun h => absurd h (by decide))) aln))) (acal (laws_eqIntS.J k a0.f0 a1.f0 _ hx1) nocal) ?_
  by_cases c1 : x1 = true
  · rw [if_pos c1] at h
    refine .cond' (.tmp 10) false [c_ 28, c_ 29, c_ 15] (bF (nF c1)) ?_
    obtain ⟨x2, hx2, h⟩ := Option.bind_eq_some_iff.mp h
    refine .reg' [2, 3, 16] [.no, .no, .no, .no, .c ⟨62, [(.sl true a0.f1.length 1 (a0.f1.flatMap encB)), (.sl true a1.f1.length 1 (a1.f1.flatMap encB))], [], (B x2), [], [], [], [], (B x2), []⟩] ⟨[(2, (.pt 256 0 3)), (3, (.pt 257 0 3)), (16, (B (!x2)))], [(256, [(.sl true a0.f0.length 1 (a0.f0.flatMap encI)), (.sl true a0.f1.length 1 (a0.f1.flatMap encB)), (.sl true a0.f2.length 1 (a0.f2.flatMap encB))]), (257, [(.sl true a1.f0.length 1 (a1.f0.flatMap encI)), (.sl true a1.f1.length 1 (a1.f1.flatMap encB)), (.sl true a1.f2.length 1 (a1.f2.flatMap encB))])], [3 = 3 ∧ 1 + 1 ≤ 3, 3 = 3 ∧ 1 + 1 ≤ 3, COK (hget [(256, [(.sl true a0.f0.length 1 (a0.f0.flatMap encI)), (.sl true a0.f1.length 1 (a0.f1.flatMap encB)), (.sl true a0.f2.length 1 (a0.f2.flatMap encB))]), (257, [(.sl true a1.f0.length 1 (a1.f0.flatMap encI)), (.sl true a1.f1.length 1 (a1.f1.flatMap encB)), (.sl true a1.f2.length 1 (a1.f2.flatMap encB))])]) [(.sl true a0.f1.length 1 (a0.f1.flatMap encB)), (.sl true a1.f1.length 1 (a1.f1.flatMap encB))] ⟨62, [(.sl true a0.f1.length 1 (a0.f1.flatMap encB)), (.sl true a1.f1.length 1 (a1.f1.flatMap encB))], [], (B x2), [], [], [], [], (B x2), []⟩], [⟨62, [(.sl true a0.f1.length 1 (a0.f1.flatMap encB)), (.sl true a1.f1.length 1 (a1.f1.flatMap encB))], [], (B x2), [], [], [], [], (B x2), []⟩]⟩ [c_ 29, c_ 15] (alc ⟨rfl, by decide⟩ (alc ⟨rfl, by decide⟩ (alc (cok0 false (a2c (.z (frz_sl encB_ok (fun h => h))) (a2c (.z (frz_sl encB_ok (fun h => h))) a2n)) (.z .s) (fun h => absurd h (by decide))) aln))) (acal (laws_eqBoolS.J k a0.f1 a1.f1 _ hx2) nocal) ?_
    by_cases c2 : x2 = true
    · rw [if_pos c2] at h
      refine .cond' (.tmp 16) false [c_ 60, c_ 61, c_ 31] (bF (nF c2)) ?_
      obtain ⟨x3, hx3, h⟩ := Option.bind_eq_some_iff.mp h
      refine .reg' [22] [.no, .no, .no, .no, .c ⟨62, [(.sl true a0.f2.length 1 (a0.f2.flatMap encB)), (.sl true a1.f2.length 1 (a1.f2.flatMap encB))], [], (B x3), [], [], [], [], (B x3), []⟩] ⟨[(22, (B (!x3)))], [(256, [(.sl true a0.f0.length 1 (a0.f0.flatMap encI)), (.sl true a0.f1.length 1 (a0.f1.flatMap encB)), (.sl true a0.f2.length 1 (a0.f2.flatMap encB))]), (257, [(.sl true a1.f0.length 1 (a1.f0.flatMap encI)), (.sl true a1.f1.length 1 (a1.f1.flatMap encB)), (.sl true a1.f2.length 1 (a1.f2.flatMap encB))])], [3 = 3 ∧ 2 + 1 ≤ 3, 3 = 3 ∧ 2 + 1 ≤ 3, COK (hget [(256, [(.sl true a0.f0.length 1 (a0.f0.flatMap encI)), (.sl true a0.f1.length 1 (a0.f1.flatMap encB)), (.sl true a0.f2.length 1 (a0.f2.flatMap encB))]), (257, [(.sl true a1.f0.length 1 (a1.f0.flatMap encI)), (.sl true a1.f1.length 1 (a1.f1.flatMap encB)), (.sl true a1.f2.length 1 (a1.f2.flatMap encB))])]) [(.sl true a0.f2.length 1 (a0.f2.flatMap encB)), (.sl true a1.f2.length 1 (a1.f2.flatMap encB))] ⟨62, [(.sl true a0.f2.length 1 (a0.f2.flatMap encB)), (.sl true a1.f2.length 1 (a1.f2.flatMap encB))], [], (B x3), [], [], [], [], (B x3), []⟩], [⟨62, [(.sl true a0.f2.length 1 (a0.f2.flatMap encB)), (.sl true a1.f2.length 1 (a1.f2.flatMap encB))], [], (B x3), [], [], [], [], (B x3), []⟩]⟩ [c_ 61, c_ 31] (alc ⟨rfl, by decide⟩ (alc ⟨rfl, by decide⟩ (alc (cok0 false (a2c (.z (frz_sl encB_ok (fun h => h))) (a2c (.z (frz_sl encB_ok (fun h => h))) a2n)) (.z .s) (fun h => absurd h (by decide))) aln))) (acal (laws_eqBoolS.J k a0.f2 a1.f2 _ hx3) nocal) ?_
      by_cases c3 : x3 = true
      · rw [if_pos c3] at h
        refine .cond' (.tmp 22) false [c_ 62, c_ 63] (bF (nF c3)) ?_
        refine .reg' [4] [] ⟨[(4, (B true))], [(256, [(.sl true a0.f0.length 1 (a0.f0.flatMap encI)), (.sl true a0.f1.length 1 (a0.f1.flatMap encB)), (.sl true a0.f2.length 1 (a0.f2.flatMap encB))]), (257, [(.sl true a1.f0.length 1 (a1.f0.flatMap encI)), (.sl true a1.f1.length 1 (a1.f1.flatMap encB)), (.sl true a1.f2.length 1 (a1.f2.flatMap encB))])], [], []⟩ [c_ 63] aln nocal ?_
        have h := Option.some.inj h
        subst h
        exact .fin0 [] (B true) [] aln (.z .s)
      · rw [if_neg c3] at h
        refine .cond' (.tmp 22) true [c_ 244, c_ 245, c_ 31] (bT (nT (vF c3))) ?_
        refine .reg' [4] [] ⟨[(4, (B false))], [(256, [(.sl true a0.f0.length 1 (a0.f0.flatMap encI)), (.sl true a0.f1.length 1 (a0.f1.flatMap encB)), (.sl true a0.f2.length 1 (a0.f2.flatMap encB))]), (257, [(.sl true a1.f0.length 1 (a1.f0.flatMap encI)), (.sl true a1.f1.length 1 (a1.f1.flatMap encB)), (.sl true a1.f2.length 1 (a1.f2.flatMap encB))])], [], []⟩ [c_ 245, c_ 31] aln nocal ?_
        have h := Option.some.inj h
        subst h
        exact .fin0 [] (B false) [] aln (.z .s)
    · rw [if_neg c2] at h
      refine .cond' (.tmp 16) true [c_ 116, c_ 117, c_ 15] (bT (nT (vF c2))) ?_
      refine .reg' [4] [] ⟨[(4, (B false))], [(256, [(.sl true a0.f0.length 1 (a0.f0.flatMap encI)), (.sl true a0.f1.length 1 (a0.f1.flatMap encB)), (.sl true a0.f2.length 1 (a0.f2.flatMap encB))]), (257, [(.sl true a1.f0.length 1 (a1.f0.flatMap encI)), (.sl true a1.f1.length 1 (a1.f1.flatMap encB)), (.sl true a1.f2.length 1 (a1.f2.flatMap encB))])], [], []⟩ [c_ 117, c_ 15] aln nocal ?_
      have h := Option.some.inj h
      subst h
      exact .fin0 [] (B false) [] aln (.z .s)
  · rw [if_neg c1] at h
    refine .cond' (.tmp 10) true [c_ 52, c_ 53, c_ 7] (bT (nT (vF c1))) ?_
    refine .reg' [4] [] ⟨[(4, (B false))], [(256, [(.sl true a0.f0.length 1 (a0.f0.flatMap encI)), (.sl true a0.f1.length 1 (a0.f1.flatMap encB)), (.sl true a0.f2.length 1 (a0.f2.flatMap encB))]), (257, [(.sl true a1.f0.length 1 (a1.f0.flatMap encI)), (.sl true a1.f1.length 1 (a1.f1.flatMap encB)), (.sl true a1.f2.length 1 (a1.f2.flatMap encB))])], [], []⟩ [c_ 53, c_ 7] aln nocal ?_
    have h := Option.some.inj h
    subst h
    exact .fin0 [] (B false) [] aln (.z .s)
/-! laws_FnExactLockingOk: function 6 -/
def laws_FnExactLockingOk.f (k : Nat) (a0 : S24) (a1 : S37) : Option Bool := ((laws_szPlant.f k a0 1048576).bind fun x1 => (if x1 < 0 then (some true) else ((laws_szLocking.f a1 x1).bind fun x2 => (if x2 < 0 then (some true) else ((laws_toPlant.f k a0).bind fun x3 => ((laws_toLocking.f k a1).bind fun x4 => ((spec_LockingOk.f k x3 x4).bind fun x5 => ((laws_toPlant.f k a0).bind fun x6 => ((laws_toLocking.f k a1).bind fun x7 => ((impl_LockingOk.f k x6 x7).bind fun x8 => (if (x8 == x5) = true then ((laws_toPlant.f k a0).bind fun x9 => ((laws_eqPlant.f k x6 x9).bind fun x10 => (if x10 = true then ((laws_toLocking.f k a1).bind fun x11 => ((laws_eqLocking.f k x7 x11).bind fun x12 => (if x12 = true then (some true) else (some false)))) else (some false)))) else (some false))))))))))))
end Go.Proofs.Ytjfjifnmfnlfoaa.Fns
