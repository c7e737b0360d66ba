/- The functions that the law FnExactSettle reaches, by the engine. Printed by a program of this seat. -/
import Derived.Test.YtebgaiokpncacaaE5
import Derived.Test.YtebgaiokpncacaaProg
import Derived.Test.YtebgaiokpncacaaFFnExactSettlex0
namespace Go.Proofs.Ytebgaiokpncacaa.Fns
open Go.Proofs.Try Go.Proofs.Ytebgaiokpncacaa.Eng Go.RowKit
set_option maxRecDepth 100000
set_option linter.unusedVariables false
set_option linter.unusedSimpArgs false
theorem spec_l01Name.lab : ∀ k, (∀ (a0 : ByteArray) (x1 : Int) (r : Bool), spec_l01Name.l0 k a0 x1 = some r → J prog (.run 90 [] [l_ 26, b_ 0, c_ 7] [(0, (S a0)), (3, (I x1))] [] (B r) []))
 | 0 => (by intro a0 x1 r h; unfold spec_l01Name.l0 at h; cases h)
 | k + 1 => by
  have ih0 := spec_l01Name.lab k
  · intro a0 x1 r h
    unfold spec_l01Name.l0 at h
    refine .loop' [c_ 208, c_ 209, c_ 105, l_ 26, b_ 0, c_ 7] ?_
    refine .reg' [0, 3, 8] [] ⟨[(0, (S a0)), (3, (I x1)), (8, (B (decide (x1 < (a0.size : Int)))))], [], [], []⟩ [c_ 209, c_ 105, l_ 26, b_ 0, c_ 7] aln nocal ?_
    by_cases c1 : x1 < (a0.size : Int)
    · rw [if_pos c1] at h
      refine .cond' (.tmp 8) true [c_ 840, c_ 841, b_ 1, c_ 211, l_ 26, b_ 0, c_ 7] (bT (dT c1)) ?_
      by_cases c2 : 0 ≤ x1
      · rw [if_pos c2] at h
        refine .reg' [0, 3, 4] [] ⟨[(0, (S a0)), (3, (I x1)), (4, (U (bt a0 x1)))], [], [(0 : Int) ≤ x1 ∧ x1 < (a0.size : Int)], []⟩ [c_ 1682, c_ 1683, b_ 1, c_ 211, l_ 26, b_ 0, c_ 7] (alc ⟨c2, c1⟩ aln) nocal ?_
        by_cases c3 : (bt a0 x1) ≥ 97
        · rw [if_pos c3] at h
          by_cases c4 : (bt a0 x1) ≤ 122
          · rw [if_pos c4] at h
            refine .reg' [0, 3, 29] [.no, .no, .v (B true), .no, .no, .no, .no, .v (B false)] ⟨[(0, (S a0)), (3, (I x1)), (29, (B false))], [], [(B (decide ((bt a0 x1) ≥ 97)) : V) = B true, (B (!(decide ((bt a0 x1) ≤ 122))) : V) = B false], []⟩ [c_ 1683, b_ 1, c_ 211, l_ 26, b_ 0, c_ 7] (alc (bT (dT c3)) (alc (bF (nF (dT c4))) aln)) nocal ?_
            refine .cond' (.tmp 29) false [c_ 211, l_ 26, b_ 0, c_ 7] (rfl) ?_
            refine .reg' [0, 3] [] ⟨[(0, (S a0)), (3, (I (wrap64 (x1 + 1))))], [], [], []⟩ [l_ 26, b_ 0, c_ 7] aln nocal ?_
            exact ih0 a0 (wrap64 (x1 + 1)) _ h
          · rw [if_neg c4] at h
            by_cases c5 : (bt a0 x1) ≥ 48
            · rw [if_pos c5] at h
              refine .reg' [0, 3, 29] [.no, .no, .v (B true), .no, .no, .no, .no, .v (B true), .no, .no, .v (B true)] ⟨[(0, (S a0)), (3, (I x1)), (29, (B (!(decide ((bt a0 x1) ≤ 57)))))], [], [(B (decide ((bt a0 x1) ≥ 97)) : V) = B true, (B (!(decide ((bt a0 x1) ≤ 122))) : V) = B true, (B (decide ((bt a0 x1) ≥ 48)) : V) = B true], []⟩ [c_ 1683, b_ 1, c_ 211, l_ 26, b_ 0, c_ 7] (alc (bT (dT c3)) (alc (bT (nT (dF c4))) (alc (bT (dT c5)) aln))) nocal ?_
              by_cases c6 : (bt a0 x1) ≤ 57
              · rw [if_pos c6] at h
                refine .cond' (.tmp 29) false [c_ 211, l_ 26, b_ 0, c_ 7] (bF (nF (dT c6))) ?_
                refine .reg' [0, 3] [] ⟨[(0, (S a0)), (3, (I (wrap64 (x1 + 1))))], [], [], []⟩ [l_ 26, b_ 0, c_ 7] aln nocal ?_
                exact ih0 a0 (wrap64 (x1 + 1)) _ h
              · rw [if_neg c6] at h
                refine .cond' (.tmp 29) true [c_ 6732, c_ 6733, b_ 1, c_ 211, l_ 26, b_ 0, c_ 7] (bT (nT (dF c6))) ?_
                refine .reg' [2] [] ⟨[(2, (B false))], [], [], []⟩ [c_ 6733, b_ 1, c_ 211, l_ 26, b_ 0, c_ 7] aln nocal ?_
                have h := Option.some.inj h
                subst h
                exact .fin0 [] (B false) [] aln (.z .s)
            · rw [if_neg c5] at h
              refine .reg' [0, 3, 29] [.no, .no, .v (B true), .no, .no, .no, .no, .v (B true), .no, .no, .v (B false)] ⟨[(0, (S a0)), (3, (I x1)), (29, (B true))], [], [(B (decide ((bt a0 x1) ≥ 97)) : V) = B true, (B (!(decide ((bt a0 x1) ≤ 122))) : V) = B true, (B (decide ((bt a0 x1) ≥ 48)) : V) = B false], []⟩ [c_ 1683, b_ 1, c_ 211, l_ 26, b_ 0, c_ 7] (alc (bT (dT c3)) (alc (bT (nT (dF c4))) (alc (bF (dF c5)) aln))) nocal ?_
              refine .cond' (.tmp 29) true [c_ 6732, c_ 6733, b_ 1, c_ 211, l_ 26, b_ 0, c_ 7] (rfl) ?_
              refine .reg' [2] [] ⟨[(2, (B false))], [], [], []⟩ [c_ 6733, b_ 1, c_ 211, l_ 26, b_ 0, c_ 7] aln nocal ?_
              have h := Option.some.inj h
              subst h
              exact .fin0 [] (B false) [] aln (.z .s)
        · rw [if_neg c3] at h
          by_cases c7 : (bt a0 x1) ≥ 48
          · rw [if_pos c7] at h
            refine .reg' [0, 3, 29] [.no, .no, .v (B false), .no, .no, .no, .no, .no, .no, .no, .v (B true)] ⟨[(0, (S a0)), (3, (I x1)), (29, (B (!(decide ((bt a0 x1) ≤ 57)))))], [], [(B (decide ((bt a0 x1) ≥ 97)) : V) = B false, (B (decide ((bt a0 x1) ≥ 48)) : V) = B true], []⟩ [c_ 1683, b_ 1, c_ 211, l_ 26, b_ 0, c_ 7] (alc (bF (dF c3)) (alc (bT (dT c7)) aln)) nocal ?_
            by_cases c8 : (bt a0 x1) ≤ 57
            · rw [if_pos c8] at h
              refine .cond' (.tmp 29) false [c_ 211, l_ 26, b_ 0, c_ 7] (bF (nF (dT c8))) ?_
              refine .reg' [0, 3] [] ⟨[(0, (S a0)), (3, (I (wrap64 (x1 + 1))))], [], [], []⟩ [l_ 26, b_ 0, c_ 7] aln nocal ?_
              exact ih0 a0 (wrap64 (x1 + 1)) _ h
            · rw [if_neg c8] at h
              refine .cond' (.tmp 29) true [c_ 6732, c_ 6733, b_ 1, c_ 211, l_ 26, b_ 0, c_ 7] (bT (nT (dF c8))) ?_
              refine .reg' [2] [] ⟨[(2, (B false))], [], [], []⟩ [c_ 6733, b_ 1, c_ 211, l_ 26, b_ 0, c_ 7] aln nocal ?_
              have h := Option.some.inj h
              subst h
              exact .fin0 [] (B false) [] aln (.z .s)
          · rw [if_neg c7] at h
            refine .reg' [0, 3, 29] [.no, .no, .v (B false), .no, .no, .no, .no, .no, .no, .no, .v (B false)] ⟨[(0, (S a0)), (3, (I x1)), (29, (B true))], [], [(B (decide ((bt a0 x1) ≥ 97)) : V) = B false, (B (decide ((bt a0 x1) ≥ 48)) : V) = B false], []⟩ [c_ 1683, b_ 1, c_ 211, l_ 26, b_ 0, c_ 7] (alc (bF (dF c3)) (alc (bF (dF c7)) aln)) nocal ?_
            refine .cond' (.tmp 29) true [c_ 6732, c_ 6733, b_ 1, c_ 211, l_ 26, b_ 0, c_ 7] (rfl) ?_
            refine .reg' [2] [] ⟨[(2, (B false))], [], [], []⟩ [c_ 6733, b_ 1, c_ 211, l_ 26, b_ 0, c_ 7] aln nocal ?_
            have h := Option.some.inj h
            subst h
            exact .fin0 [] (B false) [] aln (.z .s)
      · rw [if_neg c2] at h
        cases h
    · rw [if_neg c1] at h
      refine .cond' (.tmp 8) false [c_ 14, c_ 15] (bF (dF c1)) ?_
      obtain ⟨x2, hx2, h⟩ := Option.bind_eq_some_iff.mp h
      refine .reg' [2] [.no, .no, .c ⟨57, [(I (a0.size : Int)), (I 1), (I 12)], [], (B x2), [], [], [], [], (B x2), []⟩] ⟨[(2, (B x2))], [], [COK (hget []) [(I (a0.size : Int)), (I 1), (I 12)] ⟨57, [(I (a0.size : Int)), (I 1), (I 12)], [], (B x2), [], [], [], [], (B x2), []⟩], [⟨57, [(I (a0.size : Int)), (I 1), (I 12)], [], (B x2), [], [], [], [], (B x2), []⟩]⟩ [c_ 15] (alc (cok0 false (a2c (.z .s) (a2c (.z .s) (a2c (.z .s) a2n))) (.z .s) (fun h => absurd h (by decide))) aln) (acal (spec_l01In.J (a0.size : Int) 1 12 _ hx2) nocal) ?_
      have h := Option.some.inj h
      subst h
      exact .fin0 [] (B x2) [] aln (.z .s)
theorem spec_l01Name.J (k : Nat) (a0 : ByteArray) (r : Bool) (h : spec_l01Name.f k a0 = some r) : J prog (.call 90 [(S a0)] [] (B r) []) := by
  unfold spec_l01Name.f at h
  have ih0 := spec_l01Name.lab k
  refine .call' [c_ 2, c_ 3] ?_
  refine .reg' [0] [] ⟨[(0, (S a0))], [], [], []⟩ [c_ 12, c_ 13, c_ 7] aln nocal ?_
  refine .reg' [0, 3] [] ⟨[(0, (S a0)), (3, (I 0))], [], [], []⟩ [l_ 26, b_ 0, c_ 7] aln nocal ?_
  exact ih0 a0 0 _ h
/-! spec_TripOk: function 72 -/
def spec_TripOk.l0 : Nat → S66 → Int → Option Bool
 | 0, _, _ => none
 | k + 1, a0, x3 => (if x3 < (a0.f1.length : Int) then (if 0 ≤ x3 then ((spec_l01In.f ((at_ a0.f1 x3).f0) 0 29).bind fun x4 => (if x4 = true then ((spec_l01In.f ((at_ a0.f1 x3).f2) 0 100000).bind fun x5 => (if x5 = true then ((spec_l01In.f ((at_ a0.f1 x3).f1) 0 ((at_ a0.f1 x3).f2)).bind fun x6 => (if x6 = true then (if x3 > 0 then (if 0 ≤ (wrap64 (x3 - 1)) then (if (wrap64 (x3 - 1)) < (a0.f1.length : Int) then (if (at_ a0.f1 (wrap64 (x3 - 1))).f2 ≥ (at_ a0.f1 x3).f1 then (some false) else (if (at_ a0.f1 (wrap64 (x3 - 1))).f0 = (at_ a0.f1 x3).f0 then (some false) else (spec_TripOk.l0 k a0 (wrap64 (x3 + 1))))) else none) else none) else (spec_TripOk.l0 k a0 (wrap64 (x3 + 1)))) else (some false))) else (some false))) else (some false))) else none) else (some true))
def spec_TripOk.f (k : Nat) (a0 : S66) : Option Bool := ((spec_l01Name.f k a0.f0).bind fun x1 => (if x1 = true then ((spec_l01In.f (a0.f1.length : Int) 2 12).bind fun x2 => (if x2 = true then (spec_TripOk.l0 k a0 0) else (some false))) else (some false)))
theorem spec_TripOk.lab : ∀ k, (∀ (a0 : S66) (x3 : Int) (r : Bool), spec_TripOk.l0 k a0 x3 = some r → J prog (.run 72 [] [l_ 58, b_ 0, c_ 15] [(1, (.pt 256 0 2)), (3, (I x3))] [(256, [(S a0.f0), (.sl true a0.f1.length 3 (a0.f1.flatMap e89))])] (B r) []))
 | 0 => (by intro a0 x3 r h; unfold spec_TripOk.l0 at h; cases h)
 | k + 1 => by
  have ih0 := spec_TripOk.lab k
  · intro a0 x3 r h
    unfold spec_TripOk.l0 at h
    refine .loop' [c_ 464, c_ 465, c_ 233, l_ 58, b_ 0, c_ 15] ?_
    refine .reg' [1, 3, 20] [] ⟨[(1, (.pt 256 0 2)), (3, (I x3)), (20, (B (decide (x3 < (a0.f1.length : Int)))))], [(256, [(S a0.f0), (.sl true a0.f1.length 3 (a0.f1.flatMap e89))])], [2 = 2 ∧ 1 + 1 ≤ 2], []⟩ [c_ 465, c_ 233, l_ 58, b_ 0, c_ 15] (alc ⟨rfl, by decide⟩ aln) nocal ?_
    by_cases c3 : x3 < (a0.f1.length : Int)
    · rw [if_pos c3] at h
      refine .cond' (.tmp 20) true [c_ 1864, c_ 1865, b_ 1, c_ 467, l_ 58, b_ 0, c_ 15] (bT (dT c3)) ?_
      by_cases c4 : 0 ≤ x3
      · rw [if_pos c4] at h
        refine .reg' [1, 3, 4] [.no, .no, .no, .no, .v (.ag [(I (at_ a0.f1 x3).f0), (I (at_ a0.f1 x3).f1), (I (at_ a0.f1 x3).f2)])] ⟨[(1, (.pt 256 0 2)), (3, (I x3)), (4, (.pt 1797 0 3))], [(256, [(S a0.f0), (.sl true a0.f1.length 3 (a0.f1.flatMap e89))]), (1797, [(I (at_ a0.f1 x3).f0), (I (at_ a0.f1 x3).f1), (I (at_ a0.f1 x3).f2)])], [2 = 2 ∧ 1 + 1 ≤ 2, (0 : Int) ≤ x3 ∧ x3 < (a0.f1.length : Int), rdC prog 90 ((a0.f1.flatMap e89).drop (x3.toNat * 3)) = (.ag [(I (at_ a0.f1 x3).f0), (I (at_ a0.f1 x3).f1), (I (at_ a0.f1 x3).f2)]), 3 ≤ ((a0.f1.flatMap e89).drop (x3.toNat * 3)).length, 3 = 3 ∧ 0 + 3 ≤ 3], []⟩ [c_ 7460, c_ 7461, c_ 3731, b_ 1, c_ 467, l_ 58, b_ 0, c_ 15] (alc ⟨rfl, by decide⟩ (alc ⟨c4, c3⟩ (alc (ldA e89_ok rfl rfl c4 c3) (alc (okI e89_ok c4 c3 (by decide)) (alc ⟨rfl, by decide⟩ aln))))) nocal ?_
        obtain ⟨x4, hx4, h⟩ := Option.bind_eq_some_iff.mp h
        by_cases c5 : x4 = true
        · rw [if_pos c5] at h
          obtain ⟨x5, hx5, h⟩ := Option.bind_eq_some_iff.mp h
          by_cases c6 : x5 = true
          · rw [if_pos c6] at h
            obtain ⟨x6, hx6, h⟩ := Option.bind_eq_some_iff.mp h
            refine .reg' [1, 3, 4, 45] [.no, .no, .c ⟨57, [(I (at_ a0.f1 x3).f0), (I 0), (I 29)], [], (B x4), [], [], [], [], (B x4), []⟩, .no, .v (B false), .no, .no, .c ⟨57, [(I (at_ a0.f1 x3).f2), (I 0), (I 100000)], [], (B x5), [], [], [], [], (B x5), []⟩, .no, .no, .v (B false), .no, .no, .no, .no, .c ⟨57, [(I (at_ a0.f1 x3).f1), (I 0), (I (at_ a0.f1 x3).f2)], [], (B x6), [], [], [], [], (B x6), []⟩] ⟨[(1, (.pt 256 0 2)), (3, (I x3)), (4, (.pt 1797 0 3)), (45, (B (!x6)))], [(256, [(S a0.f0), (.sl true a0.f1.length 3 (a0.f1.flatMap e89))]), (1797, [(I (at_ a0.f1 x3).f0), (I (at_ a0.f1 x3).f1), (I (at_ a0.f1 x3).f2)])], [3 = 3 ∧ 0 + 1 ≤ 3, COK (hget [(256, [(S a0.f0), (.sl true a0.f1.length 3 (a0.f1.flatMap e89))]), (1797, [(I (at_ a0.f1 x3).f0), (I (at_ a0.f1 x3).f1), (I (at_ a0.f1 x3).f2)])]) [(I (at_ a0.f1 x3).f0), (I 0), (I 29)] ⟨57, [(I (at_ a0.f1 x3).f0), (I 0), (I 29)], [], (B x4), [], [], [], [], (B x4), []⟩, (B (!x4) : V) = B false, 3 = 3 ∧ 2 + 1 ≤ 3, COK (hget [(256, [(S a0.f0), (.sl true a0.f1.length 3 (a0.f1.flatMap e89))]), (1797, [(I (at_ a0.f1 x3).f0), (I (at_ a0.f1 x3).f1), (I (at_ a0.f1 x3).f2)])]) [(I (at_ a0.f1 x3).f2), (I 0), (I 100000)] ⟨57, [(I (at_ a0.f1 x3).f2), (I 0), (I 100000)], [], (B x5), [], [], [], [], (B x5), []⟩, (B (!x5) : V) = B false, 3 = 3 ∧ 1 + 1 ≤ 3, 3 = 3 ∧ 2 + 1 ≤ 3, COK (hget [(256, [(S a0.f0), (.sl true a0.f1.length 3 (a0.f1.flatMap e89))]), (1797, [(I (at_ a0.f1 x3).f0), (I (at_ a0.f1 x3).f1), (I (at_ a0.f1 x3).f2)])]) [(I (at_ a0.f1 x3).f1), (I 0), (I (at_ a0.f1 x3).f2)] ⟨57, [(I (at_ a0.f1 x3).f1), (I 0), (I (at_ a0.f1 x3).f2)], [], (B x6), [], [], [], [], (B x6), []⟩], [⟨57, [(I (at_ a0.f1 x3).f0), (I 0), (I 29)], [], (B x4), [], [], [], [], (B x4), []⟩, ⟨57, [(I (at_ a0.f1 x3).f2), (I 0), (I 100000)], [], (B x5), [], [], [], [], (B x5), []⟩, ⟨57, [(I (at_ a0.f1 x3).f1), (I 0), (I (at_ a0.f1 x3).f2)], [], (B x6), [], [], [], [], (B x6), []⟩]⟩ [c_ 7461, c_ 3731, b_ 1, c_ 467, l_ 58, b_ 0, c_ 15] (alc ⟨rfl, by decide⟩ (alc (cok0 false (a2c (.z .s) (a2c (.z .s) (a2c (.z .s) a2n))) (.z .s) (fun h => absurd h (by decide))) (alc (bF (nF c5)) (alc ⟨rfl, by decide⟩ (alc (cok0 false (a2c (.z .s) (a2c (.z .s) (a2c (.z .s) a2n))) (.z .s) (fun h => absurd h (by decide))) (alc (bF (nF c6)) (alc ⟨rfl, by decide⟩ (alc ⟨rfl, by decide⟩ (alc (cok0 false (a2c (.z .s) (a2c (.z .s) (a2c (.z .s) a2n))) (.z .s) (fun h => absurd h (by decide))) aln))))))))) (acal (spec_l01In.J ((at_ a0.f1 x3).f0) 0 29 _ hx4) (acal (spec_l01In.J ((at_ a0.f1 x3).f2) 0 100000 _ hx5) (acal (spec_l01In.J ((at_ a0.f1 x3).f1) 0 ((at_ a0.f1 x3).f2) _ hx6) nocal))) ?_
            by_cases c7 : x6 = true
            · rw [if_pos c7] at h
              refine .cond' (.tmp 45) false [c_ 7462, c_ 7463, b_ 1, c_ 467, l_ 58, b_ 0, c_ 15] (bF (nF c7)) ?_
              by_cases c8 : x3 > 0
              · rw [if_pos c8] at h
                by_cases c9 : 0 ≤ (wrap64 (x3 - 1))
                · rw [if_pos c9] at h
                  by_cases c10 : (wrap64 (x3 - 1)) < (a0.f1.length : Int)
                  · rw [if_pos c10] at h
                    by_cases c11 : (at_ a0.f1 (wrap64 (x3 - 1))).f2 ≥ (at_ a0.f1 x3).f1
                    · rw [if_pos c11] at h
                      refine .reg' [1, 3, 71] [.no, .no, .v (B true), .no, .no, .no, .no, .no, .no, .v (I (at_ a0.f1 (wrap64 (x3 - 1))).f2), .no, .no, .no, .v (B true)] ⟨[(1, (.pt 256 0 2)), (3, (I x3)), (71, (B true))], [(256, [(S a0.f0), (.sl true a0.f1.length 3 (a0.f1.flatMap e89))]), (1797, [(I (at_ a0.f1 x3).f0), (I (at_ a0.f1 x3).f1), (I (at_ a0.f1 x3).f2)])], [(B (decide (x3 > 0)) : V) = B true, 2 = 2 ∧ 1 + 1 ≤ 2, (0 : Int) ≤ (wrap64 (x3 - 1)) ∧ (wrap64 (x3 - 1)) < (a0.f1.length : Int), rdC prog 3 (((a0.f1.flatMap e89).drop ((wrap64 (x3 - 1)).toNat * 3)).drop 2) = (I (at_ a0.f1 (wrap64 (x3 - 1))).f2), 1 ≤ (((a0.f1.flatMap e89).drop ((wrap64 (x3 - 1)).toNat * 3)).drop 2).length, 3 = 3 ∧ 1 + 1 ≤ 3, (B (decide ((at_ a0.f1 (wrap64 (x3 - 1))).f2 ≥ (at_ a0.f1 x3).f1)) : V) = B true], []⟩ [c_ 7463, b_ 1, c_ 467, l_ 58, b_ 0, c_ 15] (alc (bT (dT c8)) (alc ⟨rfl, by decide⟩ (alc ⟨c9, c10⟩ (alc (ldC e89_ok 2 (by decide) rfl c9 c10) (alc (okIj e89_ok c9 c10 (by decide)) (alc ⟨rfl, by decide⟩ (alc (bT (dT c11)) aln))))))) nocal ?_
                      refine .cond' (.tmp 71) true [c_ 29852, c_ 29853, b_ 1, c_ 467, l_ 58, b_ 0, c_ 15] (rfl) ?_
                      refine .reg' [2] [] ⟨[(2, (B false))], [(256, [(S a0.f0), (.sl true a0.f1.length 3 (a0.f1.flatMap e89))]), (1797, [(I (at_ a0.f1 x3).f0), (I (at_ a0.f1 x3).f1), (I (at_ a0.f1 x3).f2)])], [], []⟩ [c_ 29853, b_ 1, c_ 467, l_ 58, b_ 0, c_ 15] aln nocal ?_
                      have h := Option.some.inj h
                      subst h
                      exact .fin0 [] (B false) [] aln (.z .s)
                    · rw [if_neg c11] at h
                      refine .reg' [1, 3, 71] [.no, .no, .v (B true), .no, .no, .no, .no, .no, .no, .v (I (at_ a0.f1 (wrap64 (x3 - 1))).f2), .no, .no, .no, .v (B false), .no, .no, .no, .no, .no, .no, .v (I (at_ a0.f1 (wrap64 (x3 - 1))).f0)] ⟨[(1, (.pt 256 0 2)), (3, (I x3)), (71, (B ((at_ a0.f1 (wrap64 (x3 - 1))).f0 == (at_ a0.f1 x3).f0)))], [(256, [(S a0.f0), (.sl true a0.f1.length 3 (a0.f1.flatMap e89))]), (1797, [(I (at_ a0.f1 x3).f0), (I (at_ a0.f1 x3).f1), (I (at_ a0.f1 x3).f2)])], [(B (decide (x3 > 0)) : V) = B true, 2 = 2 ∧ 1 + 1 ≤ 2, (0 : Int) ≤ (wrap64 (x3 - 1)) ∧ (wrap64 (x3 - 1)) < (a0.f1.length : Int), rdC prog 3 (((a0.f1.flatMap e89).drop ((wrap64 (x3 - 1)).toNat * 3)).drop 2) = (I (at_ a0.f1 (wrap64 (x3 - 1))).f2), 1 ≤ (((a0.f1.flatMap e89).drop ((wrap64 (x3 - 1)).toNat * 3)).drop 2).length, 3 = 3 ∧ 1 + 1 ≤ 3, (B (decide ((at_ a0.f1 (wrap64 (x3 - 1))).f2 ≥ (at_ a0.f1 x3).f1)) : V) = B false, 2 = 2 ∧ 1 + 1 ≤ 2, (0 : Int) ≤ (wrap64 (x3 - 1)) ∧ (wrap64 (x3 - 1)) < (a0.f1.length : Int), rdC prog 3 (((a0.f1.flatMap e89).drop ((wrap64 (x3 - 1)).toNat * 3)).drop 0) = (I (at_ a0.f1 (wrap64 (x3 - 1))).f0), 1 ≤ (((a0.f1.flatMap e89).drop ((wrap64 (x3 - 1)).toNat * 3)).drop 0).length, 3 = 3 ∧ 0 + 1 ≤ 3], []⟩ [c_ 7463, b_ 1, c_ 467, l_ 58, b_ 0, c_ 15] (alc (bT (dT c8)) (alc ⟨rfl, by decide⟩ (alc ⟨c9, c10⟩ (alc (ldC e89_ok 2 (by decide) rfl c9 c10) (alc (okIj e89_ok c9 c10 (by decide)) (alc ⟨rfl, by decide⟩ (alc (bF (dF c11)) (alc ⟨rfl, by decide⟩ (alc ⟨c9, c10⟩ (alc (ldC e89_ok 0 (by decide) rfl c9 c10) (alc (okIj e89_ok c9 c10 (by decide)) (alc ⟨rfl, by decide⟩ aln)))))))))))) nocal ?_
                      by_cases c12 : (at_ a0.f1 (wrap64 (x3 - 1))).f0 = (at_ a0.f1 x3).f0
                      · rw [if_pos c12] at h
                        refine .cond' (.tmp 71) true [c_ 29852, c_ 29853, b_ 1, c_ 467, l_ 58, b_ 0, c_ 15] (bT (qT c12)) ?_
                        refine .reg' [2] [] ⟨[(2, (B false))], [(256, [(S a0.f0), (.sl true a0.f1.length 3 (a0.f1.flatMap e89))]), (1797, [(I (at_ a0.f1 x3).f0), (I (at_ a0.f1 x3).f1), (I (at_ a0.f1 x3).f2)])], [], []⟩ [c_ 29853, b_ 1, c_ 467, l_ 58, b_ 0, c_ 15] aln nocal ?_
                        have h := Option.some.inj h
                        subst h
                        exact .fin0 [] (B false) [] aln (.z .s)
                      · rw [if_neg c12] at h
                        refine .cond' (.tmp 71) false [c_ 467, l_ 58, b_ 0, c_ 15] (bF (qF c12)) ?_
                        refine .reg' [1, 3] [] ⟨[(1, (.pt 256 0 2)), (3, (I (wrap64 (x3 + 1))))], [(256, [(S a0.f0), (.sl true a0.f1.length 3 (a0.f1.flatMap e89))]), (1797, [(I (at_ a0.f1 x3).f0), (I (at_ a0.f1 x3).f1), (I (at_ a0.f1 x3).f2)])], [], []⟩ [l_ 58, b_ 0, c_ 15] aln nocal ?_
                        refine .wk' [] [(256, 256)] [(1, (.pt 256 0 2)), (3, (I (wrap64 (x3 + 1))))] [(256, [(S a0.f0), (.sl true a0.f1.length 3 (a0.f1.flatMap e89))])] (shc 256 (a2c (.z .s) (a2c (.z (frz_sl e89_ok (fun h => h))) a2n)) shn) (enc_ (.pt (memP_mem (p := (256, 256)) rfl)) (enc_ (.z .s) enn)) ?_
                        exact ih0 a0 (wrap64 (x3 + 1)) _ h
                  · rw [if_neg c10] at h
                    cases h
                · rw [if_neg c9] at h
                  cases h
              · rw [if_neg c8] at h
                refine .reg' [1, 3, 71] [.no, .no, .v (B false)] ⟨[(1, (.pt 256 0 2)), (3, (I x3)), (71, (B false))], [(256, [(S a0.f0), (.sl true a0.f1.length 3 (a0.f1.flatMap e89))]), (1797, [(I (at_ a0.f1 x3).f0), (I (at_ a0.f1 x3).f1), (I (at_ a0.f1 x3).f2)])], [(B (decide (x3 > 0)) : V) = B false], []⟩ [c_ 7463, b_ 1, c_ 467, l_ 58, b_ 0, c_ 15] (alc (bF (dF c8)) aln) nocal ?_
                refine .cond' (.tmp 71) false [c_ 467, l_ 58, b_ 0, c_ 15] (rfl) ?_
                refine .reg' [1, 3] [] ⟨[(1, (.pt 256 0 2)), (3, (I (wrap64 (x3 + 1))))], [(256, [(S a0.f0), (.sl true a0.f1.length 3 (a0.f1.flatMap e89))]), (1797, [(I (at_ a0.f1 x3).f0), (I (at_ a0.f1 x3).f1), (I (at_ a0.f1 x3).f2)])], [], []⟩ [l_ 58, b_ 0, c_ 15] aln nocal ?_
                refine .wk' [] [(256, 256)] [(1, (.pt 256 0 2)), (3, (I (wrap64 (x3 + 1))))] [(256, [(S a0.f0), (.sl true a0.f1.length 3 (a0.f1.flatMap e89))])] (shc 256 (a2c (.z .s) (a2c (.z (frz_sl e89_ok (fun h => h))) a2n)) shn) (enc_ (.pt (memP_mem (p := (256, 256)) rfl)) (enc_ (.z .s) enn)) ?_
                exact ih0 a0 (wrap64 (x3 + 1)) _ h
            · rw [if_neg c7] at h
              refine .cond' (.tmp 45) true [c_ 29844, c_ 29845, c_ 3731, b_ 1, c_ 467, l_ 58, b_ 0, c_ 15] (bT (nT (vF c7))) ?_
              refine .reg' [2] [] ⟨[(2, (B false))], [(256, [(S a0.f0), (.sl true a0.f1.length 3 (a0.f1.flatMap e89))]), (1797, [(I (at_ a0.f1 x3).f0), (I (at_ a0.f1 x3).f1), (I (at_ a0.f1 x3).f2)])], [], []⟩ [c_ 29845, c_ 3731, b_ 1, c_ 467, l_ 58, b_ 0, c_ 15] aln nocal ?_
              have h := Option.some.inj h
              subst h
              exact .fin0 [] (B false) [] aln (.z .s)
          · rw [if_neg c6] at h
            refine .reg' [1, 3, 4, 45] [.no, .no, .c ⟨57, [(I (at_ a0.f1 x3).f0), (I 0), (I 29)], [], (B x4), [], [], [], [], (B x4), []⟩, .no, .v (B false), .no, .no, .c ⟨57, [(I (at_ a0.f1 x3).f2), (I 0), (I 100000)], [], (B x5), [], [], [], [], (B x5), []⟩, .no, .no, .v (B true)] ⟨[(1, (.pt 256 0 2)), (3, (I x3)), (4, (.pt 1797 0 3)), (45, (B true))], [(256, [(S a0.f0), (.sl true a0.f1.length 3 (a0.f1.flatMap e89))]), (1797, [(I (at_ a0.f1 x3).f0), (I (at_ a0.f1 x3).f1), (I (at_ a0.f1 x3).f2)])], [3 = 3 ∧ 0 + 1 ≤ 3, COK (hget [(256, [(S a0.f0), (.sl true a0.f1.length 3 (a0.f1.flatMap e89))]), (1797, [(I (at_ a0.f1 x3).f0), (I (at_ a0.f1 x3).f1), (I (at_ a0.f1 x3).f2)])]) [(I (at_ a0.f1 x3).f0), (I 0), (I 29)] ⟨57, [(I (at_ a0.f1 x3).f0), (I 0), (I 29)], [], (B x4), [], [], [], [], (B x4), []⟩, (B (!x4) : V) = B false, 3 = 3 ∧ 2 + 1 ≤ 3, COK (hget [(256, [(S a0.f0), (.sl true a0.f1.length 3 (a0.f1.flatMap e89))]), (1797, [(I (at_ a0.f1 x3).f0), (I (at_ a0.f1 x3).f1), (I (at_ a0.f1 x3).f2)])]) [(I (at_ a0.f1 x3).f2), (I 0), (I 100000)] ⟨57, [(I (at_ a0.f1 x3).f2), (I 0), (I 100000)], [], (B x5), [], [], [], [], (B x5), []⟩, (B (!x5) : V) = B true], [⟨57, [(I (at_ a0.f1 x3).f0), (I 0), (I 29)], [], (B x4), [], [], [], [], (B x4), []⟩, ⟨57, [(I (at_ a0.f1 x3).f2), (I 0), (I 100000)], [], (B x5), [], [], [], [], (B x5), []⟩]⟩ [c_ 7461, c_ 3731, b_ 1, c_ 467, l_ 58, b_ 0, c_ 15] (alc ⟨rfl, by decide⟩ (alc (cok0 false (a2c (.z .s) (a2c (.z .s) (a2c (.z .s) a2n))) (.z .s) (fun h => absurd h (by decide))) (alc (bF (nF c5)) (alc ⟨rfl, by decide⟩ (alc (cok0 false (a2c (.z .s) (a2c (.z .s) (a2c (.z .s) a2n))) (.z .s) (fun h => absurd h (by decide))) (alc (bT (nT (vF c6))) aln)))))) (acal (spec_l01In.J ((at_ a0.f1 x3).f0) 0 29 _ hx4) (acal (spec_l01In.J ((at_ a0.f1 x3).f2) 0 100000 _ hx5) nocal)) ?_
            refine .cond' (.tmp 45) true [c_ 29844, c_ 29845, c_ 3731, b_ 1, c_ 467, l_ 58, b_ 0, c_ 15] (rfl) ?_
            refine .reg' [2] [] ⟨[(2, (B false))], [(256, [(S a0.f0), (.sl true a0.f1.length 3 (a0.f1.flatMap e89))]), (1797, [(I (at_ a0.f1 x3).f0), (I (at_ a0.f1 x3).f1), (I (at_ a0.f1 x3).f2)])], [], []⟩ [c_ 29845, c_ 3731, b_ 1, c_ 467, l_ 58, b_ 0, c_ 15] aln nocal ?_
            have h := Option.some.inj h
            subst h
            exact .fin0 [] (B false) [] aln (.z .s)
        · rw [if_neg c5] at h
          refine .reg' [1, 3, 4, 45] [.no, .no, .c ⟨57, [(I (at_ a0.f1 x3).f0), (I 0), (I 29)], [], (B x4), [], [], [], [], (B x4), []⟩, .no, .v (B true)] ⟨[(1, (.pt 256 0 2)), (3, (I x3)), (4, (.pt 1797 0 3)), (45, (B true))], [(256, [(S a0.f0), (.sl true a0.f1.length 3 (a0.f1.flatMap e89))]), (1797, [(I (at_ a0.f1 x3).f0), (I (at_ a0.f1 x3).f1), (I (at_ a0.f1 x3).f2)])], [3 = 3 ∧ 0 + 1 ≤ 3, COK (hget [(256, [(S a0.f0), (.sl true a0.f1.length 3 (a0.f1.flatMap e89))]), (1797, [(I (at_ a0.f1 x3).f0), (I (at_ a0.f1 x3).f1), (I (at_ a0.f1 x3).f2)])]) [(I (at_ a0.f1 x3).f0), (I 0), (I 29)] ⟨57, [(I (at_ a0.f1 x3).f0), (I 0), (I 29)], [], (B x4), [], [], [], [], (B x4), []⟩, (B (!x4) : V) = B true], [⟨57, [(I (at_ a0.f1 x3).f0), (I 0), (I 29)], [], (B x4), [], [], [], [], (B x4), []⟩]⟩ [c_ 7461, c_ 3731, b_ 1, c_ 467, l_ 58, b_ 0, c_ 15] (alc ⟨rfl, by decide⟩ (alc (cok0 false (a2c (.z .s) (a2c (.z .s) (a2c (.z .s) a2n))) (.z .s) (fun h => absurd h (by decide))) (alc (bT (nT (vF c5))) aln))) (acal (spec_l01In.J ((at_ a0.f1 x3).f0) 0 29 _ hx4) nocal) ?_
          refine .cond' (.tmp 45) true [c_ 29844, c_ 29845, c_ 3731, b_ 1, c_ 467, l_ 58, b_ 0, c_ 15] (rfl) ?_
          refine .reg' [2] [] ⟨[(2, (B false))], [(256, [(S a0.f0), (.sl true a0.f1.length 3 (a0.f1.flatMap e89))]), (1797, [(I (at_ a0.f1 x3).f0), (I (at_ a0.f1 x3).f1), (I (at_ a0.f1 x3).f2)])], [], []⟩ [c_ 29845, c_ 3731, b_ 1, c_ 467, l_ 58, b_ 0, c_ 15] aln nocal ?_
          have h := Option.some.inj h
          subst h
          exact .fin0 [] (B false) [] aln (.z .s)
      · rw [if_neg c4] at h
        cases h
    · rw [if_neg c3] at h
      refine .cond' (.tmp 20) false [c_ 30, c_ 31] (bF (dF c3)) ?_
      refine .reg' [2] [] ⟨[(2, (B true))], [(256, [(S a0.f0), (.sl true a0.f1.length 3 (a0.f1.flatMap e89))])], [], []⟩ [c_ 31] aln nocal ?_
      have h := Option.some.inj h
      subst h
      exact .fin0 [] (B true) [] aln (.z .s)
theorem spec_TripOk.J (k : Nat) (a0 : S66) (r : Bool) (h : spec_TripOk.f k a0 = some r) : J prog (.call 72 [(.ag [(S a0.f0), (.sl true a0.f1.length 3 (a0.f1.flatMap e89))])] [] (B r) []) := by
  unfold spec_TripOk.f at h
  have ih0 := spec_TripOk.lab k
  refine .call' [c_ 2, c_ 3] ?_
  refine .reg' [1] [] ⟨[(1, (.pt 256 0 2))], [(256, [(S a0.f0), (.sl true a0.f1.length 3 (a0.f1.flatMap e89))])], [], []⟩ [c_ 12, c_ 13, c_ 7] aln nocal ?_
  obtain ⟨x1, hx1, h⟩ := Option.bind_eq_some_iff.mp h
  by_cases c1 : x1 = true
  · rw [if_pos c1] at h
    obtain ⟨x2, hx2, h⟩ := Option.bind_eq_some_iff.mp h
    refine .reg' [1, 15] [.no, .no, .c ⟨90, [(S a0.f0)], [], (B x1), [], [], [], [], (B x1), []⟩, .no, .v (B false), .no, .no, .no, .c ⟨57, [(I (a0.f1.length : Int)), (I 2), (I 12)], [], (B x2), [], [], [], [], (B x2), []⟩] ⟨[(1, (.pt 256 0 2)), (15, (B (!x2)))], [(256, [(S a0.f0), (.sl true a0.f1.length 3 (a0.f1.flatMap e89))])], [2 = 2 ∧ 0 + 1 ≤ 2, COK (hget [(256, [(S a0.f0), (.sl true a0.f1.length 3 (a0.f1.flatMap e89))])]) [(S a0.f0)] ⟨90, [(S a0.f0)], [], (B x1), [], [], [], [], (B x1), []⟩, (B (!x1) : V) = B false, 2 = 2 ∧ 1 + 1 ≤ 2, COK (hget [(256, [(S a0.f0), (.sl true a0.f1.length 3 (a0.f1.flatMap e89))])]) [(I (a0.f1.length : Int)), (I 2), (I 12)] ⟨57, [(I (a0.f1.length : Int)), (I 2), (I 12)], [], (B x2), [], [], [], [], (B x2), []⟩], [⟨90, [(S a0.f0)], [], (B x1), [], [], [], [], (B x1), []⟩, ⟨57, [(I (a0.f1.length : Int)), (I 2), (I 12)], [], (B x2), [], [], [], [], (B x2), []⟩]⟩ [c_ 13, c_ 7] (alc ⟨rfl, by decide⟩ (alc (cok0 false (a2c (.z .s) a2n) (.z .s) (fun h => absurd h (by decide))) (alc (bF (nF c1)) (alc ⟨rfl, by decide⟩ (alc (cok0 false (a2c (.z .s) (a2c (.z .s) (a2c (.z .s) a2n))) (.z .s) (fun h => absurd h (by decide))) aln))))) (acal (spec_l01Name.J k a0.f0 _ hx1) (acal (spec_l01In.J (a0.f1.length : Int) 2 12 _ hx2) nocal)) ?_
    by_cases c2 : x2 = true
    · rw [if_pos c2] at h
      refine .cond' (.tmp 15) false [c_ 28, c_ 29, c_ 15] (bF (nF c2)) ?_
      refine .reg' [1, 3] [] ⟨[(1, (.pt 256 0 2)), (3, (I 0))], [(256, [(S a0.f0), (.sl true a0.f1.length 3 (a0.f1.flatMap e89))])], [], []⟩ [l_ 58, b_ 0, c_ 15] aln nocal ?_
      exact ih0 a0 0 _ h
    · rw [if_neg c2] at h
      refine .cond' (.tmp 15) true [c_ 52, c_ 53, c_ 7] (bT (nT (vF c2))) ?_
      refine .reg' [2] [] ⟨[(2, (B false))], [(256, [(S a0.f0), (.sl true a0.f1.length 3 (a0.f1.flatMap e89))])], [], []⟩ [c_ 53, c_ 7] aln nocal ?_
      have h := Option.some.inj h
      subst h
      exact .fin0 [] (B false) [] aln (.z .s)
  · rw [if_neg c1] at h
    refine .reg' [1, 15] [.no, .no, .c ⟨90, [(S a0.f0)], [], (B x1), [], [], [], [], (B x1), []⟩, .no, .v (B true)] ⟨[(1, (.pt 256 0 2)), (15, (B true))], [(256, [(S a0.f0), (.sl true a0.f1.length 3 (a0.f1.flatMap e89))])], [2 = 2 ∧ 0 + 1 ≤ 2, COK (hget [(256, [(S a0.f0), (.sl true a0.f1.length 3 (a0.f1.flatMap e89))])]) [(S a0.f0)] ⟨90, [(S a0.f0)], [], (B x1), [], [], [], [], (B x1), []⟩, (B (!x1) : V) = B true], [⟨90, [(S a0.f0)], [], (B x1), [], [], [], [], (B x1), []⟩]⟩ [c_ 13, c_ 7] (alc ⟨rfl, by decide⟩ (alc (cok0 false (a2c (.z .s) a2n) (.z .s) (fun h => absurd h (by decide))) (alc (bT (nT (vF c1))) aln))) (acal (spec_l01Name.J k a0.f0 _ hx1) nocal) ?_
    refine .cond' (.tmp 15) true [c_ 52, c_ 53, c_ 7] (rfl) ?_
    refine .reg' [2] [] ⟨[(2, (B false))], [(256, [(S a0.f0), (.sl true a0.f1.length 3 (a0.f1.flatMap e89))])], [], []⟩ [c_ 53, c_ 7] aln nocal ?_
    have h := Option.some.inj h
    subst h
    exact .fin0 [] (B false) [] aln (.z .s)
/-! spec_TableOk: function 63 -/
mutual
def spec_TableOk.l0 : Nat → (List S66) → Int → Option Bool
 | 0, _, _ => none
 | k + 1, a0, x1 => (if x1 < (a0.length : Int) then (if 0 ≤ x1 then ((spec_TripOk.f k (at_ a0 x1)).bind fun x2 => (if x2 = true then (spec_TableOk.l1 k a0 x1 0) else (some false))) else none) else (some true))
def spec_TableOk.l1 : Nat → (List S66) → Int → Int → Option Bool
 | 0, _, _, _ => none
 | k + 1, a0, x1, x3 => (if x3 < x1 then (if 0 ≤ x3 then (if x3 < (a0.length : Int) then (if 0 ≤ x1 then (if x1 < (a0.length : Int) then (if (sEq (at_ a0 x3).f0 (at_ a0 x1).f0) = true then (some false) else (spec_TableOk.l1 k a0 x1 (wrap64 (x3 + 1)))) else none) else none) else none) else none) else (spec_TableOk.l0 k a0 (wrap64 (x1 + 1))))
end
def spec_TableOk.f (k : Nat) (a0 : (List S66)) : Option Bool := (if (a0.length : Int) > 24 then (some false) else (spec_TableOk.l0 k a0 0))
theorem spec_TableOk.lab : ∀ k, (∀ (a0 : (List S66)) (x1 : Int) (r : Bool), spec_TableOk.l0 k a0 x1 = some r → J prog (.run 63 [] [l_ 58, b_ 0, c_ 15] [(0, (.sl true a0.length 2 (a0.flatMap (e66 true)))), (3, (I x1))] [] (B r) [])) ∧ (∀ (a0 : (List S66)) (x1 : Int) (x3 : Int) (r : Bool), spec_TableOk.l1 k a0 x1 x3 = some r → J prog (.run 63 [] [l_ 7462, b_ 2, b_ 1, c_ 467, l_ 58, b_ 0, c_ 15] [(0, (.sl true a0.length 2 (a0.flatMap (e66 true)))), (3, (I x1)), (4, (I x3))] [] (B r) []))
 | 0 => ⟨(by intro a0 x1 r h; unfold spec_TableOk.l0 at h; cases h), (by intro a0 x1 x3 r h; unfold spec_TableOk.l1 at h; cases h)⟩
 | k + 1 => by
  obtain ⟨ih0, ih1⟩ := spec_TableOk.lab k
  refine ⟨?_, ?_⟩
  · intro a0 x1 r h
    unfold spec_TableOk.l0 at h
    refine .loop' [c_ 464, c_ 465, c_ 233, l_ 58, b_ 0, c_ 15] ?_
    refine .reg' [0, 3, 11] [] ⟨[(0, (.sl true a0.length 2 (a0.flatMap (e66 true)))), (3, (I x1)), (11, (B (decide (x1 < (a0.length : Int)))))], [], [], []⟩ [c_ 465, c_ 233, l_ 58, b_ 0, c_ 15] aln nocal ?_
    by_cases c2 : x1 < (a0.length : Int)
    · rw [if_pos c2] at h
      refine .cond' (.tmp 11) true [c_ 3728, c_ 3729, c_ 1865, b_ 1, c_ 467, l_ 58, b_ 0, c_ 15] (bT (dT c2)) ?_
      by_cases c3 : 0 ≤ x1
      · rw [if_pos c3] at h
        obtain ⟨x2, hx2, h⟩ := Option.bind_eq_some_iff.mp h
        refine .reg' [0, 3, 19] [.no, .no, .no, .v (.ag [(S (at_ a0 x1).f0), (.sl true (at_ a0 x1).f1.length 3 ((at_ a0 x1).f1.flatMap e89))]), .c ⟨72, [(.ag [(S (at_ a0 x1).f0), (.sl true (at_ a0 x1).f1.length 3 ((at_ a0 x1).f1.flatMap e89))])], [], (B x2), [], [], [], [], (B x2), []⟩] ⟨[(0, (.sl true a0.length 2 (a0.flatMap (e66 true)))), (3, (I x1)), (19, (B (!x2)))], [], [(0 : Int) ≤ x1 ∧ x1 < (a0.length : Int), rdC prog 67 ((a0.flatMap (e66 true)).drop (x1.toNat * 2)) = (.ag [(S (at_ a0 x1).f0), (.sl true (at_ a0 x1).f1.length 3 ((at_ a0 x1).f1.flatMap e89))]), 2 ≤ ((a0.flatMap (e66 true)).drop (x1.toNat * 2)).length, COK (hget []) [(.ag [(S (at_ a0 x1).f0), (.sl true (at_ a0 x1).f1.length 3 ((at_ a0 x1).f1.flatMap e89))])] ⟨72, [(.ag [(S (at_ a0 x1).f0), (.sl true (at_ a0 x1).f1.length 3 ((at_ a0 x1).f1.flatMap e89))])], [], (B x2), [], [], [], [], (B x2), []⟩], [⟨72, [(.ag [(S (at_ a0 x1).f0), (.sl true (at_ a0 x1).f1.length 3 ((at_ a0 x1).f1.flatMap e89))])], [], (B x2), [], [], [], [], (B x2), []⟩]⟩ [c_ 3729, c_ 1865, b_ 1, c_ 467, l_ 58, b_ 0, c_ 15] (alc ⟨c3, c2⟩ (alc (ldA (e66_ok true) rfl rfl c3 c2) (alc (okI (e66_ok true) c3 c2 (by decide)) (alc (cok0 false (a2c (.z (frz_ag (a2c .s (a2c (frz_sl e89_ok (fun h => h)) a2n)))) a2n) (.z .s) (fun h => absurd h (by decide))) aln)))) (acal (spec_TripOk.J k (at_ a0 x1) _ hx2) nocal) ?_
        by_cases c4 : x2 = true
        · rw [if_pos c4] at h
          refine .cond' (.tmp 19) false [c_ 3730, c_ 3731, b_ 1, c_ 467, l_ 58, b_ 0, c_ 15] (bF (nF c4)) ?_
          refine .reg' [0, 3, 4] [] ⟨[(0, (.sl true a0.length 2 (a0.flatMap (e66 true)))), (3, (I x1)), (4, (I 0))], [], [], []⟩ [l_ 7462, b_ 2, b_ 1, c_ 467, l_ 58, b_ 0, c_ 15] aln nocal ?_
          exact ih1 a0 x1 0 _ h
        · rw [if_neg c4] at h
          refine .cond' (.tmp 19) true [c_ 14916, c_ 14917, c_ 1865, b_ 1, c_ 467, l_ 58, b_ 0, c_ 15] (bT (nT (vF c4))) ?_
          refine .reg' [2] [] ⟨[(2, (B false))], [], [], []⟩ [c_ 14917, c_ 1865, b_ 1, c_ 467, l_ 58, b_ 0, c_ 15] aln nocal ?_
          have h := Option.some.inj h
          subst h
          exact .fin0 [] (B false) [] aln (.z .s)
      · rw [if_neg c3] at h
        cases h
    · rw [if_neg c2] at h
      refine .cond' (.tmp 11) false [c_ 30, c_ 31] (bF (dF c2)) ?_
      refine .reg' [2] [] ⟨[(2, (B true))], [], [], []⟩ [c_ 31] aln nocal ?_
      have h := Option.some.inj h
      subst h
      exact .fin0 [] (B true) [] aln (.z .s)
  · intro a0 x1 x3 r h
    unfold spec_TableOk.l1 at h
    refine .loop' [c_ 59696, c_ 59697, c_ 29849, l_ 7462, b_ 2, b_ 1, c_ 467, l_ 58, b_ 0, c_ 15] ?_
    refine .reg' [0, 3, 4, 22] [] ⟨[(0, (.sl true a0.length 2 (a0.flatMap (e66 true)))), (3, (I x1)), (4, (I x3)), (22, (B (decide (x3 < x1))))], [], [], []⟩ [c_ 59697, c_ 29849, l_ 7462, b_ 2, b_ 1, c_ 467, l_ 58, b_ 0, c_ 15] aln nocal ?_
    by_cases c5 : x3 < x1
    · rw [if_pos c5] at h
      refine .cond' (.tmp 22) true [c_ 238792, c_ 238793, b_ 3, c_ 59699, l_ 7462, b_ 2, b_ 1, c_ 467, l_ 58, b_ 0, c_ 15] (bT (dT c5)) ?_
      by_cases c6 : 0 ≤ x3
      · rw [if_pos c6] at h
        by_cases c7 : x3 < (a0.length : Int)
        · rw [if_pos c7] at h
          by_cases c8 : 0 ≤ x1
          · rw [if_pos c8] at h
            by_cases c9 : x1 < (a0.length : Int)
            · rw [if_pos c9] at h
              refine .reg' [0, 3, 4, 35] [.no, .no, .no, .no, .v (S (at_ a0 x3).f0), .no, .no, .no, .no, .v (S (at_ a0 x1).f0)] ⟨[(0, (.sl true a0.length 2 (a0.flatMap (e66 true)))), (3, (I x1)), (4, (I x3)), (35, (B (sEq (at_ a0 x3).f0 (at_ a0 x1).f0)))], [], [(0 : Int) ≤ x3 ∧ x3 < (a0.length : Int), rdC prog 9 (((a0.flatMap (e66 true)).drop (x3.toNat * 2)).drop 0) = (S (at_ a0 x3).f0), 1 ≤ (((a0.flatMap (e66 true)).drop (x3.toNat * 2)).drop 0).length, (0 : Int) ≤ x1 ∧ x1 < (a0.length : Int), rdC prog 9 (((a0.flatMap (e66 true)).drop (x1.toNat * 2)).drop 0) = (S (at_ a0 x1).f0), 1 ≤ (((a0.flatMap (e66 true)).drop (x1.toNat * 2)).drop 0).length], []⟩ [c_ 238793, b_ 3, c_ 59699, l_ 7462, b_ 2, b_ 1, c_ 467, l_ 58, b_ 0, c_ 15] (alc ⟨c6, c7⟩ (alc (ldC (e66_ok true) 0 (by decide) rfl c6 c7) (alc (okIj (e66_ok true) c6 c7 (by decide)) (alc ⟨c8, c9⟩ (alc (ldC (e66_ok true) 0 (by decide) rfl c8 c9) (alc (okIj (e66_ok true) c8 c9 (by decide)) aln)))))) nocal ?_
              by_cases c10 : (sEq (at_ a0 x3).f0 (at_ a0 x1).f0) = true
              · rw [if_pos c10] at h
                refine .cond' (.tmp 35) true [c_ 955172, c_ 955173, b_ 3, c_ 59699, l_ 7462, b_ 2, b_ 1, c_ 467, l_ 58, b_ 0, c_ 15] (bT c10) ?_
                refine .reg' [2] [] ⟨[(2, (B false))], [], [], []⟩ [c_ 955173, b_ 3, c_ 59699, l_ 7462, b_ 2, b_ 1, c_ 467, l_ 58, b_ 0, c_ 15] aln nocal ?_
                have h := Option.some.inj h
                subst h
                exact .fin0 [] (B false) [] aln (.z .s)
              · rw [if_neg c10] at h
                refine .cond' (.tmp 35) false [c_ 59699, l_ 7462, b_ 2, b_ 1, c_ 467, l_ 58, b_ 0, c_ 15] (bF (vF c10)) ?_
                refine .reg' [0, 3, 4] [] ⟨[(0, (.sl true a0.length 2 (a0.flatMap (e66 true)))), (3, (I x1)), (4, (I (wrap64 (x3 + 1))))], [], [], []⟩ [l_ 7462, b_ 2, b_ 1, c_ 467, l_ 58, b_ 0, c_ 15] aln nocal ?_
                exact ih1 a0 x1 (wrap64 (x3 + 1)) _ h
            · rw [if_neg c9] at h
              cases h
          · rw [if_neg c8] at h
            cases h
        · rw [if_neg c7] at h
          cases h
      · rw [if_neg c6] at h
        cases h
    · rw [if_neg c5] at h
      refine .cond' (.tmp 22) false [c_ 467, l_ 58, b_ 0, c_ 15] (bF (dF c5)) ?_
      refine .reg' [0, 3] [] ⟨[(0, (.sl true a0.length 2 (a0.flatMap (e66 true)))), (3, (I (wrap64 (x1 + 1))))], [], [], []⟩ [l_ 58, b_ 0, c_ 15] aln nocal ?_
      exact ih0 a0 (wrap64 (x1 + 1)) _ h
theorem spec_TableOk.J (k : Nat) (a0 : (List S66)) (r : Bool) (h : spec_TableOk.f k a0 = some r) : J prog (.call 63 [(.sl true a0.length 2 (a0.flatMap (e66 true)))] [] (B r) []) := by
  unfold spec_TableOk.f at h
  obtain ⟨ih0, ih1⟩ := spec_TableOk.lab k
  refine .call' [c_ 2, c_ 3] ?_
  refine .reg' [0] [] ⟨[(0, (.sl true a0.length 2 (a0.flatMap (e66 true))))], [], [], []⟩ [c_ 12, c_ 13, c_ 7] aln nocal ?_
  refine .reg' [0, 7] [] ⟨[(0, (.sl true a0.length 2 (a0.flatMap (e66 true)))), (7, (B (decide ((a0.length : Int) > 24))))], [], [], []⟩ [c_ 13, c_ 7] aln nocal ?_
  by_cases c1 : (a0.length : Int) > 24
  · rw [if_pos c1] at h
    refine .cond' (.tmp 7) true [c_ 52, c_ 53, c_ 7] (bT (dT c1)) ?_
    refine .reg' [2] [] ⟨[(2, (B false))], [], [], []⟩ [c_ 53, c_ 7] aln nocal ?_
    have h := Option.some.inj h
    subst h
    exact .fin0 [] (B false) [] aln (.z .s)
  · rw [if_neg c1] at h
    refine .cond' (.tmp 7) false [c_ 28, c_ 29, c_ 15] (bF (dF c1)) ?_
    refine .reg' [0, 3] [] ⟨[(0, (.sl true a0.length 2 (a0.flatMap (e66 true)))), (3, (I 0))], [], [], []⟩ [l_ 58, b_ 0, c_ 15] aln nocal ?_
    exact ih0 a0 0 _ h
/-! spec_l02Other: function 85 -/
def spec_l02Other.f (a0 : S95) (a1 : Int) : Option Int := (if a0.f0 = a1 then (some a0.f1) else (if a0.f1 = a1 then (some a0.f0) else (some (-1))))
theorem spec_l02Other.J (a0 : S95) (a1 : Int) (r : Int) (h : spec_l02Other.f a0 a1 = some r) : J prog (.call 85 [(.ag [(I a0.f0), (I a0.f1), (I a0.f2), (I a0.f3)]), (I a1)] [] (I r) []) := by
  unfold spec_l02Other.f at h
  refine .call' [c_ 2, c_ 3] ?_
  refine .reg' [1, 2] [] ⟨[(1, (I a1)), (2, (.pt 256 0 4))], [(256, [(I a0.f0), (I a0.f1), (I a0.f2), (I a0.f3)])], [], []⟩ [c_ 12, c_ 13, c_ 7] aln nocal ?_
  refine .reg' [1, 2, 8] [] ⟨[(1, (I a1)), (2, (.pt 256 0 4)), (8, (B (a0.f0 == a1)))], [(256, [(I a0.f0), (I a0.f1), (I a0.f2), (I a0.f3)])], [4 = 4 ∧ 0 + 1 ≤ 4], []⟩ [c_ 13, c_ 7] (alc ⟨rfl, by decide⟩ aln) nocal ?_
  by_cases c1 : a0.f0 = a1
  · rw [if_pos c1] at h
    refine .cond' (.tmp 8) true [c_ 52, c_ 53, c_ 7] (bT (qT c1)) ?_
    refine .reg' [4] [] ⟨[(4, (I a0.f1))], [(256, [(I a0.f0), (I a0.f1), (I a0.f2), (I a0.f3)])], [4 = 4 ∧ 1 + 1 ≤ 4], []⟩ [c_ 53, c_ 7] (alc ⟨rfl, by decide⟩ aln) nocal ?_
    have h := Option.some.inj h
    subst h
    exact .fin0 [] (I a0.f1) [] aln (.z .s)
  · rw [if_neg c1] at h
    refine .cond' (.tmp 8) false [c_ 28, c_ 29, c_ 15] (bF (qF c1)) ?_
    refine .reg' [2, 14] [] ⟨[(2, (.pt 256 0 4)), (14, (B (a0.f1 == a1)))], [(256, [(I a0.f0), (I a0.f1), (I a0.f2), (I a0.f3)])], [4 = 4 ∧ 1 + 1 ≤ 4], []⟩ [c_ 29, c_ 15] (alc ⟨rfl, by decide⟩ aln) nocal ?_
    by_cases c2 : a0.f1 = a1
    · rw [if_pos c2] at h
      refine .cond' (.tmp 14) true [c_ 116, c_ 117, c_ 15] (bT (qT c2)) ?_
      refine .reg' [4] [] ⟨[(4, (I a0.f0))], [(256, [(I a0.f0), (I a0.f1), (I a0.f2), (I a0.f3)])], [4 = 4 ∧ 0 + 1 ≤ 4], []⟩ [c_ 117, c_ 15] (alc ⟨rfl, by decide⟩ aln) nocal ?_
      have h := Option.some.inj h
      subst h
      exact .fin0 [] (I a0.f0) [] aln (.z .s)
    · rw [if_neg c2] at h
      refine .cond' (.tmp 14) false [c_ 30, c_ 31] (bF (qF c2)) ?_
      refine .reg' [4] [] ⟨[(4, (I (-1)))], [(256, [(I a0.f0), (I a0.f1), (I a0.f2), (I a0.f3)])], [], []⟩ [c_ 31] aln nocal ?_
      have h := Option.some.inj h
      subst h
      exact .fin0 [] (I (-1)) [] aln (.z .s)
/-! spec_l09Edge: function 64 -/
def spec_l09Edge.l0 : Nat → S46 → Int → Int → Int → Option Int
 | 0, _, _, _, _ => none
 | k + 1, a0, a1, a2, x1 => (if x1 < (a0.f1.length : Int) then (if 0 ≤ x1 then ((spec_l02Other.f (at_ a0.f1 x1) a1).bind fun x2 => (if x2 = a2 then (some x1) else (spec_l09Edge.l0 k a0 a1 a2 (wrap64 (x1 + 1))))) else none) else (some (-1)))
def spec_l09Edge.f (k : Nat) (a0 : S46) (a1 : Int) (a2 : Int) : Option Int := (spec_l09Edge.l0 k a0 a1 a2 0)
theorem spec_l09Edge.lab : ∀ k, (∀ (a0 : S46) (a1 : Int) (a2 : Int) (x1 : Int) (r : Int), spec_l09Edge.l0 k a0 a1 a2 x1 = some r → J prog (.run 64 [] [l_ 26, b_ 0, c_ 7] [(1, (I a1)), (2, (I a2)), (3, (.pt 256 0 2)), (7, (I x1))] [(256, [(I a0.f0), (.sl true a0.f1.length 4 (a0.f1.flatMap e95))])] (I r) []))
 | 0 => (by intro a0 a1 a2 x1 r h; unfold spec_l09Edge.l0 at h; cases h)
 | k + 1 => by
  have ih0 := spec_l09Edge.lab k
  · intro a0 a1 a2 x1 r h
    unfold spec_l09Edge.l0 at h
    refine .loop' [c_ 208, c_ 209, c_ 105, l_ 26, b_ 0, c_ 7] ?_
    refine .reg' [1, 2, 3, 7, 12] [] ⟨[(1, (I a1)), (2, (I a2)), (3, (.pt 256 0 2)), (7, (I x1)), (12, (B (decide (x1 < (a0.f1.length : Int)))))], [(256, [(I a0.f0), (.sl true a0.f1.length 4 (a0.f1.flatMap e95))])], [2 = 2 ∧ 1 + 1 ≤ 2], []⟩ [c_ 209, c_ 105, l_ 26, b_ 0, c_ 7] (alc ⟨rfl, by decide⟩ aln) nocal ?_
    by_cases c1 : x1 < (a0.f1.length : Int)
    · rw [if_pos c1] at h
      refine .cond' (.tmp 12) true [c_ 840, c_ 841, b_ 1, c_ 211, l_ 26, b_ 0, c_ 7] (bT (dT c1)) ?_
      by_cases c2 : 0 ≤ x1
      · rw [if_pos c2] at h
        obtain ⟨x2, hx2, h⟩ := Option.bind_eq_some_iff.mp h
        refine .reg' [1, 2, 3, 7, 23] [.no, .no, .no, .no, .v (.ag [(I (at_ a0.f1 x1).f0), (I (at_ a0.f1 x1).f1), (I (at_ a0.f1 x1).f2), (I (at_ a0.f1 x1).f3)]), .no, .c ⟨85, [(.ag [(I (at_ a0.f1 x1).f0), (I (at_ a0.f1 x1).f1), (I (at_ a0.f1 x1).f2), (I (at_ a0.f1 x1).f3)]), (I a1)], [], (I x2), [], [], [], [], (I x2), []⟩] ⟨[(1, (I a1)), (2, (I a2)), (3, (.pt 256 0 2)), (7, (I x1)), (23, (B (x2 == a2)))], [(256, [(I a0.f0), (.sl true a0.f1.length 4 (a0.f1.flatMap e95))])], [2 = 2 ∧ 1 + 1 ≤ 2, (0 : Int) ≤ x1 ∧ x1 < (a0.f1.length : Int), rdC prog 96 ((a0.f1.flatMap e95).drop (x1.toNat * 4)) = (.ag [(I (at_ a0.f1 x1).f0), (I (at_ a0.f1 x1).f1), (I (at_ a0.f1 x1).f2), (I (at_ a0.f1 x1).f3)]), 4 ≤ ((a0.f1.flatMap e95).drop (x1.toNat * 4)).length, COK (hget [(256, [(I a0.f0), (.sl true a0.f1.length 4 (a0.f1.flatMap e95))])]) [(.ag [(I (at_ a0.f1 x1).f0), (I (at_ a0.f1 x1).f1), (I (at_ a0.f1 x1).f2), (I (at_ a0.f1 x1).f3)]), (I a1)] ⟨85, [(.ag [(I (at_ a0.f1 x1).f0), (I (at_ a0.f1 x1).f1), (I (at_ a0.f1 x1).f2), (I (at_ a0.f1 x1).f3)]), (I a1)], [], (I x2), [], [], [], [], (I x2), []⟩], [⟨85, [(.ag [(I (at_ a0.f1 x1).f0), (I (at_ a0.f1 x1).f1), (I (at_ a0.f1 x1).f2), (I (at_ a0.f1 x1).f3)]), (I a1)], [], (I x2), [], [], [], [], (I x2), []⟩]⟩ [c_ 841, b_ 1, c_ 211, l_ 26, b_ 0, c_ 7] (alc ⟨rfl, by decide⟩ (alc ⟨c2, c1⟩ (alc (ldA e95_ok rfl rfl c2 c1) (alc (okI e95_ok c2 c1 (by decide)) (alc (cok0 false (a2c (.z (frz_ag (a2c .s (a2c .s (a2c .s (a2c .s a2n)))))) (a2c (.z .s) a2n)) (.z .s) (fun h => absurd h (by decide))) aln))))) (acal (spec_l02Other.J (at_ a0.f1 x1) a1 _ hx2) nocal) ?_
        by_cases c3 : x2 = a2
        · rw [if_pos c3] at h
          refine .cond' (.tmp 23) true [c_ 3364, c_ 3365, b_ 1, c_ 211, l_ 26, b_ 0, c_ 7] (bT (qT c3)) ?_
          refine .reg' [6] [] ⟨[(6, (I x1))], [(256, [(I a0.f0), (.sl true a0.f1.length 4 (a0.f1.flatMap e95))])], [], []⟩ [c_ 3365, b_ 1, c_ 211, l_ 26, b_ 0, c_ 7] aln nocal ?_
          have h := Option.some.inj h
          subst h
          exact .fin0 [] (I x1) [] aln (.z .s)
        · rw [if_neg c3] at h
          refine .cond' (.tmp 23) false [c_ 211, l_ 26, b_ 0, c_ 7] (bF (qF c3)) ?_
          refine .reg' [1, 2, 3, 7] [] ⟨[(1, (I a1)), (2, (I a2)), (3, (.pt 256 0 2)), (7, (I (wrap64 (x1 + 1))))], [(256, [(I a0.f0), (.sl true a0.f1.length 4 (a0.f1.flatMap e95))])], [], []⟩ [l_ 26, b_ 0, c_ 7] aln nocal ?_
          exact ih0 a0 a1 a2 (wrap64 (x1 + 1)) _ h
      · rw [if_neg c2] at h
        cases h
    · rw [if_neg c1] at h
      refine .cond' (.tmp 12) false [c_ 14, c_ 15] (bF (dF c1)) ?_
      refine .reg' [6] [] ⟨[(6, (I (-1)))], [(256, [(I a0.f0), (.sl true a0.f1.length 4 (a0.f1.flatMap e95))])], [], []⟩ [c_ 15] aln nocal ?_
      have h := Option.some.inj h
      subst h
      exact .fin0 [] (I (-1)) [] aln (.z .s)
theorem spec_l09Edge.J (k : Nat) (a0 : S46) (a1 : Int) (a2 : Int) (r : Int) (h : spec_l09Edge.f k a0 a1 a2 = some r) : J prog (.call 64 [(.ag [(I a0.f0), (.sl true a0.f1.length 4 (a0.f1.flatMap e95))]), (I a1), (I a2)] [] (I r) []) := by
  unfold spec_l09Edge.f at h
  have ih0 := spec_l09Edge.lab k
  refine .call' [c_ 2, c_ 3] ?_
  refine .reg' [1, 2, 3] [] ⟨[(1, (I a1)), (2, (I a2)), (3, (.pt 256 0 2))], [(256, [(I a0.f0), (.sl true a0.f1.length 4 (a0.f1.flatMap e95))])], [], []⟩ [c_ 12, c_ 13, c_ 7] aln nocal ?_
  refine .reg' [1, 2, 3, 7] [] ⟨[(1, (I a1)), (2, (I a2)), (3, (.pt 256 0 2)), (7, (I 0))], [(256, [(I a0.f0), (.sl true a0.f1.length 4 (a0.f1.flatMap e95))])], [], []⟩ [l_ 26, b_ 0, c_ 7] aln nocal ?_
  exact ih0 a0 a1 a2 0 _ h
/-! spec_Ridden: function 25 -/
mutual
def spec_Ridden.l0 : Nat → S46 → (List S66) → Int → Option Bool
 | 0, _, _, _ => none
 | k + 1, a0, a1, x3 => (if x3 < (a1.length : Int) then (spec_Ridden.l1 k a0 a1 x3 1) else (some true))
def spec_Ridden.l1 : Nat → S46 → (List S66) → Int → Int → Option Bool
 | 0, _, _, _, _ => none
 | k + 1, a0, a1, x3, x4 => (if 0 ≤ x3 then (if x3 < (a1.length : Int) then (if x4 < ((at_ a1 x3).f1.length : Int) then (if 0 ≤ (wrap64 (x4 - 1)) then (if (wrap64 (x4 - 1)) < ((at_ a1 x3).f1.length : Int) then (if 0 ≤ x4 then ((spec_l09Edge.f k a0 ((at_ (at_ a1 x3).f1 (wrap64 (x4 - 1))).f0) ((at_ (at_ a1 x3).f1 x4).f0)).bind fun x5 => (if x5 < 0 then (some false) else (spec_Ridden.l1 k a0 a1 x3 (wrap64 (x4 + 1))))) else none) else none) else none) else (spec_Ridden.l0 k a0 a1 (wrap64 (x3 + 1)))) else none) else none)
end
def spec_Ridden.f (k : Nat) (a0 : S46) (a1 : (List S66)) : Option Bool := ((spec_NetOk.f k a0).bind fun x1 => (if x1 = true then ((spec_TableOk.f k a1).bind fun x2 => (if x2 = true then (spec_Ridden.l0 k a0 a1 0) else (some false))) else (some false)))
theorem spec_Ridden.lab : ∀ k, (∀ (a0 : S46) (a1 : (List S66)) (x3 : Int) (r : Bool), spec_Ridden.l0 k a0 a1 x3 = some r → J prog (.run 25 [] [l_ 58, b_ 0, c_ 15] [(1, (.sl true a1.length 2 (a1.flatMap (e66 true)))), (2, (.pt 256 0 2)), (5, (I x3))] [(256, [(I a0.f0), (.sl true a0.f1.length 4 (a0.f1.flatMap e95))])] (B r) [])) ∧ (∀ (a0 : S46) (a1 : (List S66)) (x3 : Int) (x4 : Int) (r : Bool), spec_Ridden.l1 k a0 a1 x3 x4 = some r → J prog (.run 25 [] [l_ 3730, b_ 2, b_ 1, c_ 467, l_ 58, b_ 0, c_ 15] [(1, (.sl true a1.length 2 (a1.flatMap (e66 true)))), (2, (.pt 256 0 2)), (5, (I x3)), (6, (I x4))] [(256, [(I a0.f0), (.sl true a0.f1.length 4 (a0.f1.flatMap e95))])] (B r) []))
 | 0 => ⟨(by intro a0 a1 x3 r h; unfold spec_Ridden.l0 at h; cases h), (by intro a0 a1 x3 x4 r h; unfold spec_Ridden.l1 at h; cases h)⟩
 | k + 1 => by
  obtain ⟨ih0, ih1⟩ := spec_Ridden.lab k
  refine ⟨?_, ?_⟩
  · intro a0 a1 x3 r h
    unfold spec_Ridden.l0 at h
    refine .loop' [c_ 464, c_ 465, c_ 233, l_ 58, b_ 0, c_ 15] ?_
    refine .reg' [1, 2, 5, 18] [] ⟨[(1, (.sl true a1.length 2 (a1.flatMap (e66 true)))), (2, (.pt 256 0 2)), (5, (I x3)), (18, (B (decide (x3 < (a1.length : Int)))))], [(256, [(I a0.f0), (.sl true a0.f1.length 4 (a0.f1.flatMap e95))])], [], []⟩ [c_ 465, c_ 233, l_ 58, b_ 0, c_ 15] aln nocal ?_
    by_cases c3 : x3 < (a1.length : Int)
    · rw [if_pos c3] at h
      refine .cond' (.tmp 18) true [c_ 1864, c_ 1865, b_ 1, c_ 467, l_ 58, b_ 0, c_ 15] (bT (dT c3)) ?_
      refine .reg' [1, 2, 5, 6] [] ⟨[(1, (.sl true a1.length 2 (a1.flatMap (e66 true)))), (2, (.pt 256 0 2)), (5, (I x3)), (6, (I 1))], [(256, [(I a0.f0), (.sl true a0.f1.length 4 (a0.f1.flatMap e95))])], [], []⟩ [l_ 3730, b_ 2, b_ 1, c_ 467, l_ 58, b_ 0, c_ 15] aln nocal ?_
      exact ih1 a0 a1 x3 1 _ h
    · rw [if_neg c3] at h
      refine .cond' (.tmp 18) false [c_ 30, c_ 31] (bF (dF c3)) ?_
      refine .reg' [4] [] ⟨[(4, (B true))], [(256, [(I a0.f0), (.sl true a0.f1.length 4 (a0.f1.flatMap e95))])], [], []⟩ [c_ 31] aln nocal ?_
      have h := Option.some.inj h
      subst h
      exact .fin0 [] (B true) [] aln (.z .s)
  · intro a0 a1 x3 x4 r h
    unfold spec_Ridden.l1 at h
    refine .loop' [c_ 29840, c_ 29841, c_ 14921, l_ 3730, b_ 2, b_ 1, c_ 467, l_ 58, b_ 0, c_ 15] ?_
    by_cases c4 : 0 ≤ x3
    · rw [if_pos c4] at h
      by_cases c5 : x3 < (a1.length : Int)
      · rw [if_pos c5] at h
        refine .reg' [1, 2, 5, 6, 28] [.no, .no, .no, .no, .no, .v (.sl true (at_ a1 x3).f1.length 3 ((at_ a1 x3).f1.flatMap e89))] ⟨[(1, (.sl true a1.length 2 (a1.flatMap (e66 true)))), (2, (.pt 256 0 2)), (5, (I x3)), (6, (I x4)), (28, (B (decide (x4 < ((at_ a1 x3).f1.length : Int)))))], [(256, [(I a0.f0), (.sl true a0.f1.length 4 (a0.f1.flatMap e95))])], [(0 : Int) ≤ x3 ∧ x3 < (a1.length : Int), rdC prog 65 (((a1.flatMap (e66 true)).drop (x3.toNat * 2)).drop 1) = (.sl true (at_ a1 x3).f1.length 3 ((at_ a1 x3).f1.flatMap e89)), 1 ≤ (((a1.flatMap (e66 true)).drop (x3.toNat * 2)).drop 1).length], []⟩ [c_ 29841, c_ 14921, l_ 3730, b_ 2, b_ 1, c_ 467, l_ 58, b_ 0, c_ 15] (alc ⟨c4, c5⟩ (alc (ldC (e66_ok true) 1 (by decide) rfl c4 c5) (alc (okIj (e66_ok true) c4 c5 (by decide)) aln))) nocal ?_
        by_cases c6 : x4 < ((at_ a1 x3).f1.length : Int)
        · rw [if_pos c6] at h
          refine .cond' (.tmp 28) true [c_ 119368, c_ 119369, b_ 3, c_ 29843, l_ 3730, b_ 2, b_ 1, c_ 467, l_ 58, b_ 0, c_ 15] (bT (dT c6)) ?_
          by_cases c7 : 0 ≤ (wrap64 (x4 - 1))
          · rw [if_pos c7] at h
            by_cases c8 : (wrap64 (x4 - 1)) < ((at_ a1 x3).f1.length : Int)
            · rw [if_pos c8] at h
              by_cases c9 : 0 ≤ x4
              · rw [if_pos c9] at h
                obtain ⟨x5, hx5, h⟩ := Option.bind_eq_some_iff.mp h
                refine .reg' [1, 2, 5, 6, 52] [.no, .no, .no, .no, .no, .v (.sl true (at_ a1 x3).f1.length 3 ((at_ a1 x3).f1.flatMap e89)), .no, .no, .no, .no, .v (I (at_ (at_ a1 x3).f1 (wrap64 (x4 - 1))).f0), .no, .no, .no, .no, .v (.sl true (at_ a1 x3).f1.length 3 ((at_ a1 x3).f1.flatMap e89)), .no, .no, .no, .v (I (at_ (at_ a1 x3).f1 x4).f0), .c ⟨64, [(.ag [(I a0.f0), (.sl true a0.f1.length 4 (a0.f1.flatMap e95))]), (I (at_ (at_ a1 x3).f1 (wrap64 (x4 - 1))).f0), (I (at_ (at_ a1 x3).f1 x4).f0)], [], (I x5), [], [], [], [], (I x5), []⟩] ⟨[(1, (.sl true a1.length 2 (a1.flatMap (e66 true)))), (2, (.pt 256 0 2)), (5, (I x3)), (6, (I x4)), (52, (B (decide (x5 < 0))))], [(256, [(I a0.f0), (.sl true a0.f1.length 4 (a0.f1.flatMap e95))])], [2 = 2 ∧ 0 + 2 ≤ 2, (0 : Int) ≤ x3 ∧ x3 < (a1.length : Int), rdC prog 65 (((a1.flatMap (e66 true)).drop (x3.toNat * 2)).drop 1) = (.sl true (at_ a1 x3).f1.length 3 ((at_ a1 x3).f1.flatMap e89)), 1 ≤ (((a1.flatMap (e66 true)).drop (x3.toNat * 2)).drop 1).length, (0 : Int) ≤ (wrap64 (x4 - 1)) ∧ (wrap64 (x4 - 1)) < ((at_ a1 x3).f1.length : Int), rdC prog 3 ((((at_ a1 x3).f1.flatMap e89).drop ((wrap64 (x4 - 1)).toNat * 3)).drop 0) = (I (at_ (at_ a1 x3).f1 (wrap64 (x4 - 1))).f0), 1 ≤ ((((at_ a1 x3).f1.flatMap e89).drop ((wrap64 (x4 - 1)).toNat * 3)).drop 0).length, (0 : Int) ≤ x3 ∧ x3 < (a1.length : Int), rdC prog 65 (((a1.flatMap (e66 true)).drop (x3.toNat * 2)).drop 1) = (.sl true (at_ a1 x3).f1.length 3 ((at_ a1 x3).f1.flatMap e89)), 1 ≤ (((a1.flatMap (e66 true)).drop (x3.toNat * 2)).drop 1).length, (0 : Int) ≤ x4 ∧ x4 < ((at_ a1 x3).f1.length : Int), rdC prog 3 ((((at_ a1 x3).f1.flatMap e89).drop (x4.toNat * 3)).drop 0) = (I (at_ (at_ a1 x3).f1 x4).f0), 1 ≤ ((((at_ a1 x3).f1.flatMap e89).drop (x4.toNat * 3)).drop 0).length, COK (hget [(256, [(I a0.f0), (.sl true a0.f1.length 4 (a0.f1.flatMap e95))])]) [(.ag [(I a0.f0), (.sl true a0.f1.length 4 (a0.f1.flatMap e95))]), (I (at_ (at_ a1 x3).f1 (wrap64 (x4 - 1))).f0), (I (at_ (at_ a1 x3).f1 x4).f0)] ⟨64, [(.ag [(I a0.f0), (.sl true a0.f1.length 4 (a0.f1.flatMap e95))]), (I (at_ (at_ a1 x3).f1 (wrap64 (x4 - 1))).f0), (I (at_ (at_ a1 x3).f1 x4).f0)], [], (I x5), [], [], [], [], (I x5), []⟩], [⟨64, [(.ag [(I a0.f0), (.sl true a0.f1.length 4 (a0.f1.flatMap e95))]), (I (at_ (at_ a1 x3).f1 (wrap64 (x4 - 1))).f0), (I (at_ (at_ a1 x3).f1 x4).f0)], [], (I x5), [], [], [], [], (I x5), []⟩]⟩ [c_ 119369, b_ 3, c_ 29843, l_ 3730, b_ 2, b_ 1, c_ 467, l_ 58, b_ 0, c_ 15] (alc ⟨rfl, by decide⟩ (alc ⟨c4, c5⟩ (alc (ldC (e66_ok true) 1 (by decide) rfl c4 c5) (alc (okIj (e66_ok true) c4 c5 (by decide)) (alc ⟨c7, c8⟩ (alc (ldC e89_ok 0 (by decide) rfl c7 c8) (alc (okIj e89_ok c7 c8 (by decide)) (alc ⟨c4, c5⟩ (alc (ldC (e66_ok true) 1 (by decide) rfl c4 c5) (alc (okIj (e66_ok true) c4 c5 (by decide)) (alc ⟨c9, c6⟩ (alc (ldC e89_ok 0 (by decide) rfl c9 c6) (alc (okIj e89_ok c9 c6 (by decide)) (alc (cok0 false (a2c (.z (frz_ag (a2c .s (a2c (frz_sl e95_ok (fun h => h)) a2n)))) (a2c (.z .s) (a2c (.z .s) a2n))) (.z .s) (fun h => absurd h (by decide))) aln)))))))))))))) (acal (spec_l09Edge.J k a0 ((at_ (at_ a1 x3).f1 (wrap64 (x4 - 1))).f0) ((at_ (at_ a1 x3).f1 x4).f0) _ hx5) nocal) ?_
                by_cases c10 : x5 < 0
                · rw [if_pos c10] at h
                  refine .cond' (.tmp 52) true [c_ 477476, c_ 477477, b_ 3, c_ 29843, l_ 3730, b_ 2, b_ 1, c_ 467, l_ 58, b_ 0, c_ 15] (bT (dT c10)) ?_
                  refine .reg' [4] [] ⟨[(4, (B false))], [(256, [(I a0.f0), (.sl true a0.f1.length 4 (a0.f1.flatMap e95))])], [], []⟩ [c_ 477477, b_ 3, c_ 29843, l_ 3730, b_ 2, b_ 1, c_ 467, l_ 58, b_ 0, c_ 15] aln nocal ?_
                  have h := Option.some.inj h
                  subst h
                  exact .fin0 [] (B false) [] aln (.z .s)
                · rw [if_neg c10] at h
                  refine .cond' (.tmp 52) false [c_ 29843, l_ 3730, b_ 2, b_ 1, c_ 467, l_ 58, b_ 0, c_ 15] (bF (dF c10)) ?_
                  refine .reg' [1, 2, 5, 6] [] ⟨[(1, (.sl true a1.length 2 (a1.flatMap (e66 true)))), (2, (.pt 256 0 2)), (5, (I x3)), (6, (I (wrap64 (x4 + 1))))], [(256, [(I a0.f0), (.sl true a0.f1.length 4 (a0.f1.flatMap e95))])], [], []⟩ [l_ 3730, b_ 2, b_ 1, c_ 467, l_ 58, b_ 0, c_ 15] aln nocal ?_
                  exact ih1 a0 a1 x3 (wrap64 (x4 + 1)) _ h
              · rw [if_neg c9] at h
                cases h
            · rw [if_neg c8] at h
              cases h
          · rw [if_neg c7] at h
            cases h
        · rw [if_neg c6] at h
          refine .cond' (.tmp 28) false [c_ 467, l_ 58, b_ 0, c_ 15] (bF (dF c6)) ?_
          refine .reg' [1, 2, 5] [] ⟨[(1, (.sl true a1.length 2 (a1.flatMap (e66 true)))), (2, (.pt 256 0 2)), (5, (I (wrap64 (x3 + 1))))], [(256, [(I a0.f0), (.sl true a0.f1.length 4 (a0.f1.flatMap e95))])], [], []⟩ [l_ 58, b_ 0, c_ 15] aln nocal ?_
          exact ih0 a0 a1 (wrap64 (x3 + 1)) _ h
      · rw [if_neg c5] at h
        cases h
    · rw [if_neg c4] at h
      cases h
theorem spec_Ridden.J (k : Nat) (a0 : S46) (a1 : (List S66)) (r : Bool) (h : spec_Ridden.f k a0 a1 = some r) : J prog (.call 25 [(.ag [(I a0.f0), (.sl true a0.f1.length 4 (a0.f1.flatMap e95))]), (.sl true a1.length 2 (a1.flatMap (e66 true)))] [] (B r) []) := by
  unfold spec_Ridden.f at h
  obtain ⟨ih0, ih1⟩ := spec_Ridden.lab k
  refine .call' [c_ 2, c_ 3] ?_
  refine .reg' [1, 2] [] ⟨[(1, (.sl true a1.length 2 (a1.flatMap (e66 true)))), (2, (.pt 256 0 2))], [(256, [(I a0.f0), (.sl true a0.f1.length 4 (a0.f1.flatMap e95))])], [], []⟩ [c_ 12, c_ 13, c_ 7] aln nocal ?_
  obtain ⟨x1, hx1, h⟩ := Option.bind_eq_some_iff.mp h
  by_cases c1 : x1 = true
  · rw [if_pos c1] at h
    obtain ⟨x2, hx2, h⟩ := Option.bind_eq_some_iff.mp h
    refine .reg' [1, 2, 14] [.no, .c ⟨62, [(.ag [(I a0.f0), (.sl true a0.f1.length 4 (a0.f1.flatMap e95))])], [], (B x1), [], [], [], [], (B x1), []⟩, .no, .v (B false), .no, .c ⟨63, [(.sl true a1.length 2 (a1.flatMap (e66 true)))], [], (B x2), [], [], [], [], (B x2), []⟩] ⟨[(1, (.sl true a1.length 2 (a1.flatMap (e66 true)))), (2, (.pt 256 0 2)), (14, (B (!x2)))], [(256, [(I a0.f0), (.sl true a0.f1.length 4 (a0.f1.flatMap e95))])], [2 = 2 ∧ 0 + 2 ≤ 2, COK (hget [(256, [(I a0.f0), (.sl true a0.f1.length 4 (a0.f1.flatMap e95))])]) [(.ag [(I a0.f0), (.sl true a0.f1.length 4 (a0.f1.flatMap e95))])] ⟨62, [(.ag [(I a0.f0), (.sl true a0.f1.length 4 (a0.f1.flatMap e95))])], [], (B x1), [], [], [], [], (B x1), []⟩, (B (!x1) : V) = B false, COK (hget [(256, [(I a0.f0), (.sl true a0.f1.length 4 (a0.f1.flatMap e95))])]) [(.sl true a1.length 2 (a1.flatMap (e66 true)))] ⟨63, [(.sl true a1.length 2 (a1.flatMap (e66 true)))], [], (B x2), [], [], [], [], (B x2), []⟩], [⟨62, [(.ag [(I a0.f0), (.sl true a0.f1.length 4 (a0.f1.flatMap e95))])], [], (B x1), [], [], [], [], (B x1), []⟩, ⟨63, [(.sl true a1.length 2 (a1.flatMap (e66 true)))], [], (B x2), [], [], [], [], (B x2), []⟩]⟩ [c_ 13, c_ 7] (alc ⟨rfl, by decide⟩ (alc (cok0 false (a2c (.z (frz_ag (a2c .s (a2c (frz_sl e95_ok (fun h => h)) a2n)))) a2n) (.z .s) (fun h => absurd h (by decide))) (alc (bF (nF c1)) (alc (cok0 false (a2c (.z (frz_sl (e66_ok true) (fun h => h))) a2n) (.z .s) (fun h => absurd h (by decide))) aln)))) (acal (spec_NetOk.J k a0 _ hx1) (acal (spec_TableOk.J k a1 _ hx2) nocal)) ?_
    by_cases c2 : x2 = true
    · rw [if_pos c2] at h
      refine .cond' (.tmp 14) false [c_ 28, c_ 29, c_ 15] (bF (nF c2)) ?_
      refine .reg' [1, 2, 5] [] ⟨[(1, (.sl true a1.length 2 (a1.flatMap (e66 true)))), (2, (.pt 256 0 2)), (5, (I 0))], [(256, [(I a0.f0), (.sl true a0.f1.length 4 (a0.f1.flatMap e95))])], [], []⟩ [l_ 58, b_ 0, c_ 15] aln nocal ?_
      exact ih0 a0 a1 0 _ h
    · rw [if_neg c2] at h
      refine .cond' (.tmp 14) true [c_ 52, c_ 53, c_ 7] (bT (nT (vF c2))) ?_
      refine .reg' [4] [] ⟨[(4, (B false))], [(256, [(I a0.f0), (.sl true a0.f1.length 4 (a0.f1.flatMap e95))])], [], []⟩ [c_ 53, c_ 7] aln nocal ?_
      have h := Option.some.inj h
      subst h
      exact .fin0 [] (B false) [] aln (.z .s)
  · rw [if_neg c1] at h
    refine .reg' [1, 2, 14] [.no, .c ⟨62, [(.ag [(I a0.f0), (.sl true a0.f1.length 4 (a0.f1.flatMap e95))])], [], (B x1), [], [], [], [], (B x1), []⟩, .no, .v (B true)] ⟨[(1, (.sl true a1.length 2 (a1.flatMap (e66 true)))), (2, (.pt 256 0 2)), (14, (B true))], [(256, [(I a0.f0), (.sl true a0.f1.length 4 (a0.f1.flatMap e95))])], [2 = 2 ∧ 0 + 2 ≤ 2, COK (hget [(256, [(I a0.f0), (.sl true a0.f1.length 4 (a0.f1.flatMap e95))])]) [(.ag [(I a0.f0), (.sl true a0.f1.length 4 (a0.f1.flatMap e95))])] ⟨62, [(.ag [(I a0.f0), (.sl true a0.f1.length 4 (a0.f1.flatMap e95))])], [], (B x1), [], [], [], [], (B x1), []⟩, (B (!x1) : V) = B true], [⟨62, [(.ag [(I a0.f0), (.sl true a0.f1.length 4 (a0.f1.flatMap e95))])], [], (B x1), [], [], [], [], (B x1), []⟩]⟩ [c_ 13, c_ 7] (alc ⟨rfl, by decide⟩ (alc (cok0 false (a2c (.z (frz_ag (a2c .s (a2c (frz_sl e95_ok (fun h => h)) a2n)))) a2n) (.z .s) (fun h => absurd h (by decide))) (alc (bT (nT (vF c1))) aln))) (acal (spec_NetOk.J k a0 _ hx1) nocal) ?_
    refine .cond' (.tmp 14) true [c_ 52, c_ 53, c_ 7] (rfl) ?_
    refine .reg' [4] [] ⟨[(4, (B false))], [(256, [(I a0.f0), (.sl true a0.f1.length 4 (a0.f1.flatMap e95))])], [], []⟩ [c_ 53, c_ 7] aln nocal ?_
    have h := Option.some.inj h
    subst h
    exact .fin0 [] (B false) [] aln (.z .s)
/-! spec_Uses: function 31 -/
mutual
def spec_Uses.l0 : Nat → S46 → (List S66) → (List S22) → Int → Option (List S22)
 | 0, _, _, _, _ => none
 | k + 1, a0, a1, x2, x3 => (if x3 < (a1.length : Int) then (spec_Uses.l1 k a0 a1 x3 x2 1) else (some x2))
def spec_Uses.l1 : Nat → S46 → (List S66) → Int → (List S22) → Int → Option (List S22)
 | 0, _, _, _, _, _ => none
 | k + 1, a0, a1, x3, x4, x5 => (if 0 ≤ x3 then (if x3 < (a1.length : Int) then (if x5 < ((at_ a1 x3).f1.length : Int) then (if 0 ≤ (wrap64 (x5 - 1)) then (if (wrap64 (x5 - 1)) < ((at_ a1 x3).f1.length : Int) then (if 0 ≤ x5 then ((spec_l09Edge.f k a0 ((at_ (at_ a1 x3).f1 (wrap64 (x5 - 1))).f0) ((at_ (at_ a1 x3).f1 x5).f0)).bind fun x6 => (if 0 ≤ x6 then (if x6 < (a0.f1.length : Int) then (if (at_ a0.f1 x6).f0 = (at_ (at_ a1 x3).f1 (wrap64 (x5 - 1))).f0 then (if (x4.length + ([(⟨x6, 0, (at_ (at_ a1 x3).f1 (wrap64 (x5 - 1))).f2, (at_ (at_ a1 x3).f1 x5).f1, x3⟩ : S22)] : List S22).length) * 40 ≤ 70368744177664 then (spec_Uses.l1 k a0 a1 x3 (x4 ++ ([(⟨x6, 0, (at_ (at_ a1 x3).f1 (wrap64 (x5 - 1))).f2, (at_ (at_ a1 x3).f1 x5).f1, x3⟩ : S22)] : List S22)) (wrap64 (x5 + 1))) else none) else (if (x4.length + ([(⟨x6, 1, (at_ (at_ a1 x3).f1 (wrap64 (x5 - 1))).f2, (at_ (at_ a1 x3).f1 x5).f1, x3⟩ : S22)] : List S22).length) * 40 ≤ 70368744177664 then (spec_Uses.l1 k a0 a1 x3 (x4 ++ ([(⟨x6, 1, (at_ (at_ a1 x3).f1 (wrap64 (x5 - 1))).f2, (at_ (at_ a1 x3).f1 x5).f1, x3⟩ : S22)] : List S22)) (wrap64 (x5 + 1))) else none)) else none) else none)) else none) else none) else none) else (spec_Uses.l0 k a0 a1 x4 (wrap64 (x3 + 1)))) else none) else none)
end
def spec_Uses.f (k : Nat) (a0 : S46) (a1 : (List S66)) : Option (List S22) := ((spec_Ridden.f k a0 a1).bind fun x1 => (if x1 = true then (spec_Uses.l0 k a0 a1 ([] : List S22) 0) else (some ([] : List S22))))
theorem spec_Uses.lab : ∀ k, (∀ (a0 : S46) (a1 : (List S66)) (x2 : (List S22)) (x3 : Int) (r : (List S22)), spec_Uses.l0 k a0 a1 x2 x3 = some r → J prog (.run 31 [] [l_ 122, b_ 0, c_ 31] [(1, (.sl true a1.length 2 (a1.flatMap (e66 true)))), (2, (.pt 256 0 2)), (5, (.rf 1024 0 x2.length 5 (x2.length * 5))), (6, (I x3))] [(256, [(I a0.f0), (.sl true a0.f1.length 4 (a0.f1.flatMap e95))]), (1024, (x2.flatMap e22))] (.rf 1024 0 r.length 5 (r.length * 5)) [(1024, (r.flatMap e22))])) ∧ (∀ (a0 : S46) (a1 : (List S66)) (x3 : Int) (x4 : (List S22)) (x5 : Int) (r : (List S22)), spec_Uses.l1 k a0 a1 x3 x4 x5 = some r → J prog (.run 31 [] [l_ 7826, b_ 2, b_ 1, c_ 979, l_ 122, b_ 0, c_ 31] [(1, (.sl true a1.length 2 (a1.flatMap (e66 true)))), (2, (.pt 256 0 2)), (5, (.rf 1024 0 x4.length 5 (x4.length * 5))), (6, (I x3)), (7, (I x5))] [(256, [(I a0.f0), (.sl true a0.f1.length 4 (a0.f1.flatMap e95))]), (1024, (x4.flatMap e22))] (.rf 1024 0 r.length 5 (r.length * 5)) [(1024, (r.flatMap e22))]))
 | 0 => ⟨(by intro a0 a1 x2 x3 r h; unfold spec_Uses.l0 at h; cases h), (by intro a0 a1 x3 x4 x5 r h; unfold spec_Uses.l1 at h; cases h)⟩
 | k + 1 => by
  obtain ⟨ih0, ih1⟩ := spec_Uses.lab k
  refine ⟨?_, ?_⟩
  · intro a0 a1 x2 x3 r h
    unfold spec_Uses.l0 at h
    refine .loop' [c_ 976, c_ 977, c_ 489, l_ 122, b_ 0, c_ 31] ?_
    refine .reg' [1, 2, 5, 6, 19] [] ⟨[(1, (.sl true a1.length 2 (a1.flatMap (e66 true)))), (2, (.pt 256 0 2)), (5, (.rf 1024 0 x2.length 5 (x2.length * 5))), (6, (I x3)), (19, (B (decide (x3 < (a1.length : Int)))))], [(256, [(I a0.f0), (.sl true a0.f1.length 4 (a0.f1.flatMap e95))]), (1024, (x2.flatMap e22))], [], []⟩ [c_ 977, c_ 489, l_ 122, b_ 0, c_ 31] aln nocal ?_
    by_cases c2 : x3 < (a1.length : Int)
    · rw [if_pos c2] at h
      refine .cond' (.tmp 19) true [c_ 3912, c_ 3913, b_ 1, c_ 979, l_ 122, b_ 0, c_ 31] (bT (dT c2)) ?_
      refine .reg' [1, 2, 5, 6, 7] [] ⟨[(1, (.sl true a1.length 2 (a1.flatMap (e66 true)))), (2, (.pt 256 0 2)), (5, (.rf 1024 0 x2.length 5 (x2.length * 5))), (6, (I x3)), (7, (I 1))], [(256, [(I a0.f0), (.sl true a0.f1.length 4 (a0.f1.flatMap e95))]), (1024, (x2.flatMap e22))], [], []⟩ [l_ 7826, b_ 2, b_ 1, c_ 979, l_ 122, b_ 0, c_ 31] aln nocal ?_
      exact ih1 a0 a1 x3 x2 1 _ h
    · rw [if_neg c2] at h
      refine .cond' (.tmp 19) false [c_ 62, c_ 63] (bF (dF c2)) ?_
      refine .reg' [4] [] ⟨[(4, (.rf 1024 0 x2.length 5 (x2.length * 5)))], [(256, [(I a0.f0), (.sl true a0.f1.length 4 (a0.f1.flatMap e95))]), (1024, (x2.flatMap e22))], [], []⟩ [c_ 63] aln nocal ?_
      have h := Option.some.inj h
      subst h
      exact .fin' [] [(1024, 1024)] (.rf 1024 0 x2.length 5 (x2.length * 5)) [] aln (shc 1024 (rowF e22_ok _) shn) (.rf (memP_mem (p := (1024, 1024)) rfl))
  · intro a0 a1 x3 x4 x5 r h
    unfold spec_Uses.l1 at h
    refine .loop' [c_ 62608, c_ 62609, c_ 31305, l_ 7826, b_ 2, b_ 1, c_ 979, l_ 122, b_ 0, c_ 31] ?_
    by_cases c3 : 0 ≤ x3
    · rw [if_pos c3] at h
      by_cases c4 : x3 < (a1.length : Int)
      · rw [if_pos c4] at h
        refine .reg' [1, 2, 5, 6, 7, 29] [.no, .no, .no, .no, .no, .v (.sl true (at_ a1 x3).f1.length 3 ((at_ a1 x3).f1.flatMap e89))] ⟨[(1, (.sl true a1.length 2 (a1.flatMap (e66 true)))), (2, (.pt 256 0 2)), (5, (.rf 1024 0 x4.length 5 (x4.length * 5))), (6, (I x3)), (7, (I x5)), (29, (B (decide (x5 < ((at_ a1 x3).f1.length : Int)))))], [(256, [(I a0.f0), (.sl true a0.f1.length 4 (a0.f1.flatMap e95))]), (1024, (x4.flatMap e22))], [(0 : Int) ≤ x3 ∧ x3 < (a1.length : Int), rdC prog 65 (((a1.flatMap (e66 true)).drop (x3.toNat * 2)).drop 1) = (.sl true (at_ a1 x3).f1.length 3 ((at_ a1 x3).f1.flatMap e89)), 1 ≤ (((a1.flatMap (e66 true)).drop (x3.toNat * 2)).drop 1).length], []⟩ [c_ 62609, c_ 31305, l_ 7826, b_ 2, b_ 1, c_ 979, l_ 122, b_ 0, c_ 31] (alc ⟨c3, c4⟩ (alc (ldC (e66_ok true) 1 (by decide) rfl c3 c4) (alc (okIj (e66_ok true) c3 c4 (by decide)) aln))) nocal ?_
        by_cases c5 : x5 < ((at_ a1 x3).f1.length : Int)
        · rw [if_pos c5] at h
          refine .cond' (.tmp 29) true [c_ 250440, c_ 250441, b_ 3, c_ 62611, l_ 7826, b_ 2, b_ 1, c_ 979, l_ 122, b_ 0, c_ 31] (bT (dT c5)) ?_
          by_cases c6 : 0 ≤ (wrap64 (x5 - 1))
          · rw [if_pos c6] at h
            by_cases c7 : (wrap64 (x5 - 1)) < ((at_ a1 x3).f1.length : Int)
            · rw [if_pos c7] at h
              by_cases c8 : 0 ≤ x5
              · rw [if_pos c8] at h
                refine .reg' [1, 2, 5, 6, 7, 8, 9] [.no, .no, .no, .no, .v (.sl true (at_ a1 x3).f1.length 3 ((at_ a1 x3).f1.flatMap e89)), .no, .no, .no, .v (.ag [(I (at_ (at_ a1 x3).f1 (wrap64 (x5 - 1))).f0), (I (at_ (at_ a1 x3).f1 (wrap64 (x5 - 1))).f1), (I (at_ (at_ a1 x3).f1 (wrap64 (x5 - 1))).f2)]), .no, .no, .no, .no, .v (.sl true (at_ a1 x3).f1.length 3 ((at_ a1 x3).f1.flatMap e89)), .no, .no, .v (.ag [(I (at_ (at_ a1 x3).f1 x5).f0), (I (at_ (at_ a1 x3).f1 x5).f1), (I (at_ (at_ a1 x3).f1 x5).f2)])] ⟨[(1, (.sl true a1.length 2 (a1.flatMap (e66 true)))), (2, (.pt 256 0 2)), (5, (.rf 1024 0 x4.length 5 (x4.length * 5))), (6, (I x3)), (7, (I x5)), (8, (.pt 2833 0 3)), (9, (.pt 2834 0 3))], [(256, [(I a0.f0), (.sl true a0.f1.length 4 (a0.f1.flatMap e95))]), (1024, (x4.flatMap e22)), (2833, [(I (at_ (at_ a1 x3).f1 (wrap64 (x5 - 1))).f0), (I (at_ (at_ a1 x3).f1 (wrap64 (x5 - 1))).f1), (I (at_ (at_ a1 x3).f1 (wrap64 (x5 - 1))).f2)]), (2834, [(I (at_ (at_ a1 x3).f1 x5).f0), (I (at_ (at_ a1 x3).f1 x5).f1), (I (at_ (at_ a1 x3).f1 x5).f2)])], [(0 : Int) ≤ x3 ∧ x3 < (a1.length : Int), rdC prog 65 (((a1.flatMap (e66 true)).drop (x3.toNat * 2)).drop 1) = (.sl true (at_ a1 x3).f1.length 3 ((at_ a1 x3).f1.flatMap e89)), 1 ≤ (((a1.flatMap (e66 true)).drop (x3.toNat * 2)).drop 1).length, (0 : Int) ≤ (wrap64 (x5 - 1)) ∧ (wrap64 (x5 - 1)) < ((at_ a1 x3).f1.length : Int), rdC prog 90 (((at_ a1 x3).f1.flatMap e89).drop ((wrap64 (x5 - 1)).toNat * 3)) = (.ag [(I (at_ (at_ a1 x3).f1 (wrap64 (x5 - 1))).f0), (I (at_ (at_ a1 x3).f1 (wrap64 (x5 - 1))).f1), (I (at_ (at_ a1 x3).f1 (wrap64 (x5 - 1))).f2)]), 3 ≤ (((at_ a1 x3).f1.flatMap e89).drop ((wrap64 (x5 - 1)).toNat * 3)).length, (0 : Int) ≤ x3 ∧ x3 < (a1.length : Int), rdC prog 65 (((a1.flatMap (e66 true)).drop (x3.toNat * 2)).drop 1) = (.sl true (at_ a1 x3).f1.length 3 ((at_ a1 x3).f1.flatMap e89)), 1 ≤ (((a1.flatMap (e66 true)).drop (x3.toNat * 2)).drop 1).length, (0 : Int) ≤ x5 ∧ x5 < ((at_ a1 x3).f1.length : Int), rdC prog 90 (((at_ a1 x3).f1.flatMap e89).drop (x5.toNat * 3)) = (.ag [(I (at_ (at_ a1 x3).f1 x5).f0), (I (at_ (at_ a1 x3).f1 x5).f1), (I (at_ (at_ a1 x3).f1 x5).f2)]), 3 ≤ (((at_ a1 x3).f1.flatMap e89).drop (x5.toNat * 3)).length, 3 = 3 ∧ 0 + 3 ≤ 3, 3 = 3 ∧ 0 + 3 ≤ 3], []⟩ [c_ 500882, c_ 500883, b_ 3, c_ 62611, l_ 7826, b_ 2, b_ 1, c_ 979, l_ 122, b_ 0, c_ 31] (alc ⟨c3, c4⟩ (alc (ldC (e66_ok true) 1 (by decide) rfl c3 c4) (alc (okIj (e66_ok true) c3 c4 (by decide)) (alc ⟨c6, c7⟩ (alc (ldA e89_ok rfl rfl c6 c7) (alc (okI e89_ok c6 c7 (by decide)) (alc ⟨c3, c4⟩ (alc (ldC (e66_ok true) 1 (by decide) rfl c3 c4) (alc (okIj (e66_ok true) c3 c4 (by decide)) (alc ⟨c8, c5⟩ (alc (ldA e89_ok rfl rfl c8 c5) (alc (okI e89_ok c8 c5 (by decide)) (alc ⟨rfl, by decide⟩ (alc ⟨rfl, by decide⟩ aln)))))))))))))) nocal ?_
                obtain ⟨x6, hx6, h⟩ := Option.bind_eq_some_iff.mp h
                refine .reg' [1, 2, 5, 6, 7, 8, 10] [.no, .no, .no, .no, .no, .c ⟨64, [(.ag [(I a0.f0), (.sl true a0.f1.length 4 (a0.f1.flatMap e95))]), (I (at_ (at_ a1 x3).f1 (wrap64 (x5 - 1))).f0), (I (at_ (at_ a1 x3).f1 x5).f0)], [], (I x6), [], [], [], [], (I x6), []⟩] ⟨[(1, (.sl true a1.length 2 (a1.flatMap (e66 true)))), (2, (.pt 256 0 2)), (5, (.rf 1024 0 x4.length 5 (x4.length * 5))), (6, (I x3)), (7, (I x5)), (8, (.pt 2833 0 3)), (10, (.pt 3084 0 5))], [(256, [(I a0.f0), (.sl true a0.f1.length 4 (a0.f1.flatMap e95))]), (1024, (x4.flatMap e22)), (2833, [(I (at_ (at_ a1 x3).f1 (wrap64 (x5 - 1))).f0), (I (at_ (at_ a1 x3).f1 (wrap64 (x5 - 1))).f1), (I (at_ (at_ a1 x3).f1 (wrap64 (x5 - 1))).f2)]), (2834, [(I (at_ (at_ a1 x3).f1 x5).f0), (I (at_ (at_ a1 x3).f1 x5).f1), (I (at_ (at_ a1 x3).f1 x5).f2)]), (3084, [(I x6), (I 0), (I (at_ (at_ a1 x3).f1 (wrap64 (x5 - 1))).f2), (I (at_ (at_ a1 x3).f1 x5).f1), (I x3)])], [2 = 2 ∧ 0 + 2 ≤ 2, 3 = 3 ∧ 0 + 1 ≤ 3, 3 = 3 ∧ 0 + 1 ≤ 3, COK (hget [(256, [(I a0.f0), (.sl true a0.f1.length 4 (a0.f1.flatMap e95))]), (1024, (x4.flatMap e22)), (2833, [(I (at_ (at_ a1 x3).f1 (wrap64 (x5 - 1))).f0), (I (at_ (at_ a1 x3).f1 (wrap64 (x5 - 1))).f1), (I (at_ (at_ a1 x3).f1 (wrap64 (x5 - 1))).f2)]), (2834, [(I (at_ (at_ a1 x3).f1 x5).f0), (I (at_ (at_ a1 x3).f1 x5).f1), (I (at_ (at_ a1 x3).f1 x5).f2)])]) [(.ag [(I a0.f0), (.sl true a0.f1.length 4 (a0.f1.flatMap e95))]), (I (at_ (at_ a1 x3).f1 (wrap64 (x5 - 1))).f0), (I (at_ (at_ a1 x3).f1 x5).f0)] ⟨64, [(.ag [(I a0.f0), (.sl true a0.f1.length 4 (a0.f1.flatMap e95))]), (I (at_ (at_ a1 x3).f1 (wrap64 (x5 - 1))).f0), (I (at_ (at_ a1 x3).f1 x5).f0)], [], (I x6), [], [], [], [], (I x6), []⟩, 3 = 3 ∧ 2 + 1 ≤ 3, 3 = 3 ∧ 1 + 1 ≤ 3, 5 = 5 ∧ 0 + 5 ≤ 5], [⟨64, [(.ag [(I a0.f0), (.sl true a0.f1.length 4 (a0.f1.flatMap e95))]), (I (at_ (at_ a1 x3).f1 (wrap64 (x5 - 1))).f0), (I (at_ (at_ a1 x3).f1 x5).f0)], [], (I x6), [], [], [], [], (I x6), []⟩]⟩ [c_ 2003532, c_ 2003533, c_ 1001767, b_ 3, c_ 62611, l_ 7826, b_ 2, b_ 1, c_ 979, l_ 122, b_ 0, c_ 31] (alc ⟨rfl, by decide⟩ (alc ⟨rfl, by decide⟩ (alc ⟨rfl, by decide⟩ (alc (cok0 false (a2c (.z (frz_ag (a2c .s (a2c (frz_sl e95_ok (fun h => h)) a2n)))) (a2c (.z .s) (a2c (.z .s) a2n))) (.z .s) (fun h => absurd h (by decide))) (alc ⟨rfl, by decide⟩ (alc ⟨rfl, by decide⟩ (alc ⟨rfl, by decide⟩ aln))))))) (acal (spec_l09Edge.J k a0 ((at_ (at_ a1 x3).f1 (wrap64 (x5 - 1))).f0) ((at_ (at_ a1 x3).f1 x5).f0) _ hx6) nocal) ?_
                by_cases c9 : 0 ≤ x6
                · rw [if_pos c9] at h
                  by_cases c10 : x6 < (a0.f1.length : Int)
                  · rw [if_pos c10] at h
                    refine .reg' [1, 2, 5, 6, 7, 10, 70] [.no, .no, .no, .no, .no, .no, .v (I (at_ a0.f1 x6).f0)] ⟨[(1, (.sl true a1.length 2 (a1.flatMap (e66 true)))), (2, (.pt 256 0 2)), (5, (.rf 1024 0 x4.length 5 (x4.length * 5))), (6, (I x3)), (7, (I x5)), (10, (.pt 3084 0 5)), (70, (B (!((at_ a0.f1 x6).f0 == (at_ (at_ a1 x3).f1 (wrap64 (x5 - 1))).f0))))], [(256, [(I a0.f0), (.sl true a0.f1.length 4 (a0.f1.flatMap e95))]), (1024, (x4.flatMap e22)), (2833, [(I (at_ (at_ a1 x3).f1 (wrap64 (x5 - 1))).f0), (I (at_ (at_ a1 x3).f1 (wrap64 (x5 - 1))).f1), (I (at_ (at_ a1 x3).f1 (wrap64 (x5 - 1))).f2)]), (2834, [(I (at_ (at_ a1 x3).f1 x5).f0), (I (at_ (at_ a1 x3).f1 x5).f1), (I (at_ (at_ a1 x3).f1 x5).f2)]), (3084, [(I x6), (I 0), (I (at_ (at_ a1 x3).f1 (wrap64 (x5 - 1))).f2), (I (at_ (at_ a1 x3).f1 x5).f1), (I x3)])], [2 = 2 ∧ 1 + 1 ≤ 2, 5 = 5 ∧ 0 + 1 ≤ 5, (0 : Int) ≤ x6 ∧ x6 < (a0.f1.length : Int), rdC prog 3 (((a0.f1.flatMap e95).drop (x6.toNat * 4)).drop 0) = (I (at_ a0.f1 x6).f0), 1 ≤ (((a0.f1.flatMap e95).drop (x6.toNat * 4)).drop 0).length, 3 = 3 ∧ 0 + 1 ≤ 3], []⟩ [c_ 2003533, c_ 1001767, b_ 3, c_ 62611, l_ 7826, b_ 2, b_ 1, c_ 979, l_ 122, b_ 0, c_ 31] (alc ⟨rfl, by decide⟩ (alc ⟨rfl, by decide⟩ (alc ⟨c9, c10⟩ (alc (ldC e95_ok 0 (by decide) rfl c9 c10) (alc (okIj e95_ok c9 c10 (by decide)) (alc ⟨rfl, by decide⟩ aln)))))) nocal ?_
                    by_cases c11 : (at_ a0.f1 x6).f0 = (at_ (at_ a1 x3).f1 (wrap64 (x5 - 1))).f0
                    · rw [if_pos c11] at h
                      refine .cond' (.tmp 70) false [c_ 1001767, b_ 3, c_ 62611, l_ 7826, b_ 2, b_ 1, c_ 979, l_ 122, b_ 0, c_ 31] (bF (nF (qT c11))) ?_
                      by_cases c12 : (x4.length + ([(⟨x6, 0, (at_ (at_ a1 x3).f1 (wrap64 (x5 - 1))).f2, (at_ (at_ a1 x3).f1 x5).f1, x3⟩ : S22)] : List S22).length) * 40 ≤ 70368744177664
                      · rw [if_pos c12] at h
                        refine .reg' [1, 2, 5, 6, 7] [.no, .no, .no, .w (.rf 1024 0 ((x4 ++ ([(⟨x6, 0, (at_ (at_ a1 x3).f1 (wrap64 (x5 - 1))).f2, (at_ (at_ a1 x3).f1 x5).f1, x3⟩ : S22)] : List S22)).length) 5 ((x4 ++ ([(⟨x6, 0, (at_ (at_ a1 x3).f1 (wrap64 (x5 - 1))).f2, (at_ (at_ a1 x3).f1 x5).f1, x3⟩ : S22)] : List S22)).length * 5)) ((x4 ++ ([(⟨x6, 0, (at_ (at_ a1 x3).f1 (wrap64 (x5 - 1))).f2, (at_ (at_ a1 x3).f1 x5).f1, x3⟩ : S22)] : List S22)).flatMap e22)] ⟨[(1, (.sl true a1.length 2 (a1.flatMap (e66 true)))), (2, (.pt 256 0 2)), (5, (.rf 1024 0 ((x4 ++ ([(⟨x6, 0, (at_ (at_ a1 x3).f1 (wrap64 (x5 - 1))).f2, (at_ (at_ a1 x3).f1 x5).f1, x3⟩ : S22)] : List S22)).length) 5 ((x4 ++ ([(⟨x6, 0, (at_ (at_ a1 x3).f1 (wrap64 (x5 - 1))).f2, (at_ (at_ a1 x3).f1 x5).f1, x3⟩ : S22)] : List S22)).length * 5))), (6, (I x3)), (7, (I x5))], [(256, [(I a0.f0), (.sl true a0.f1.length 4 (a0.f1.flatMap e95))]), (1024, ((x4 ++ ([(⟨x6, 0, (at_ (at_ a1 x3).f1 (wrap64 (x5 - 1))).f2, (at_ (at_ a1 x3).f1 x5).f1, x3⟩ : S22)] : List S22)).flatMap e22)), (2833, [(I (at_ (at_ a1 x3).f1 (wrap64 (x5 - 1))).f0), (I (at_ (at_ a1 x3).f1 (wrap64 (x5 - 1))).f1), (I (at_ (at_ a1 x3).f1 (wrap64 (x5 - 1))).f2)]), (2834, [(I (at_ (at_ a1 x3).f1 x5).f0), (I (at_ (at_ a1 x3).f1 x5).f1), (I (at_ (at_ a1 x3).f1 x5).f2)]), (3084, [(I x6), (I 0), (I (at_ (at_ a1 x3).f1 (wrap64 (x5 - 1))).f2), (I (at_ (at_ a1 x3).f1 x5).f1), (I x3)]), (3842, (([(⟨x6, 0, (at_ (at_ a1 x3).f1 (wrap64 (x5 - 1))).f2, (at_ (at_ a1 x3).f1 x5).f1, x3⟩ : S22)] : List S22).flatMap e22))], [5 = 5 ∧ 0 + 5 ≤ 5, V.rf 1024 0 (x4.length + ([(⟨x6, 0, (at_ (at_ a1 x3).f1 (wrap64 (x5 - 1))).f2, (at_ (at_ a1 x3).f1 x5).f1, x3⟩ : S22)] : List S22).length) 5 (x4.length * 5 + ([(⟨x6, 0, (at_ (at_ a1 x3).f1 (wrap64 (x5 - 1))).f2, (at_ (at_ a1 x3).f1 x5).f1, x3⟩ : S22)] : List S22).length * 5) = (.rf 1024 0 ((x4 ++ ([(⟨x6, 0, (at_ (at_ a1 x3).f1 (wrap64 (x5 - 1))).f2, (at_ (at_ a1 x3).f1 x5).f1, x3⟩ : S22)] : List S22)).length) 5 ((x4 ++ ([(⟨x6, 0, (at_ (at_ a1 x3).f1 (wrap64 (x5 - 1))).f2, (at_ (at_ a1 x3).f1 x5).f1, x3⟩ : S22)] : List S22)).length * 5)), x4.flatMap e22 ++ (((([(⟨x6, 0, (at_ (at_ a1 x3).f1 (wrap64 (x5 - 1))).f2, (at_ (at_ a1 x3).f1 x5).f1, x3⟩ : S22)] : List S22).flatMap e22).drop 0).take (([(⟨x6, 0, (at_ (at_ a1 x3).f1 (wrap64 (x5 - 1))).f2, (at_ (at_ a1 x3).f1 x5).f1, x3⟩ : S22)] : List S22).length * 5)) = ((x4 ++ ([(⟨x6, 0, (at_ (at_ a1 x3).f1 (wrap64 (x5 - 1))).f2, (at_ (at_ a1 x3).f1 x5).f1, x3⟩ : S22)] : List S22)).flatMap e22), (([(⟨x6, 0, (at_ (at_ a1 x3).f1 (wrap64 (x5 - 1))).f2, (at_ (at_ a1 x3).f1 x5).f1, x3⟩ : S22)] : List S22).length * 5 = (([(⟨x6, 0, (at_ (at_ a1 x3).f1 (wrap64 (x5 - 1))).f2, (at_ (at_ a1 x3).f1 x5).f1, x3⟩ : S22)] : List S22).flatMap e22).length ∧ 0 + ([(⟨x6, 0, (at_ (at_ a1 x3).f1 (wrap64 (x5 - 1))).f2, (at_ (at_ a1 x3).f1 x5).f1, x3⟩ : S22)] : List S22).length * 5 ≤ (([(⟨x6, 0, (at_ (at_ a1 x3).f1 (wrap64 (x5 - 1))).f2, (at_ (at_ a1 x3).f1 x5).f1, x3⟩ : S22)] : List S22).flatMap e22).length) ∧ x4.length * 5 = (x4.flatMap e22).length ∧ x4.length * 5 = (x4.flatMap e22).length ∧ (x4.length + ([(⟨x6, 0, (at_ (at_ a1 x3).f1 (wrap64 (x5 - 1))).f2, (at_ (at_ a1 x3).f1 x5).f1, x3⟩ : S22)] : List S22).length) * 40 ≤ 70368744177664], []⟩ [c_ 62611, l_ 7826, b_ 2, b_ 1, c_ 979, l_ 122, b_ 0, c_ 31] (alc ⟨rfl, by decide⟩ (alc (apV rfl) (alc (apR e22_ok rfl) (alc (apO e22_ok rfl c12 rfl) aln)))) nocal ?_
                        refine .reg' [1, 2, 5, 6, 7] [] ⟨[(1, (.sl true a1.length 2 (a1.flatMap (e66 true)))), (2, (.pt 256 0 2)), (5, (.rf 1024 0 ((x4 ++ ([(⟨x6, 0, (at_ (at_ a1 x3).f1 (wrap64 (x5 - 1))).f2, (at_ (at_ a1 x3).f1 x5).f1, x3⟩ : S22)] : List S22)).length) 5 ((x4 ++ ([(⟨x6, 0, (at_ (at_ a1 x3).f1 (wrap64 (x5 - 1))).f2, (at_ (at_ a1 x3).f1 x5).f1, x3⟩ : S22)] : List S22)).length * 5))), (6, (I x3)), (7, (I (wrap64 (x5 + 1))))], [(256, [(I a0.f0), (.sl true a0.f1.length 4 (a0.f1.flatMap e95))]), (1024, ((x4 ++ ([(⟨x6, 0, (at_ (at_ a1 x3).f1 (wrap64 (x5 - 1))).f2, (at_ (at_ a1 x3).f1 x5).f1, x3⟩ : S22)] : List S22)).flatMap e22)), (2833, [(I (at_ (at_ a1 x3).f1 (wrap64 (x5 - 1))).f0), (I (at_ (at_ a1 x3).f1 (wrap64 (x5 - 1))).f1), (I (at_ (at_ a1 x3).f1 (wrap64 (x5 - 1))).f2)]), (2834, [(I (at_ (at_ a1 x3).f1 x5).f0), (I (at_ (at_ a1 x3).f1 x5).f1), (I (at_ (at_ a1 x3).f1 x5).f2)]), (3084, [(I x6), (I 0), (I (at_ (at_ a1 x3).f1 (wrap64 (x5 - 1))).f2), (I (at_ (at_ a1 x3).f1 x5).f1), (I x3)]), (3842, (([(⟨x6, 0, (at_ (at_ a1 x3).f1 (wrap64 (x5 - 1))).f2, (at_ (at_ a1 x3).f1 x5).f1, x3⟩ : S22)] : List S22).flatMap e22))], [], []⟩ [l_ 7826, b_ 2, b_ 1, c_ 979, l_ 122, b_ 0, c_ 31] aln nocal ?_
                        refine .wk' [] [(256, 256), (1024, 1024)] [(1, (.sl true a1.length 2 (a1.flatMap (e66 true)))), (2, (.pt 256 0 2)), (5, (.rf 1024 0 ((x4 ++ ([(⟨x6, 0, (at_ (at_ a1 x3).f1 (wrap64 (x5 - 1))).f2, (at_ (at_ a1 x3).f1 x5).f1, x3⟩ : S22)] : List S22)).length) 5 ((x4 ++ ([(⟨x6, 0, (at_ (at_ a1 x3).f1 (wrap64 (x5 - 1))).f2, (at_ (at_ a1 x3).f1 x5).f1, x3⟩ : S22)] : List S22)).length * 5))), (6, (I x3)), (7, (I (wrap64 (x5 + 1))))] [(256, [(I a0.f0), (.sl true a0.f1.length 4 (a0.f1.flatMap e95))]), (1024, ((x4 ++ ([(⟨x6, 0, (at_ (at_ a1 x3).f1 (wrap64 (x5 - 1))).f2, (at_ (at_ a1 x3).f1 x5).f1, x3⟩ : S22)] : List S22)).flatMap e22))] (shc 256 (a2c (.z .s) (a2c (.z (frz_sl e95_ok (fun h => h))) a2n)) (shc 1024 (rowF e22_ok _) shn)) (enc_ (.z (frz_sl (e66_ok true) (fun h => h))) (enc_ (.pt (memP_mem (p := (256, 256)) rfl)) (enc_ (.rf (memP_mem (p := (1024, 1024)) rfl)) (enc_ (.z .s) (enc_ (.z .s) enn))))) ?_
                        exact ih1 a0 a1 x3 (x4 ++ ([(⟨x6, 0, (at_ (at_ a1 x3).f1 (wrap64 (x5 - 1))).f2, (at_ (at_ a1 x3).f1 x5).f1, x3⟩ : S22)] : List S22)) (wrap64 (x5 + 1)) _ h
                      · rw [if_neg c12] at h
                        cases h
                    · rw [if_neg c11] at h
                      refine .cond' (.tmp 70) true [c_ 4007066, c_ 1001767, b_ 3, c_ 62611, l_ 7826, b_ 2, b_ 1, c_ 979, l_ 122, b_ 0, c_ 31] (bT (nT (qF c11))) ?_
                      refine .reg' [1, 2, 5, 6, 7, 10] [] ⟨[(1, (.sl true a1.length 2 (a1.flatMap (e66 true)))), (2, (.pt 256 0 2)), (5, (.rf 1024 0 x4.length 5 (x4.length * 5))), (6, (I x3)), (7, (I x5)), (10, (.pt 3084 0 5))], [(256, [(I a0.f0), (.sl true a0.f1.length 4 (a0.f1.flatMap e95))]), (1024, (x4.flatMap e22)), (2833, [(I (at_ (at_ a1 x3).f1 (wrap64 (x5 - 1))).f0), (I (at_ (at_ a1 x3).f1 (wrap64 (x5 - 1))).f1), (I (at_ (at_ a1 x3).f1 (wrap64 (x5 - 1))).f2)]), (2834, [(I (at_ (at_ a1 x3).f1 x5).f0), (I (at_ (at_ a1 x3).f1 x5).f1), (I (at_ (at_ a1 x3).f1 x5).f2)]), (3084, [(I x6), (I 1), (I (at_ (at_ a1 x3).f1 (wrap64 (x5 - 1))).f2), (I (at_ (at_ a1 x3).f1 x5).f1), (I x3)])], [5 = 5 ∧ 1 + 1 ≤ 5], []⟩ [c_ 1001767, b_ 3, c_ 62611, l_ 7826, b_ 2, b_ 1, c_ 979, l_ 122, b_ 0, c_ 31] (alc ⟨rfl, by decide⟩ aln) nocal ?_
                      by_cases c13 : (x4.length + ([(⟨x6, 1, (at_ (at_ a1 x3).f1 (wrap64 (x5 - 1))).f2, (at_ (at_ a1 x3).f1 x5).f1, x3⟩ : S22)] : List S22).length) * 40 ≤ 70368744177664
                      · rw [if_pos c13] at h
                        refine .reg' [1, 2, 5, 6, 7] [.no, .no, .no, .w (.rf 1024 0 ((x4 ++ ([(⟨x6, 1, (at_ (at_ a1 x3).f1 (wrap64 (x5 - 1))).f2, (at_ (at_ a1 x3).f1 x5).f1, x3⟩ : S22)] : List S22)).length) 5 ((x4 ++ ([(⟨x6, 1, (at_ (at_ a1 x3).f1 (wrap64 (x5 - 1))).f2, (at_ (at_ a1 x3).f1 x5).f1, x3⟩ : S22)] : List S22)).length * 5)) ((x4 ++ ([(⟨x6, 1, (at_ (at_ a1 x3).f1 (wrap64 (x5 - 1))).f2, (at_ (at_ a1 x3).f1 x5).f1, x3⟩ : S22)] : List S22)).flatMap e22)] ⟨[(1, (.sl true a1.length 2 (a1.flatMap (e66 true)))), (2, (.pt 256 0 2)), (5, (.rf 1024 0 ((x4 ++ ([(⟨x6, 1, (at_ (at_ a1 x3).f1 (wrap64 (x5 - 1))).f2, (at_ (at_ a1 x3).f1 x5).f1, x3⟩ : S22)] : List S22)).length) 5 ((x4 ++ ([(⟨x6, 1, (at_ (at_ a1 x3).f1 (wrap64 (x5 - 1))).f2, (at_ (at_ a1 x3).f1 x5).f1, x3⟩ : S22)] : List S22)).length * 5))), (6, (I x3)), (7, (I x5))], [(256, [(I a0.f0), (.sl true a0.f1.length 4 (a0.f1.flatMap e95))]), (1024, ((x4 ++ ([(⟨x6, 1, (at_ (at_ a1 x3).f1 (wrap64 (x5 - 1))).f2, (at_ (at_ a1 x3).f1 x5).f1, x3⟩ : S22)] : List S22)).flatMap e22)), (2833, [(I (at_ (at_ a1 x3).f1 (wrap64 (x5 - 1))).f0), (I (at_ (at_ a1 x3).f1 (wrap64 (x5 - 1))).f1), (I (at_ (at_ a1 x3).f1 (wrap64 (x5 - 1))).f2)]), (2834, [(I (at_ (at_ a1 x3).f1 x5).f0), (I (at_ (at_ a1 x3).f1 x5).f1), (I (at_ (at_ a1 x3).f1 x5).f2)]), (3084, [(I x6), (I 1), (I (at_ (at_ a1 x3).f1 (wrap64 (x5 - 1))).f2), (I (at_ (at_ a1 x3).f1 x5).f1), (I x3)]), (3842, (([(⟨x6, 1, (at_ (at_ a1 x3).f1 (wrap64 (x5 - 1))).f2, (at_ (at_ a1 x3).f1 x5).f1, x3⟩ : S22)] : List S22).flatMap e22))], [5 = 5 ∧ 0 + 5 ≤ 5, V.rf 1024 0 (x4.length + ([(⟨x6, 1, (at_ (at_ a1 x3).f1 (wrap64 (x5 - 1))).f2, (at_ (at_ a1 x3).f1 x5).f1, x3⟩ : S22)] : List S22).length) 5 (x4.length * 5 + ([(⟨x6, 1, (at_ (at_ a1 x3).f1 (wrap64 (x5 - 1))).f2, (at_ (at_ a1 x3).f1 x5).f1, x3⟩ : S22)] : List S22).length * 5) = (.rf 1024 0 ((x4 ++ ([(⟨x6, 1, (at_ (at_ a1 x3).f1 (wrap64 (x5 - 1))).f2, (at_ (at_ a1 x3).f1 x5).f1, x3⟩ : S22)] : List S22)).length) 5 ((x4 ++ ([(⟨x6, 1, (at_ (at_ a1 x3).f1 (wrap64 (x5 - 1))).f2, (at_ (at_ a1 x3).f1 x5).f1, x3⟩ : S22)] : List S22)).length * 5)), x4.flatMap e22 ++ (((([(⟨x6, 1, (at_ (at_ a1 x3).f1 (wrap64 (x5 - 1))).f2, (at_ (at_ a1 x3).f1 x5).f1, x3⟩ : S22)] : List S22).flatMap e22).drop 0).take (([(⟨x6, 1, (at_ (at_ a1 x3).f1 (wrap64 (x5 - 1))).f2, (at_ (at_ a1 x3).f1 x5).f1, x3⟩ : S22)] : List S22).length * 5)) = ((x4 ++ ([(⟨x6, 1, (at_ (at_ a1 x3).f1 (wrap64 (x5 - 1))).f2, (at_ (at_ a1 x3).f1 x5).f1, x3⟩ : S22)] : List S22)).flatMap e22), (([(⟨x6, 1, (at_ (at_ a1 x3).f1 (wrap64 (x5 - 1))).f2, (at_ (at_ a1 x3).f1 x5).f1, x3⟩ : S22)] : List S22).length * 5 = (([(⟨x6, 1, (at_ (at_ a1 x3).f1 (wrap64 (x5 - 1))).f2, (at_ (at_ a1 x3).f1 x5).f1, x3⟩ : S22)] : List S22).flatMap e22).length ∧ 0 + ([(⟨x6, 1, (at_ (at_ a1 x3).f1 (wrap64 (x5 - 1))).f2, (at_ (at_ a1 x3).f1 x5).f1, x3⟩ : S22)] : List S22).length * 5 ≤ (([(⟨x6, 1, (at_ (at_ a1 x3).f1 (wrap64 (x5 - 1))).f2, (at_ (at_ a1 x3).f1 x5).f1, x3⟩ : S22)] : List S22).flatMap e22).length) ∧ x4.length * 5 = (x4.flatMap e22).length ∧ x4.length * 5 = (x4.flatMap e22).length ∧ (x4.length + ([(⟨x6, 1, (at_ (at_ a1 x3).f1 (wrap64 (x5 - 1))).f2, (at_ (at_ a1 x3).f1 x5).f1, x3⟩ : S22)] : List S22).length) * 40 ≤ 70368744177664], []⟩ [c_ 62611, l_ 7826, b_ 2, b_ 1, c_ 979, l_ 122, b_ 0, c_ 31] (alc ⟨rfl, by decide⟩ (alc (apV rfl) (alc (apR e22_ok rfl) (alc (apO e22_ok rfl c13 rfl) aln)))) nocal ?_
                        refine .reg' [1, 2, 5, 6, 7] [] ⟨[(1, (.sl true a1.length 2 (a1.flatMap (e66 true)))), (2, (.pt 256 0 2)), (5, (.rf 1024 0 ((x4 ++ ([(⟨x6, 1, (at_ (at_ a1 x3).f1 (wrap64 (x5 - 1))).f2, (at_ (at_ a1 x3).f1 x5).f1, x3⟩ : S22)] : List S22)).length) 5 ((x4 ++ ([(⟨x6, 1, (at_ (at_ a1 x3).f1 (wrap64 (x5 - 1))).f2, (at_ (at_ a1 x3).f1 x5).f1, x3⟩ : S22)] : List S22)).length * 5))), (6, (I x3)), (7, (I (wrap64 (x5 + 1))))], [(256, [(I a0.f0), (.sl true a0.f1.length 4 (a0.f1.flatMap e95))]), (1024, ((x4 ++ ([(⟨x6, 1, (at_ (at_ a1 x3).f1 (wrap64 (x5 - 1))).f2, (at_ (at_ a1 x3).f1 x5).f1, x3⟩ : S22)] : List S22)).flatMap e22)), (2833, [(I (at_ (at_ a1 x3).f1 (wrap64 (x5 - 1))).f0), (I (at_ (at_ a1 x3).f1 (wrap64 (x5 - 1))).f1), (I (at_ (at_ a1 x3).f1 (wrap64 (x5 - 1))).f2)]), (2834, [(I (at_ (at_ a1 x3).f1 x5).f0), (I (at_ (at_ a1 x3).f1 x5).f1), (I (at_ (at_ a1 x3).f1 x5).f2)]), (3084, [(I x6), (I 1), (I (at_ (at_ a1 x3).f1 (wrap64 (x5 - 1))).f2), (I (at_ (at_ a1 x3).f1 x5).f1), (I x3)]), (3842, (([(⟨x6, 1, (at_ (at_ a1 x3).f1 (wrap64 (x5 - 1))).f2, (at_ (at_ a1 x3).f1 x5).f1, x3⟩ : S22)] : List S22).flatMap e22))], [], []⟩ [l_ 7826, b_ 2, b_ 1, c_ 979, l_ 122, b_ 0, c_ 31] aln nocal ?_
                        refine .wk' [] [(256, 256), (1024, 1024)] [(1, (.sl true a1.length 2 (a1.flatMap (e66 true)))), (2, (.pt 256 0 2)), (5, (.rf 1024 0 ((x4 ++ ([(⟨x6, 1, (at_ (at_ a1 x3).f1 (wrap64 (x5 - 1))).f2, (at_ (at_ a1 x3).f1 x5).f1, x3⟩ : S22)] : List S22)).length) 5 ((x4 ++ ([(⟨x6, 1, (at_ (at_ a1 x3).f1 (wrap64 (x5 - 1))).f2, (at_ (at_ a1 x3).f1 x5).f1, x3⟩ : S22)] : List S22)).length * 5))), (6, (I x3)), (7, (I (wrap64 (x5 + 1))))] [(256, [(I a0.f0), (.sl true a0.f1.length 4 (a0.f1.flatMap e95))]), (1024, ((x4 ++ ([(⟨x6, 1, (at_ (at_ a1 x3).f1 (wrap64 (x5 - 1))).f2, (at_ (at_ a1 x3).f1 x5).f1, x3⟩ : S22)] : List S22)).flatMap e22))] (shc 256 (a2c (.z .s) (a2c (.z (frz_sl e95_ok (fun h => h))) a2n)) (shc 1024 (rowF e22_ok _) shn)) (enc_ (.z (frz_sl (e66_ok true) (fun h => h))) (enc_ (.pt (memP_mem (p := (256, 256)) rfl)) (enc_ (.rf (memP_mem (p := (1024, 1024)) rfl)) (enc_ (.z .s) (enc_ (.z .s) enn))))) ?_
                        exact ih1 a0 a1 x3 (x4 ++ ([(⟨x6, 1, (at_ (at_ a1 x3).f1 (wrap64 (x5 - 1))).f2, (at_ (at_ a1 x3).f1 x5).f1, x3⟩ : S22)] : List S22)) (wrap64 (x5 + 1)) _ h
                      · rw [if_neg c13] at h
                        cases h
                  · rw [if_neg c10] at h
                    cases h
                · rw [if_neg c9] at h
                  cases h
              · rw [if_neg c8] at h
                cases h
            · rw [if_neg c7] at h
              cases h
          · rw [if_neg c6] at h
            cases h
        · rw [if_neg c5] at h
          refine .cond' (.tmp 29) false [c_ 979, l_ 122, b_ 0, c_ 31] (bF (dF c5)) ?_
          refine .reg' [1, 2, 5, 6] [] ⟨[(1, (.sl true a1.length 2 (a1.flatMap (e66 true)))), (2, (.pt 256 0 2)), (5, (.rf 1024 0 x4.length 5 (x4.length * 5))), (6, (I (wrap64 (x3 + 1))))], [(256, [(I a0.f0), (.sl true a0.f1.length 4 (a0.f1.flatMap e95))]), (1024, (x4.flatMap e22))], [], []⟩ [l_ 122, b_ 0, c_ 31] aln nocal ?_
          exact ih0 a0 a1 x4 (wrap64 (x3 + 1)) _ h
      · rw [if_neg c4] at h
        cases h
    · rw [if_neg c3] at h
      cases h
end Go.Proofs.Ytebgaiokpncacaa.Fns
