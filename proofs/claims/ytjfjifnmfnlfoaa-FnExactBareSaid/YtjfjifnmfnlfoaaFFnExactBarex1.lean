/- The functions that the law FnExactBare reaches, by the engine. Printed by a program of this seat. -/
import Derived.Test.YtjfjifnmfnlfoaaE5
import Derived.Test.YtjfjifnmfnlfoaaProg
import Derived.Test.YtjfjifnmfnlfoaaFFnExactBarex0
namespace Go.Proofs.Ytjfjifnmfnlfoaa.Fns
open Go.Proofs.Try Go.Proofs.Ytjfjifnmfnlfoaa.Eng Go.RowKit
set_option maxRecDepth 100000
set_option linter.unusedVariables false
set_option linter.unusedSimpArgs false
theorem spec_l06Route.lab : ∀ k, (∀ (a0 : S29) (a1 : S83) (x1 : Int) (r : Bool), spec_l06Route.l0 k a0 a1 x1 = some r → J prog (.run 55 [] [l_ 26, b_ 0, c_ 7] [(2, (.pt 256 0 3)), (3, (.pt 257 0 2)), (5, (I x1))] [(256, [(.sl true a0.f0.length 1 (a0.f0.flatMap encI)), (I a0.f1), (.sl true a0.f2.length 2 (a0.f2.flatMap (e83 true)))]), (257, [(.sl true a1.f0.length 2 (a1.f0.flatMap e93)), (.sl true a1.f1.length 1 (a1.f1.flatMap encI))])] (B r) [])) ∧ (∀ (a0 : S29) (a1 : S83) (x4 : Int) (r : Bool), spec_l06Route.l1 k a0 a1 x4 = some r → J prog (.run 55 [] [l_ 58, b_ 2, c_ 15] [(2, (.pt 256 0 3)), (3, (.pt 257 0 2)), (7, (I x4))] [(256, [(.sl true a0.f0.length 1 (a0.f0.flatMap encI)), (I a0.f1), (.sl true a0.f2.length 2 (a0.f2.flatMap (e83 true)))]), (257, [(.sl true a1.f0.length 2 (a1.f0.flatMap e93)), (.sl true a1.f1.length 1 (a1.f1.flatMap encI))])] (B r) []))
 | 0 => ⟨(by intro a0 a1 x1 r h; unfold spec_l06Route.l0 at h; cases h), (by intro a0 a1 x4 r h; unfold spec_l06Route.l1 at h; cases h)⟩
 | k + 1 => by
  obtain ⟨ih0, ih1⟩ := spec_l06Route.lab k
  refine ⟨?_, ?_⟩
  · intro a0 a1 x1 r h
    unfold spec_l06Route.l0 at h
    refine .loop' [c_ 208, c_ 209, c_ 105, l_ 26, b_ 0, c_ 7] ?_
    refine .reg' [2, 3, 5, 12] [] ⟨[(2, (.pt 256 0 3)), (3, (.pt 257 0 2)), (5, (I x1)), (12, (B (decide (x1 < (a1.f0.length : Int)))))], [(256, [(.sl true a0.f0.length 1 (a0.f0.flatMap encI)), (I a0.f1), (.sl true a0.f2.length 2 (a0.f2.flatMap (e83 true)))]), (257, [(.sl true a1.f0.length 2 (a1.f0.flatMap e93)), (.sl true a1.f1.length 1 (a1.f1.flatMap encI))])], [2 = 2 ∧ 0 + 1 ≤ 2], []⟩ [c_ 209, c_ 105, l_ 26, b_ 0, c_ 7] (alc ⟨rfl, by decide⟩ aln) nocal ?_
    by_cases c1 : x1 < (a1.f0.length : Int)
    · rw [if_pos c1] at h
      refine .cond' (.tmp 12) true [c_ 840, c_ 841, b_ 1, c_ 211, l_ 26, b_ 0, c_ 7] (bT (dT c1)) ?_
      by_cases c2 : 0 ≤ x1
      · rw [if_pos c2] at h
        refine .reg' [2, 3, 5, 6] [.no, .no, .no, .no, .v (.ag [(I (at_ a1.f0 x1).f0), (I (at_ a1.f0 x1).f1)])] ⟨[(2, (.pt 256 0 3)), (3, (.pt 257 0 2)), (5, (I x1)), (6, (.pt 1285 0 2))], [(256, [(.sl true a0.f0.length 1 (a0.f0.flatMap encI)), (I a0.f1), (.sl true a0.f2.length 2 (a0.f2.flatMap (e83 true)))]), (257, [(.sl true a1.f0.length 2 (a1.f0.flatMap e93)), (.sl true a1.f1.length 1 (a1.f1.flatMap encI))]), (1285, [(I (at_ a1.f0 x1).f0), (I (at_ a1.f0 x1).f1)])], [2 = 2 ∧ 0 + 1 ≤ 2, (0 : Int) ≤ x1 ∧ x1 < (a1.f0.length : Int), rdC prog 94 ((a1.f0.flatMap e93).drop (x1.toNat * 2)) = (.ag [(I (at_ a1.f0 x1).f0), (I (at_ a1.f0 x1).f1)]), 2 ≤ ((a1.f0.flatMap e93).drop (x1.toNat * 2)).length, 2 = 2 ∧ 0 + 2 ≤ 2], []⟩ [c_ 1682, c_ 1683, b_ 1, c_ 211, l_ 26, b_ 0, c_ 7] (alc ⟨rfl, by decide⟩ (alc ⟨c2, c1⟩ (alc (ldA e93_ok rfl rfl c2 c1) (alc (okI e93_ok c2 c1 (by decide)) (alc ⟨rfl, by decide⟩ aln))))) nocal ?_
        obtain ⟨x2, hx2, h⟩ := Option.bind_eq_some_iff.mp h
        by_cases c3 : x2 = true
        · rw [if_pos c3] at h
          obtain ⟨x3, hx3, h⟩ := Option.bind_eq_some_iff.mp h
          by_cases c4 : x3 = true
          · rw [if_pos c4] at h
            by_cases c5 : x1 > 0
            · rw [if_pos c5] at h
              by_cases c6 : 0 ≤ (wrap64 (x1 - 1))
              · rw [if_pos c6] at h
                by_cases c7 : (wrap64 (x1 - 1)) < (a1.f0.length : Int)
                · rw [if_pos c7] at h
                  refine .reg' [2, 3, 5, 49] [.no, .no, .no, .no, .no, .no, .c ⟨54, [(I (at_ a1.f0 x1).f0), (I 0), (I (wrap64 ((a0.f0.length : Int) - 1)))], [], (B x2), [], [], [], [], (B x2), []⟩, .no, .v (B false), .no, .no, .c ⟨54, [(I (at_ a1.f0 x1).f1), (I 0), (I 1)], [], (B x3), [], [], [], [], (B x3), []⟩, .no, .no, .v (B false), .no, .no, .v (B true), .no, .no, .no, .no, .no, .no, .v (I (at_ a1.f0 (wrap64 (x1 - 1))).f0)] ⟨[(2, (.pt 256 0 3)), (3, (.pt 257 0 2)), (5, (I x1)), (49, (B (decide ((at_ a1.f0 (wrap64 (x1 - 1))).f0 ≥ (at_ a1.f0 x1).f0))))], [(256, [(.sl true a0.f0.length 1 (a0.f0.flatMap encI)), (I a0.f1), (.sl true a0.f2.length 2 (a0.f2.flatMap (e83 true)))]), (257, [(.sl true a1.f0.length 2 (a1.f0.flatMap e93)), (.sl true a1.f1.length 1 (a1.f1.flatMap encI))]), (1285, [(I (at_ a1.f0 x1).f0), (I (at_ a1.f0 x1).f1)])], [2 = 2 ∧ 0 + 1 ≤ 2, 3 = 3 ∧ 0 + 1 ≤ 3, COK (hget [(256, [(.sl true a0.f0.length 1 (a0.f0.flatMap encI)), (I a0.f1), (.sl true a0.f2.length 2 (a0.f2.flatMap (e83 true)))]), (257, [(.sl true a1.f0.length 2 (a1.f0.flatMap e93)), (.sl true a1.f1.length 1 (a1.f1.flatMap encI))]), (1285, [(I (at_ a1.f0 x1).f0), (I (at_ a1.f0 x1).f1)])]) [(I (at_ a1.f0 x1).f0), (I 0), (I (wrap64 ((a0.f0.length : Int) - 1)))] ⟨54, [(I (at_ a1.f0 x1).f0), (I 0), (I (wrap64 ((a0.f0.length : Int) - 1)))], [], (B x2), [], [], [], [], (B x2), []⟩, (B (!x2) : V) = B false, 2 = 2 ∧ 1 + 1 ≤ 2, COK (hget [(256, [(.sl true a0.f0.length 1 (a0.f0.flatMap encI)), (I a0.f1), (.sl true a0.f2.length 2 (a0.f2.flatMap (e83 true)))]), (257, [(.sl true a1.f0.length 2 (a1.f0.flatMap e93)), (.sl true a1.f1.length 1 (a1.f1.flatMap encI))]), (1285, [(I (at_ a1.f0 x1).f0), (I (at_ a1.f0 x1).f1)])]) [(I (at_ a1.f0 x1).f1), (I 0), (I 1)] ⟨54, [(I (at_ a1.f0 x1).f1), (I 0), (I 1)], [], (B x3), [], [], [], [], (B x3), []⟩, (B (!x3) : V) = B false, (B (decide (x1 > 0)) : V) = B true, 2 = 2 ∧ 0 + 1 ≤ 2, (0 : Int) ≤ (wrap64 (x1 - 1)) ∧ (wrap64 (x1 - 1)) < (a1.f0.length : Int), rdC prog 3 (((a1.f0.flatMap e93).drop ((wrap64 (x1 - 1)).toNat * 2)).drop 0) = (I (at_ a1.f0 (wrap64 (x1 - 1))).f0), 1 ≤ (((a1.f0.flatMap e93).drop ((wrap64 (x1 - 1)).toNat * 2)).drop 0).length, 2 = 2 ∧ 0 + 1 ≤ 2], [⟨54, [(I (at_ a1.f0 x1).f0), (I 0), (I (wrap64 ((a0.f0.length : Int) - 1)))], [], (B x2), [], [], [], [], (B x2), []⟩, ⟨54, [(I (at_ a1.f0 x1).f1), (I 0), (I 1)], [], (B x3), [], [], [], [], (B x3), []⟩]⟩ [c_ 1683, b_ 1, c_ 211, l_ 26, b_ 0, c_ 7] (alc ⟨rfl, by decide⟩ (alc ⟨rfl, by decide⟩ (alc (cok0 false (a2c (.z .s) (a2c (.z .s) (a2c (.z .s) a2n))) (.z .s) (fun h => absurd h (by decide))) (alc (bF (nF c3)) (alc ⟨rfl, by decide⟩ (alc (cok0 false (a2c (.z .s) (a2c (.z .s) (a2c (.z .s) a2n))) (.z .s) (fun h => absurd h (by decide))) (alc (bF (nF c4)) (alc (bT (dT c5)) (alc ⟨rfl, by decide⟩ (alc ⟨c6, c7⟩ (alc (ldC e93_ok 0 (by decide) rfl c6 c7) (alc (okIj e93_ok c6 c7 (by decide)) (alc ⟨rfl, by decide⟩ aln))))))))))))) (acal (spec_l01In.J ((at_ a1.f0 x1).f0) 0 (wrap64 ((a0.f0.length : Int) - 1)) _ hx2) (acal (spec_l01In.J ((at_ a1.f0 x1).f1) 0 1 _ hx3) nocal)) ?_
                  by_cases c8 : (at_ a1.f0 (wrap64 (x1 - 1))).f0 ≥ (at_ a1.f0 x1).f0
                  · rw [if_pos c8] at h
                    refine .cond' (.tmp 49) true [c_ 6732, c_ 6733, b_ 1, c_ 211, l_ 26, b_ 0, c_ 7] (bT (dT c8)) ?_
                    refine .reg' [4] [] ⟨[(4, (B false))], [(256, [(.sl true a0.f0.length 1 (a0.f0.flatMap encI)), (I a0.f1), (.sl true a0.f2.length 2 (a0.f2.flatMap (e83 true)))]), (257, [(.sl true a1.f0.length 2 (a1.f0.flatMap e93)), (.sl true a1.f1.length 1 (a1.f1.flatMap encI))]), (1285, [(I (at_ a1.f0 x1).f0), (I (at_ a1.f0 x1).f1)])], [], []⟩ [c_ 6733, b_ 1, c_ 211, l_ 26, b_ 0, c_ 7] aln nocal ?_
                    have h := Option.some.inj h
                    subst h
                    exact .fin0 [] (B false) [] aln (.z .s)
                  · rw [if_neg c8] at h
                    refine .cond' (.tmp 49) false [c_ 211, l_ 26, b_ 0, c_ 7] (bF (dF c8)) ?_
                    refine .reg' [2, 3, 5] [] ⟨[(2, (.pt 256 0 3)), (3, (.pt 257 0 2)), (5, (I (wrap64 (x1 + 1))))], [(256, [(.sl true a0.f0.length 1 (a0.f0.flatMap encI)), (I a0.f1), (.sl true a0.f2.length 2 (a0.f2.flatMap (e83 true)))]), (257, [(.sl true a1.f0.length 2 (a1.f0.flatMap e93)), (.sl true a1.f1.length 1 (a1.f1.flatMap encI))]), (1285, [(I (at_ a1.f0 x1).f0), (I (at_ a1.f0 x1).f1)])], [], []⟩ [l_ 26, b_ 0, c_ 7] aln nocal ?_
                    refine .wk' [] [(256, 256), (257, 257)] [(2, (.pt 256 0 3)), (3, (.pt 257 0 2)), (5, (I (wrap64 (x1 + 1))))] [(256, [(.sl true a0.f0.length 1 (a0.f0.flatMap encI)), (I a0.f1), (.sl true a0.f2.length 2 (a0.f2.flatMap (e83 true)))]), (257, [(.sl true a1.f0.length 2 (a1.f0.flatMap e93)), (.sl true a1.f1.length 1 (a1.f1.flatMap encI))])] (shc 256 (a2c (.z (frz_sl encI_ok (fun h => h))) (a2c (.z .s) (a2c (.z (frz_sl (e83_ok true) (fun h => h))) a2n))) (shc 257 (a2c (.z (frz_sl e93_ok (fun h => h))) (a2c (.z (frz_sl encI_ok (fun h => h))) a2n)) shn)) (enc_ (.pt (memP_mem (p := (256, 256)) rfl)) (enc_ (.pt (memP_mem (p := (257, 257)) rfl)) (enc_ (.z .s) enn))) ?_
                    exact ih0 a0 a1 (wrap64 (x1 + 1)) _ h
                · rw [if_neg c7] at h
                  cases h
              · rw [if_neg c6] at h
                cases h
            · rw [if_neg c5] at h
              refine .reg' [2, 3, 5, 49] [.no, .no, .no, .no, .no, .no, .c ⟨54, [(I (at_ a1.f0 x1).f0), (I 0), (I (wrap64 ((a0.f0.length : Int) - 1)))], [], (B x2), [], [], [], [], (B x2), []⟩, .no, .v (B false), .no, .no, .c ⟨54, [(I (at_ a1.f0 x1).f1), (I 0), (I 1)], [], (B x3), [], [], [], [], (B x3), []⟩, .no, .no, .v (B false), .no, .no, .v (B false)] ⟨[(2, (.pt 256 0 3)), (3, (.pt 257 0 2)), (5, (I x1)), (49, (B false))], [(256, [(.sl true a0.f0.length 1 (a0.f0.flatMap encI)), (I a0.f1), (.sl true a0.f2.length 2 (a0.f2.flatMap (e83 true)))]), (257, [(.sl true a1.f0.length 2 (a1.f0.flatMap e93)), (.sl true a1.f1.length 1 (a1.f1.flatMap encI))]), (1285, [(I (at_ a1.f0 x1).f0), (I (at_ a1.f0 x1).f1)])], [2 = 2 ∧ 0 + 1 ≤ 2, 3 = 3 ∧ 0 + 1 ≤ 3, COK (hget [(256, [(.sl true a0.f0.length 1 (a0.f0.flatMap encI)), (I a0.f1), (.sl true a0.f2.length 2 (a0.f2.flatMap (e83 true)))]), (257, [(.sl true a1.f0.length 2 (a1.f0.flatMap e93)), (.sl true a1.f1.length 1 (a1.f1.flatMap encI))]), (1285, [(I (at_ a1.f0 x1).f0), (I (at_ a1.f0 x1).f1)])]) [(I (at_ a1.f0 x1).f0), (I 0), (I (wrap64 ((a0.f0.length : Int) - 1)))] ⟨54, [(I (at_ a1.f0 x1).f0), (I 0), (I (wrap64 ((a0.f0.length : Int) - 1)))], [], (B x2), [], [], [], [], (B x2), []⟩, (B (!x2) : V) = B false, 2 = 2 ∧ 1 + 1 ≤ 2, COK (hget [(256, [(.sl true a0.f0.length 1 (a0.f0.flatMap encI)), (I a0.f1), (.sl true a0.f2.length 2 (a0.f2.flatMap (e83 true)))]), (257, [(.sl true a1.f0.length 2 (a1.f0.flatMap e93)), (.sl true a1.f1.length 1 (a1.f1.flatMap encI))]), (1285, [(I (at_ a1.f0 x1).f0), (I (at_ a1.f0 x1).f1)])]) [(I (at_ a1.f0 x1).f1), (I 0), (I 1)] ⟨54, [(I (at_ a1.f0 x1).f1), (I 0), (I 1)], [], (B x3), [], [], [], [], (B x3), []⟩, (B (!x3) : V) = B false, (B (decide (x1 > 0)) : V) = B false], [⟨54, [(I (at_ a1.f0 x1).f0), (I 0), (I (wrap64 ((a0.f0.length : Int) - 1)))], [], (B x2), [], [], [], [], (B x2), []⟩, ⟨54, [(I (at_ a1.f0 x1).f1), (I 0), (I 1)], [], (B x3), [], [], [], [], (B x3), []⟩]⟩ [c_ 1683, b_ 1, c_ 211, l_ 26, b_ 0, c_ 7] (alc ⟨rfl, by decide⟩ (alc ⟨rfl, by decide⟩ (alc (cok0 false (a2c (.z .s) (a2c (.z .s) (a2c (.z .s) a2n))) (.z .s) (fun h => absurd h (by decide))) (alc (bF (nF c3)) (alc ⟨rfl, by decide⟩ (alc (cok0 false (a2c (.z .s) (a2c (.z .s) (a2c (.z .s) a2n))) (.z .s) (fun h => absurd h (by decide))) (alc (bF (nF c4)) (alc (bF (dF c5)) aln)))))))) (acal (spec_l01In.J ((at_ a1.f0 x1).f0) 0 (wrap64 ((a0.f0.length : Int) - 1)) _ hx2) (acal (spec_l01In.J ((at_ a1.f0 x1).f1) 0 1 _ hx3) nocal)) ?_
              refine .cond' (.tmp 49) false [c_ 211, l_ 26, b_ 0, c_ 7] (rfl) ?_
              refine .reg' [2, 3, 5] [] ⟨[(2, (.pt 256 0 3)), (3, (.pt 257 0 2)), (5, (I (wrap64 (x1 + 1))))], [(256, [(.sl true a0.f0.length 1 (a0.f0.flatMap encI)), (I a0.f1), (.sl true a0.f2.length 2 (a0.f2.flatMap (e83 true)))]), (257, [(.sl true a1.f0.length 2 (a1.f0.flatMap e93)), (.sl true a1.f1.length 1 (a1.f1.flatMap encI))]), (1285, [(I (at_ a1.f0 x1).f0), (I (at_ a1.f0 x1).f1)])], [], []⟩ [l_ 26, b_ 0, c_ 7] aln nocal ?_
              refine .wk' [] [(256, 256), (257, 257)] [(2, (.pt 256 0 3)), (3, (.pt 257 0 2)), (5, (I (wrap64 (x1 + 1))))] [(256, [(.sl true a0.f0.length 1 (a0.f0.flatMap encI)), (I a0.f1), (.sl true a0.f2.length 2 (a0.f2.flatMap (e83 true)))]), (257, [(.sl true a1.f0.length 2 (a1.f0.flatMap e93)), (.sl true a1.f1.length 1 (a1.f1.flatMap encI))])] (shc 256 (a2c (.z (frz_sl encI_ok (fun h => h))) (a2c (.z .s) (a2c (.z (frz_sl (e83_ok true) (fun h => h))) a2n))) (shc 257 (a2c (.z (frz_sl e93_ok (fun h => h))) (a2c (.z (frz_sl encI_ok (fun h => h))) a2n)) shn)) (enc_ (.pt (memP_mem (p := (256, 256)) rfl)) (enc_ (.pt (memP_mem (p := (257, 257)) rfl)) (enc_ (.z .s) enn))) ?_
              exact ih0 a0 a1 (wrap64 (x1 + 1)) _ h
          · rw [if_neg c4] at h
            refine .reg' [2, 3, 5, 49] [.no, .no, .no, .no, .no, .no, .c ⟨54, [(I (at_ a1.f0 x1).f0), (I 0), (I (wrap64 ((a0.f0.length : Int) - 1)))], [], (B x2), [], [], [], [], (B x2), []⟩, .no, .v (B false), .no, .no, .c ⟨54, [(I (at_ a1.f0 x1).f1), (I 0), (I 1)], [], (B x3), [], [], [], [], (B x3), []⟩, .no, .no, .v (B true)] ⟨[(2, (.pt 256 0 3)), (3, (.pt 257 0 2)), (5, (I x1)), (49, (B true))], [(256, [(.sl true a0.f0.length 1 (a0.f0.flatMap encI)), (I a0.f1), (.sl true a0.f2.length 2 (a0.f2.flatMap (e83 true)))]), (257, [(.sl true a1.f0.length 2 (a1.f0.flatMap e93)), (.sl true a1.f1.length 1 (a1.f1.flatMap encI))]), (1285, [(I (at_ a1.f0 x1).f0), (I (at_ a1.f0 x1).f1)])], [2 = 2 ∧ 0 + 1 ≤ 2, 3 = 3 ∧ 0 + 1 ≤ 3, COK (hget [(256, [(.sl true a0.f0.length 1 (a0.f0.flatMap encI)), (I a0.f1), (.sl true a0.f2.length 2 (a0.f2.flatMap (e83 true)))]), (257, [(.sl true a1.f0.length 2 (a1.f0.flatMap e93)), (.sl true a1.f1.length 1 (a1.f1.flatMap encI))]), (1285, [(I (at_ a1.f0 x1).f0), (I (at_ a1.f0 x1).f1)])]) [(I (at_ a1.f0 x1).f0), (I 0), (I (wrap64 ((a0.f0.length : Int) - 1)))] ⟨54, [(I (at_ a1.f0 x1).f0), (I 0), (I (wrap64 ((a0.f0.length : Int) - 1)))], [], (B x2), [], [], [], [], (B x2), []⟩, (B (!x2) : V) = B false, 2 = 2 ∧ 1 + 1 ≤ 2, COK (hget [(256, [(.sl true a0.f0.length 1 (a0.f0.flatMap encI)), (I a0.f1), (.sl true a0.f2.length 2 (a0.f2.flatMap (e83 true)))]), (257, [(.sl true a1.f0.length 2 (a1.f0.flatMap e93)), (.sl true a1.f1.length 1 (a1.f1.flatMap encI))]), (1285, [(I (at_ a1.f0 x1).f0), (I (at_ a1.f0 x1).f1)])]) [(I (at_ a1.f0 x1).f1), (I 0), (I 1)] ⟨54, [(I (at_ a1.f0 x1).f1), (I 0), (I 1)], [], (B x3), [], [], [], [], (B x3), []⟩, (B (!x3) : V) = B true], [⟨54, [(I (at_ a1.f0 x1).f0), (I 0), (I (wrap64 ((a0.f0.length : Int) - 1)))], [], (B x2), [], [], [], [], (B x2), []⟩, ⟨54, [(I (at_ a1.f0 x1).f1), (I 0), (I 1)], [], (B x3), [], [], [], [], (B x3), []⟩]⟩ [c_ 1683, b_ 1, c_ 211, l_ 26, b_ 0, c_ 7] (alc ⟨rfl, by decide⟩ (alc ⟨rfl, by decide⟩ (alc (cok0 false (a2c (.z .s) (a2c (.z .s) (a2c (.z .s) a2n))) (.z .s) (fun h => absurd h (by decide))) (alc (bF (nF c3)) (alc ⟨rfl, by decide⟩ (alc (cok0 false (a2c (.z .s) (a2c (.z .s) (a2c (.z .s) a2n))) (.z .s) (fun h => absurd h (by decide))) (alc (bT (nT (vF c4))) aln))))))) (acal (spec_l01In.J ((at_ a1.f0 x1).f0) 0 (wrap64 ((a0.f0.length : Int) - 1)) _ hx2) (acal (spec_l01In.J ((at_ a1.f0 x1).f1) 0 1 _ hx3) nocal)) ?_
            refine .cond' (.tmp 49) true [c_ 6732, c_ 6733, b_ 1, c_ 211, l_ 26, b_ 0, c_ 7] (rfl) ?_
            refine .reg' [4] [] ⟨[(4, (B false))], [(256, [(.sl true a0.f0.length 1 (a0.f0.flatMap encI)), (I a0.f1), (.sl true a0.f2.length 2 (a0.f2.flatMap (e83 true)))]), (257, [(.sl true a1.f0.length 2 (a1.f0.flatMap e93)), (.sl true a1.f1.length 1 (a1.f1.flatMap encI))]), (1285, [(I (at_ a1.f0 x1).f0), (I (at_ a1.f0 x1).f1)])], [], []⟩ [c_ 6733, b_ 1, c_ 211, l_ 26, b_ 0, c_ 7] aln nocal ?_
            have h := Option.some.inj h
            subst h
            exact .fin0 [] (B false) [] aln (.z .s)
        · rw [if_neg c3] at h
          refine .reg' [2, 3, 5, 49] [.no, .no, .no, .no, .no, .no, .c ⟨54, [(I (at_ a1.f0 x1).f0), (I 0), (I (wrap64 ((a0.f0.length : Int) - 1)))], [], (B x2), [], [], [], [], (B x2), []⟩, .no, .v (B true)] ⟨[(2, (.pt 256 0 3)), (3, (.pt 257 0 2)), (5, (I x1)), (49, (B true))], [(256, [(.sl true a0.f0.length 1 (a0.f0.flatMap encI)), (I a0.f1), (.sl true a0.f2.length 2 (a0.f2.flatMap (e83 true)))]), (257, [(.sl true a1.f0.length 2 (a1.f0.flatMap e93)), (.sl true a1.f1.length 1 (a1.f1.flatMap encI))]), (1285, [(I (at_ a1.f0 x1).f0), (I (at_ a1.f0 x1).f1)])], [2 = 2 ∧ 0 + 1 ≤ 2, 3 = 3 ∧ 0 + 1 ≤ 3, COK (hget [(256, [(.sl true a0.f0.length 1 (a0.f0.flatMap encI)), (I a0.f1), (.sl true a0.f2.length 2 (a0.f2.flatMap (e83 true)))]), (257, [(.sl true a1.f0.length 2 (a1.f0.flatMap e93)), (.sl true a1.f1.length 1 (a1.f1.flatMap encI))]), (1285, [(I (at_ a1.f0 x1).f0), (I (at_ a1.f0 x1).f1)])]) [(I (at_ a1.f0 x1).f0), (I 0), (I (wrap64 ((a0.f0.length : Int) - 1)))] ⟨54, [(I (at_ a1.f0 x1).f0), (I 0), (I (wrap64 ((a0.f0.length : Int) - 1)))], [], (B x2), [], [], [], [], (B x2), []⟩, (B (!x2) : V) = B true], [⟨54, [(I (at_ a1.f0 x1).f0), (I 0), (I (wrap64 ((a0.f0.length : Int) - 1)))], [], (B x2), [], [], [], [], (B x2), []⟩]⟩ [c_ 1683, b_ 1, c_ 211, l_ 26, b_ 0, c_ 7] (alc ⟨rfl, by decide⟩ (alc ⟨rfl, by decide⟩ (alc (cok0 false (a2c (.z .s) (a2c (.z .s) (a2c (.z .s) a2n))) (.z .s) (fun h => absurd h (by decide))) (alc (bT (nT (vF c3))) aln)))) (acal (spec_l01In.J ((at_ a1.f0 x1).f0) 0 (wrap64 ((a0.f0.length : Int) - 1)) _ hx2) nocal) ?_
          refine .cond' (.tmp 49) true [c_ 6732, c_ 6733, b_ 1, c_ 211, l_ 26, b_ 0, c_ 7] (rfl) ?_
          refine .reg' [4] [] ⟨[(4, (B false))], [(256, [(.sl true a0.f0.length 1 (a0.f0.flatMap encI)), (I a0.f1), (.sl true a0.f2.length 2 (a0.f2.flatMap (e83 true)))]), (257, [(.sl true a1.f0.length 2 (a1.f0.flatMap e93)), (.sl true a1.f1.length 1 (a1.f1.flatMap encI))]), (1285, [(I (at_ a1.f0 x1).f0), (I (at_ a1.f0 x1).f1)])], [], []⟩ [c_ 6733, b_ 1, c_ 211, l_ 26, b_ 0, c_ 7] aln nocal ?_
          have h := Option.some.inj h
          subst h
          exact .fin0 [] (B false) [] aln (.z .s)
      · rw [if_neg c2] at h
        cases h
    · rw [if_neg c1] at h
      refine .cond' (.tmp 12) false [c_ 28, c_ 29, c_ 15] (bF (dF c1)) ?_
      refine .reg' [2, 3, 7] [] ⟨[(2, (.pt 256 0 3)), (3, (.pt 257 0 2)), (7, (I 0))], [(256, [(.sl true a0.f0.length 1 (a0.f0.flatMap encI)), (I a0.f1), (.sl true a0.f2.length 2 (a0.f2.flatMap (e83 true)))]), (257, [(.sl true a1.f0.length 2 (a1.f0.flatMap e93)), (.sl true a1.f1.length 1 (a1.f1.flatMap encI))])], [], []⟩ [l_ 58, b_ 2, c_ 15] aln nocal ?_
      exact ih1 a0 a1 0 _ h
  · intro a0 a1 x4 r h
    unfold spec_l06Route.l1 at h
    refine .loop' [c_ 464, c_ 465, c_ 233, l_ 58, b_ 2, c_ 15] ?_
    refine .reg' [2, 3, 7, 54] [] ⟨[(2, (.pt 256 0 3)), (3, (.pt 257 0 2)), (7, (I x4)), (54, (B (decide (x4 < (a1.f1.length : Int)))))], [(256, [(.sl true a0.f0.length 1 (a0.f0.flatMap encI)), (I a0.f1), (.sl true a0.f2.length 2 (a0.f2.flatMap (e83 true)))]), (257, [(.sl true a1.f0.length 2 (a1.f0.flatMap e93)), (.sl true a1.f1.length 1 (a1.f1.flatMap encI))])], [2 = 2 ∧ 1 + 1 ≤ 2], []⟩ [c_ 465, c_ 233, l_ 58, b_ 2, c_ 15] (alc ⟨rfl, by decide⟩ aln) nocal ?_
    by_cases c9 : x4 < (a1.f1.length : Int)
    · rw [if_pos c9] at h
      refine .cond' (.tmp 54) true [c_ 1864, c_ 1865, b_ 3, c_ 467, l_ 58, b_ 2, c_ 15] (bT (dT c9)) ?_
      by_cases c10 : 0 ≤ x4
      · rw [if_pos c10] at h
        obtain ⟨x5, hx5, h⟩ := Option.bind_eq_some_iff.mp h
        by_cases c11 : x5 = true
        · rw [if_pos c11] at h
          by_cases c12 : x4 ≤ (a1.f1.length : Int)
          · rw [if_pos c12] at h
            obtain ⟨x6, hx6, h⟩ := Option.bind_eq_some_iff.mp h
            refine .reg' [2, 3, 7, 78] [.no, .no, .no, .no, .v (I (at_ a1.f1 x4)), .no, .no, .no, .c ⟨54, [(I (at_ a1.f1 x4)), (I 0), (I (wrap64 (a0.f1 - 1)))], [], (B x5), [], [], [], [], (B x5), []⟩, .no, .v (B false), .no, .no, .no, .v (.sl true ((a1.f1.drop (0 : Int).toNat).take (x4.toNat - (0 : Int).toNat)).length 1 (((a1.f1.drop (0 : Int).toNat).take (x4.toNat - (0 : Int).toNat)).flatMap encI)), .no, .no, .no, .no, .v (I (at_ a1.f1 x4)), .c ⟨98, [(.sl true ((a1.f1.drop (0 : Int).toNat).take (x4.toNat - (0 : Int).toNat)).length 1 (((a1.f1.drop (0 : Int).toNat).take (x4.toNat - (0 : Int).toNat)).flatMap encI)), (I (at_ a1.f1 x4))], [], (B x6), [], [], [], [], (B x6), []⟩] ⟨[(2, (.pt 256 0 3)), (3, (.pt 257 0 2)), (7, (I x4)), (78, (B x6))], [(256, [(.sl true a0.f0.length 1 (a0.f0.flatMap encI)), (I a0.f1), (.sl true a0.f2.length 2 (a0.f2.flatMap (e83 true)))]), (257, [(.sl true a1.f0.length 2 (a1.f0.flatMap e93)), (.sl true a1.f1.length 1 (a1.f1.flatMap encI))])], [2 = 2 ∧ 1 + 1 ≤ 2, (0 : Int) ≤ x4 ∧ x4 < (a1.f1.length : Int), rdC prog 3 ((a1.f1.flatMap encI).drop (x4.toNat * 1)) = (I (at_ a1.f1 x4)), 1 ≤ ((a1.f1.flatMap encI).drop (x4.toNat * 1)).length, 3 = 3 ∧ 1 + 1 ≤ 3, COK (hget [(256, [(.sl true a0.f0.length 1 (a0.f0.flatMap encI)), (I a0.f1), (.sl true a0.f2.length 2 (a0.f2.flatMap (e83 true)))]), (257, [(.sl true a1.f0.length 2 (a1.f0.flatMap e93)), (.sl true a1.f1.length 1 (a1.f1.flatMap encI))])]) [(I (at_ a1.f1 x4)), (I 0), (I (wrap64 (a0.f1 - 1)))] ⟨54, [(I (at_ a1.f1 x4)), (I 0), (I (wrap64 (a0.f1 - 1)))], [], (B x5), [], [], [], [], (B x5), []⟩, (B (!x5) : V) = B false, 2 = 2 ∧ 1 + 1 ≤ 2, V.sl true (x4.toNat - (0 : Int).toNat) 1 (((a1.f1.flatMap encI).drop ((0 : Int).toNat * 1)).take ((x4.toNat - (0 : Int).toNat) * 1)) = (.sl true ((a1.f1.drop (0 : Int).toNat).take (x4.toNat - (0 : Int).toNat)).length 1 (((a1.f1.drop (0 : Int).toNat).take (x4.toNat - (0 : Int).toNat)).flatMap encI)), 0 ≤ (0 : Int) ∧ 0 ≤ x4 ∧ x4 ≤ (a1.f1.length : Int), 2 = 2 ∧ 1 + 1 ≤ 2, (0 : Int) ≤ x4 ∧ x4 < (a1.f1.length : Int), rdC prog 3 ((a1.f1.flatMap encI).drop (x4.toNat * 1)) = (I (at_ a1.f1 x4)), 1 ≤ ((a1.f1.flatMap encI).drop (x4.toNat * 1)).length, COK (hget [(256, [(.sl true a0.f0.length 1 (a0.f0.flatMap encI)), (I a0.f1), (.sl true a0.f2.length 2 (a0.f2.flatMap (e83 true)))]), (257, [(.sl true a1.f0.length 2 (a1.f0.flatMap e93)), (.sl true a1.f1.length 1 (a1.f1.flatMap encI))])]) [(.sl true ((a1.f1.drop (0 : Int).toNat).take (x4.toNat - (0 : Int).toNat)).length 1 (((a1.f1.drop (0 : Int).toNat).take (x4.toNat - (0 : Int).toNat)).flatMap encI)), (I (at_ a1.f1 x4))] ⟨98, [(.sl true ((a1.f1.drop (0 : Int).toNat).take (x4.toNat - (0 : Int).toNat)).length 1 (((a1.f1.drop (0 : Int).toNat).take (x4.toNat - (0 : Int).toNat)).flatMap encI)), (I (at_ a1.f1 x4))], [], (B x6), [], [], [], [], (B x6), []⟩], [⟨54, [(I (at_ a1.f1 x4)), (I 0), (I (wrap64 (a0.f1 - 1)))], [], (B x5), [], [], [], [], (B x5), []⟩, ⟨98, [(.sl true ((a1.f1.drop (0 : Int).toNat).take (x4.toNat - (0 : Int).toNat)).length 1 (((a1.f1.drop (0 : Int).toNat).take (x4.toNat - (0 : Int).toNat)).flatMap encI)), (I (at_ a1.f1 x4))], [], (B x6), [], [], [], [], (B x6), []⟩]⟩ [c_ 1865, b_ 3, c_ 467, l_ 58, b_ 2, c_ 15] (alc ⟨rfl, by decide⟩ (alc ⟨c10, c9⟩ (alc (ldC1 encI_ok rfl c10 c9) (alc (okI encI_ok c10 c9 (by decide)) (alc ⟨rfl, by decide⟩ (alc (cok0 false (a2c (.z .s) (a2c (.z .s) (a2c (.z .s) a2n))) (.z .s) (fun h => absurd h (by decide))) (alc (bF (nF c11)) (alc ⟨rfl, by decide⟩ (alc (slS encI_ok (by omega) (by omega)) (alc ⟨(by decide), c10, c12⟩ (alc ⟨rfl, by decide⟩ (alc ⟨c10, c9⟩ (alc (ldC1 encI_ok rfl c10 c9) (alc (okI encI_ok c10 c9 (by decide)) (alc (cok0 false (a2c (.z (frz_sl encI_ok (fun h => h))) (a2c (.z .s) a2n)) (.z .s) (fun h => absurd h (by decide))) aln))))))))))))))) (acal (spec_l01In.J (at_ a1.f1 x4) 0 (wrap64 (a0.f1 - 1)) _ hx5) (acal (spec_l01Has.J k ((a1.f1.drop (0 : Int).toNat).take (x4.toNat - (0 : Int).toNat)) (at_ a1.f1 x4) _ hx6) nocal)) ?_
            by_cases c13 : x6 = true
            · rw [if_pos c13] at h
              refine .cond' (.tmp 78) true [c_ 7460, c_ 7461, b_ 3, c_ 467, l_ 58, b_ 2, c_ 15] (bT c13) ?_
              refine .reg' [4] [] ⟨[(4, (B false))], [(256, [(.sl true a0.f0.length 1 (a0.f0.flatMap encI)), (I a0.f1), (.sl true a0.f2.length 2 (a0.f2.flatMap (e83 true)))]), (257, [(.sl true a1.f0.length 2 (a1.f0.flatMap e93)), (.sl true a1.f1.length 1 (a1.f1.flatMap encI))])], [], []⟩ [c_ 7461, b_ 3, c_ 467, l_ 58, b_ 2, c_ 15] aln nocal ?_
              have h := Option.some.inj h
              subst h
              exact .fin0 [] (B false) [] aln (.z .s)
            · rw [if_neg c13] at h
              refine .cond' (.tmp 78) false [c_ 467, l_ 58, b_ 2, c_ 15] (bF (vF c13)) ?_
              refine .reg' [2, 3, 7] [] ⟨[(2, (.pt 256 0 3)), (3, (.pt 257 0 2)), (7, (I (wrap64 (x4 + 1))))], [(256, [(.sl true a0.f0.length 1 (a0.f0.flatMap encI)), (I a0.f1), (.sl true a0.f2.length 2 (a0.f2.flatMap (e83 true)))]), (257, [(.sl true a1.f0.length 2 (a1.f0.flatMap e93)), (.sl true a1.f1.length 1 (a1.f1.flatMap encI))])], [], []⟩ [l_ 58, b_ 2, c_ 15] aln nocal ?_
              exact ih1 a0 a1 (wrap64 (x4 + 1)) _ h
          · rw [if_neg c12] at h
            cases h
        · rw [if_neg c11] at h
          refine .reg' [2, 3, 7, 78] [.no, .no, .no, .no, .v (I (at_ a1.f1 x4)), .no, .no, .no, .c ⟨54, [(I (at_ a1.f1 x4)), (I 0), (I (wrap64 (a0.f1 - 1)))], [], (B x5), [], [], [], [], (B x5), []⟩, .no, .v (B true)] ⟨[(2, (.pt 256 0 3)), (3, (.pt 257 0 2)), (7, (I x4)), (78, (B true))], [(256, [(.sl true a0.f0.length 1 (a0.f0.flatMap encI)), (I a0.f1), (.sl true a0.f2.length 2 (a0.f2.flatMap (e83 true)))]), (257, [(.sl true a1.f0.length 2 (a1.f0.flatMap e93)), (.sl true a1.f1.length 1 (a1.f1.flatMap encI))])], [2 = 2 ∧ 1 + 1 ≤ 2, (0 : Int) ≤ x4 ∧ x4 < (a1.f1.length : Int), rdC prog 3 ((a1.f1.flatMap encI).drop (x4.toNat * 1)) = (I (at_ a1.f1 x4)), 1 ≤ ((a1.f1.flatMap encI).drop (x4.toNat * 1)).length, 3 = 3 ∧ 1 + 1 ≤ 3, COK (hget [(256, [(.sl true a0.f0.length 1 (a0.f0.flatMap encI)), (I a0.f1), (.sl true a0.f2.length 2 (a0.f2.flatMap (e83 true)))]), (257, [(.sl true a1.f0.length 2 (a1.f0.flatMap e93)), (.sl true a1.f1.length 1 (a1.f1.flatMap encI))])]) [(I (at_ a1.f1 x4)), (I 0), (I (wrap64 (a0.f1 - 1)))] ⟨54, [(I (at_ a1.f1 x4)), (I 0), (I (wrap64 (a0.f1 - 1)))], [], (B x5), [], [], [], [], (B x5), []⟩, (B (!x5) : V) = B true], [⟨54, [(I (at_ a1.f1 x4)), (I 0), (I (wrap64 (a0.f1 - 1)))], [], (B x5), [], [], [], [], (B x5), []⟩]⟩ [c_ 1865, b_ 3, c_ 467, l_ 58, b_ 2, c_ 15] (alc ⟨rfl, by decide⟩ (alc ⟨c10, c9⟩ (alc (ldC1 encI_ok rfl c10 c9) (alc (okI encI_ok c10 c9 (by decide)) (alc ⟨rfl, by decide⟩ (alc (cok0 false (a2c (.z .s) (a2c (.z .s) (a2c (.z .s) a2n))) (.z .s) (fun h => absurd h (by decide))) (alc (bT (nT (vF c11))) aln))))))) (acal (spec_l01In.J (at_ a1.f1 x4) 0 (wrap64 (a0.f1 - 1)) _ hx5) nocal) ?_
          refine .cond' (.tmp 78) true [c_ 7460, c_ 7461, b_ 3, c_ 467, l_ 58, b_ 2, c_ 15] (rfl) ?_
          refine .reg' [4] [] ⟨[(4, (B false))], [(256, [(.sl true a0.f0.length 1 (a0.f0.flatMap encI)), (I a0.f1), (.sl true a0.f2.length 2 (a0.f2.flatMap (e83 true)))]), (257, [(.sl true a1.f0.length 2 (a1.f0.flatMap e93)), (.sl true a1.f1.length 1 (a1.f1.flatMap encI))])], [], []⟩ [c_ 7461, b_ 3, c_ 467, l_ 58, b_ 2, c_ 15] aln nocal ?_
          have h := Option.some.inj h
          subst h
          exact .fin0 [] (B false) [] aln (.z .s)
      · rw [if_neg c10] at h
        cases h
    · rw [if_neg c9] at h
      refine .cond' (.tmp 54) false [c_ 30, c_ 31] (bF (dF c9)) ?_
      refine .reg' [4] [] ⟨[(4, (B (decide ((a1.f1.length : Int) > 0))))], [(256, [(.sl true a0.f0.length 1 (a0.f0.flatMap encI)), (I a0.f1), (.sl true a0.f2.length 2 (a0.f2.flatMap (e83 true)))]), (257, [(.sl true a1.f0.length 2 (a1.f0.flatMap e93)), (.sl true a1.f1.length 1 (a1.f1.flatMap encI))])], [2 = 2 ∧ 1 + 1 ≤ 2], []⟩ [c_ 31] (alc ⟨rfl, by decide⟩ aln) nocal ?_
      have h := Option.some.inj h
      subst h
      exact .fin0 [] (B (decide ((a1.f1.length : Int) > 0))) [] aln (.z .s)
theorem spec_l06Route.J (k : Nat) (a0 : S29) (a1 : S83) (r : Bool) (h : spec_l06Route.f k a0 a1 = some r) : J prog (.call 55 [(.ag [(.sl true a0.f0.length 1 (a0.f0.flatMap encI)), (I a0.f1), (.sl true a0.f2.length 2 (a0.f2.flatMap (e83 true)))]), (.ag [(.sl true a1.f0.length 2 (a1.f0.flatMap e93)), (.sl true a1.f1.length 1 (a1.f1.flatMap encI))])] [] (B r) []) := by
  unfold spec_l06Route.f at h
  obtain ⟨ih0, ih1⟩ := spec_l06Route.lab k
  refine .call' [c_ 2, c_ 3] ?_
  refine .reg' [2, 3] [] ⟨[(2, (.pt 256 0 3)), (3, (.pt 257 0 2))], [(256, [(.sl true a0.f0.length 1 (a0.f0.flatMap encI)), (I a0.f1), (.sl true a0.f2.length 2 (a0.f2.flatMap (e83 true)))]), (257, [(.sl true a1.f0.length 2 (a1.f0.flatMap e93)), (.sl true a1.f1.length 1 (a1.f1.flatMap encI))])], [], []⟩ [c_ 12, c_ 13, c_ 7] aln nocal ?_
  refine .reg' [2, 3, 5] [] ⟨[(2, (.pt 256 0 3)), (3, (.pt 257 0 2)), (5, (I 0))], [(256, [(.sl true a0.f0.length 1 (a0.f0.flatMap encI)), (I a0.f1), (.sl true a0.f2.length 2 (a0.f2.flatMap (e83 true)))]), (257, [(.sl true a1.f0.length 2 (a1.f0.flatMap e93)), (.sl true a1.f1.length 1 (a1.f1.flatMap encI))])], [], []⟩ [l_ 26, b_ 0, c_ 7] aln nocal ?_
  exact ih0 a0 a1 0 _ h
/-! spec_PlantOk: function 11 -/
mutual
def spec_PlantOk.l0 : Nat → S29 → Int → Option Bool
 | 0, _, _ => none
 | k + 1, a0, x2 => (if x2 < (a0.f0.length : Int) then (if 0 ≤ x2 then ((spec_l01In.f (at_ a0.f0 x2) 0 (wrap64 (a0.f1 - 1))).bind fun x3 => (if x3 = true then (spec_PlantOk.l0 k a0 (wrap64 (x2 + 1))) else (some false))) else none) else (spec_PlantOk.l1 k a0 0))
def spec_PlantOk.l1 : Nat → S29 → Int → Option Bool
 | 0, _, _ => none
 | k + 1, a0, x4 => (if x4 < (a0.f2.length : Int) then (if 0 ≤ x4 then (if ((at_ a0.f2 x4).f1.length : Int) > 24 then (some false) else (if ((at_ a0.f2 x4).f0.length : Int) > 16 then (some false) else ((spec_l06Route.f k a0 (at_ a0.f2 x4)).bind fun x5 => (if x5 = true then (spec_PlantOk.l1 k a0 (wrap64 (x4 + 1))) else (some false))))) else none) else (some true))
end
def spec_PlantOk.f (k : Nat) (a0 : S29) : Option Bool := (if (a0.f0.length : Int) > 16 then (some false) else ((spec_l01In.f a0.f1 1 24).bind fun x1 => (if x1 = true then (if (a0.f2.length : Int) > 12 then (some false) else (spec_PlantOk.l0 k a0 0)) else (some false))))
theorem spec_PlantOk.lab : ∀ k, (∀ (a0 : S29) (x2 : Int) (r : Bool), spec_PlantOk.l0 k a0 x2 = some r → J prog (.run 11 [] [l_ 58, b_ 0, c_ 15] [(1, (.pt 256 0 3)), (3, (I x2))] [(256, [(.sl true a0.f0.length 1 (a0.f0.flatMap encI)), (I a0.f1), (.sl true a0.f2.length 2 (a0.f2.flatMap (e83 true)))])] (B r) [])) ∧ (∀ (a0 : S29) (x4 : Int) (r : Bool), spec_PlantOk.l1 k a0 x4 = some r → J prog (.run 11 [] [l_ 122, b_ 2, c_ 31] [(1, (.pt 256 0 3)), (4, (I x4))] [(256, [(.sl true a0.f0.length 1 (a0.f0.flatMap encI)), (I a0.f1), (.sl true a0.f2.length 2 (a0.f2.flatMap (e83 true)))])] (B r) []))
 | 0 => ⟨(by intro a0 x2 r h; unfold spec_PlantOk.l0 at h; cases h), (by intro a0 x4 r h; unfold spec_PlantOk.l1 at h; cases h)⟩
 | k + 1 => by
  obtain ⟨ih0, ih1⟩ := spec_PlantOk.lab k
  refine ⟨?_, ?_⟩
  · intro a0 x2 r h
    unfold spec_PlantOk.l0 at h
    refine .loop' [c_ 464, c_ 465, c_ 233, l_ 58, b_ 0, c_ 15] ?_
    refine .reg' [1, 3, 25] [] ⟨[(1, (.pt 256 0 3)), (3, (I x2)), (25, (B (decide (x2 < (a0.f0.length : Int)))))], [(256, [(.sl true a0.f0.length 1 (a0.f0.flatMap encI)), (I a0.f1), (.sl true a0.f2.length 2 (a0.f2.flatMap (e83 true)))])], [3 = 3 ∧ 0 + 1 ≤ 3], []⟩ [c_ 465, c_ 233, l_ 58, b_ 0, c_ 15] (alc ⟨rfl, by decide⟩ aln) nocal ?_
    by_cases c4 : x2 < (a0.f0.length : Int)
    · rw [if_pos c4] at h
      refine .cond' (.tmp 25) true [c_ 1864, c_ 1865, b_ 1, c_ 467, l_ 58, b_ 0, c_ 15] (bT (dT c4)) ?_
      by_cases c5 : 0 ≤ x2
      · rw [if_pos c5] at h
        obtain ⟨x3, hx3, h⟩ := Option.bind_eq_some_iff.mp h
        refine .reg' [1, 3, 37] [.no, .no, .no, .no, .v (I (at_ a0.f0 x2)), .no, .no, .no, .c ⟨54, [(I (at_ a0.f0 x2)), (I 0), (I (wrap64 (a0.f1 - 1)))], [], (B x3), [], [], [], [], (B x3), []⟩] ⟨[(1, (.pt 256 0 3)), (3, (I x2)), (37, (B (!x3)))], [(256, [(.sl true a0.f0.length 1 (a0.f0.flatMap encI)), (I a0.f1), (.sl true a0.f2.length 2 (a0.f2.flatMap (e83 true)))])], [3 = 3 ∧ 0 + 1 ≤ 3, (0 : Int) ≤ x2 ∧ x2 < (a0.f0.length : Int), rdC prog 3 ((a0.f0.flatMap encI).drop (x2.toNat * 1)) = (I (at_ a0.f0 x2)), 1 ≤ ((a0.f0.flatMap encI).drop (x2.toNat * 1)).length, 3 = 3 ∧ 1 + 1 ≤ 3, COK (hget [(256, [(.sl true a0.f0.length 1 (a0.f0.flatMap encI)), (I a0.f1), (.sl true a0.f2.length 2 (a0.f2.flatMap (e83 true)))])]) [(I (at_ a0.f0 x2)), (I 0), (I (wrap64 (a0.f1 - 1)))] ⟨54, [(I (at_ a0.f0 x2)), (I 0), (I (wrap64 (a0.f1 - 1)))], [], (B x3), [], [], [], [], (B x3), []⟩], [⟨54, [(I (at_ a0.f0 x2)), (I 0), (I (wrap64 (a0.f1 - 1)))], [], (B x3), [], [], [], [], (B x3), []⟩]⟩ [c_ 1865, b_ 1, c_ 467, l_ 58, b_ 0, c_ 15] (alc ⟨rfl, by decide⟩ (alc ⟨c5, c4⟩ (alc (ldC1 encI_ok rfl c5 c4) (alc (okI encI_ok c5 c4 (by decide)) (alc ⟨rfl, by decide⟩ (alc (cok0 false (a2c (.z .s) (a2c (.z .s) (a2c (.z .s) a2n))) (.z .s) (fun h => absurd h (by decide))) aln)))))) (acal (spec_l01In.J (at_ a0.f0 x2) 0 (wrap64 (a0.f1 - 1)) _ hx3) nocal) ?_
        by_cases c6 : x3 = true
        · rw [if_pos c6] at h
          refine .cond' (.tmp 37) false [c_ 467, l_ 58, b_ 0, c_ 15] (bF (nF c6)) ?_
          refine .reg' [1, 3] [] ⟨[(1, (.pt 256 0 3)), (3, (I (wrap64 (x2 + 1))))], [(256, [(.sl true a0.f0.length 1 (a0.f0.flatMap encI)), (I a0.f1), (.sl true a0.f2.length 2 (a0.f2.flatMap (e83 true)))])], [], []⟩ [l_ 58, b_ 0, c_ 15] aln nocal ?_
          exact ih0 a0 (wrap64 (x2 + 1)) _ h
        · rw [if_neg c6] at h
          refine .cond' (.tmp 37) true [c_ 7460, c_ 7461, b_ 1, c_ 467, l_ 58, b_ 0, c_ 15] (bT (nT (vF c6))) ?_
          refine .reg' [2] [] ⟨[(2, (B false))], [(256, [(.sl true a0.f0.length 1 (a0.f0.flatMap encI)), (I a0.f1), (.sl true a0.f2.length 2 (a0.f2.flatMap (e83 true)))])], [], []⟩ [c_ 7461, b_ 1, c_ 467, l_ 58, b_ 0, c_ 15] aln nocal ?_
          have h := Option.some.inj h
          subst h
          exact .fin0 [] (B false) [] aln (.z .s)
      · rw [if_neg c5] at h
        cases h
    · rw [if_neg c4] at h
      refine .cond' (.tmp 25) false [c_ 60, c_ 61, c_ 31] (bF (dF c4)) ?_
      refine .reg' [1, 4] [] ⟨[(1, (.pt 256 0 3)), (4, (I 0))], [(256, [(.sl true a0.f0.length 1 (a0.f0.flatMap encI)), (I a0.f1), (.sl true a0.f2.length 2 (a0.f2.flatMap (e83 true)))])], [], []⟩ [l_ 122, b_ 2, c_ 31] aln nocal ?_
      exact ih1 a0 0 _ h
  · intro a0 x4 r h
    unfold spec_PlantOk.l1 at h
    refine .loop' [c_ 976, c_ 977, c_ 489, l_ 122, b_ 2, c_ 31] ?_
    refine .reg' [1, 4, 42] [] ⟨[(1, (.pt 256 0 3)), (4, (I x4)), (42, (B (decide (x4 < (a0.f2.length : Int)))))], [(256, [(.sl true a0.f0.length 1 (a0.f0.flatMap encI)), (I a0.f1), (.sl true a0.f2.length 2 (a0.f2.flatMap (e83 true)))])], [3 = 3 ∧ 2 + 1 ≤ 3], []⟩ [c_ 977, c_ 489, l_ 122, b_ 2, c_ 31] (alc ⟨rfl, by decide⟩ aln) nocal ?_
    by_cases c7 : x4 < (a0.f2.length : Int)
    · rw [if_pos c7] at h
      refine .cond' (.tmp 42) true [c_ 3912, c_ 3913, b_ 3, c_ 979, l_ 122, b_ 2, c_ 31] (bT (dT c7)) ?_
      by_cases c8 : 0 ≤ x4
      · rw [if_pos c8] at h
        by_cases c9 : ((at_ a0.f2 x4).f1.length : Int) > 24
        · rw [if_pos c9] at h
          refine .reg' [1, 4, 72] [.no, .no, .no, .no, .no, .v (.sl true (at_ a0.f2 x4).f1.length 1 ((at_ a0.f2 x4).f1.flatMap encI)), .no, .no, .v (B true)] ⟨[(1, (.pt 256 0 3)), (4, (I x4)), (72, (B true))], [(256, [(.sl true a0.f0.length 1 (a0.f0.flatMap encI)), (I a0.f1), (.sl true a0.f2.length 2 (a0.f2.flatMap (e83 true)))])], [3 = 3 ∧ 2 + 1 ≤ 3, (0 : Int) ≤ x4 ∧ x4 < (a0.f2.length : Int), rdC prog 22 (((a0.f2.flatMap (e83 true)).drop (x4.toNat * 2)).drop 1) = (.sl true (at_ a0.f2 x4).f1.length 1 ((at_ a0.f2 x4).f1.flatMap encI)), 1 ≤ (((a0.f2.flatMap (e83 true)).drop (x4.toNat * 2)).drop 1).length, (B (decide (((at_ a0.f2 x4).f1.length : Int) > 24)) : V) = B true], []⟩ [c_ 3913, b_ 3, c_ 979, l_ 122, b_ 2, c_ 31] (alc ⟨rfl, by decide⟩ (alc ⟨c8, c7⟩ (alc (ldC (e83_ok true) 1 (by decide) rfl c8 c7) (alc (okIj (e83_ok true) c8 c7 (by decide)) (alc (bT (dT c9)) aln))))) nocal ?_
          refine .cond' (.tmp 72) true [c_ 15652, c_ 15653, b_ 3, c_ 979, l_ 122, b_ 2, c_ 31] (rfl) ?_
          refine .reg' [2] [] ⟨[(2, (B false))], [(256, [(.sl true a0.f0.length 1 (a0.f0.flatMap encI)), (I a0.f1), (.sl true a0.f2.length 2 (a0.f2.flatMap (e83 true)))])], [], []⟩ [c_ 15653, b_ 3, c_ 979, l_ 122, b_ 2, c_ 31] aln nocal ?_
          have h := Option.some.inj h
          subst h
          exact .fin0 [] (B false) [] aln (.z .s)
        · rw [if_neg c9] at h
          by_cases c10 : ((at_ a0.f2 x4).f0.length : Int) > 16
          · rw [if_pos c10] at h
            refine .reg' [1, 4, 72] [.no, .no, .no, .no, .no, .v (.sl true (at_ a0.f2 x4).f1.length 1 ((at_ a0.f2 x4).f1.flatMap encI)), .no, .no, .v (B false), .no, .no, .no, .no, .no, .v (.sl true (at_ a0.f2 x4).f0.length 2 ((at_ a0.f2 x4).f0.flatMap e93)), .no, .no, .no, .v (B true)] ⟨[(1, (.pt 256 0 3)), (4, (I x4)), (72, (B true))], [(256, [(.sl true a0.f0.length 1 (a0.f0.flatMap encI)), (I a0.f1), (.sl true a0.f2.length 2 (a0.f2.flatMap (e83 true)))])], [3 = 3 ∧ 2 + 1 ≤ 3, (0 : Int) ≤ x4 ∧ x4 < (a0.f2.length : Int), rdC prog 22 (((a0.f2.flatMap (e83 true)).drop (x4.toNat * 2)).drop 1) = (.sl true (at_ a0.f2 x4).f1.length 1 ((at_ a0.f2 x4).f1.flatMap encI)), 1 ≤ (((a0.f2.flatMap (e83 true)).drop (x4.toNat * 2)).drop 1).length, (B (decide (((at_ a0.f2 x4).f1.length : Int) > 24)) : V) = B false, 3 = 3 ∧ 2 + 1 ≤ 3, (0 : Int) ≤ x4 ∧ x4 < (a0.f2.length : Int), rdC prog 82 (((a0.f2.flatMap (e83 true)).drop (x4.toNat * 2)).drop 0) = (.sl true (at_ a0.f2 x4).f0.length 2 ((at_ a0.f2 x4).f0.flatMap e93)), 1 ≤ (((a0.f2.flatMap (e83 true)).drop (x4.toNat * 2)).drop 0).length, (B (decide (((at_ a0.f2 x4).f0.length : Int) > 16)) : V) = B true], []⟩ [c_ 3913, b_ 3, c_ 979, l_ 122, b_ 2, c_ 31] (alc ⟨rfl, by decide⟩ (alc ⟨c8, c7⟩ (alc (ldC (e83_ok true) 1 (by decide) rfl c8 c7) (alc (okIj (e83_ok true) c8 c7 (by decide)) (alc (bF (dF c9)) (alc ⟨rfl, by decide⟩ (alc ⟨c8, c7⟩ (alc (ldC (e83_ok true) 0 (by decide) rfl c8 c7) (alc (okIj (e83_ok true) c8 c7 (by decide)) (alc (bT (dT c10)) aln)))))))))) nocal ?_
            refine .cond' (.tmp 72) true [c_ 15652, c_ 15653, b_ 3, c_ 979, l_ 122, b_ 2, c_ 31] (rfl) ?_
            refine .reg' [2] [] ⟨[(2, (B false))], [(256, [(.sl true a0.f0.length 1 (a0.f0.flatMap encI)), (I a0.f1), (.sl true a0.f2.length 2 (a0.f2.flatMap (e83 true)))])], [], []⟩ [c_ 15653, b_ 3, c_ 979, l_ 122, b_ 2, c_ 31] aln nocal ?_
            have h := Option.some.inj h
            subst h
            exact .fin0 [] (B false) [] aln (.z .s)
          · rw [if_neg c10] at h
            obtain ⟨x5, hx5, h⟩ := Option.bind_eq_some_iff.mp h
            refine .reg' [1, 4, 72] [.no, .no, .no, .no, .no, .v (.sl true (at_ a0.f2 x4).f1.length 1 ((at_ a0.f2 x4).f1.flatMap encI)), .no, .no, .v (B false), .no, .no, .no, .no, .no, .v (.sl true (at_ a0.f2 x4).f0.length 2 ((at_ a0.f2 x4).f0.flatMap e93)), .no, .no, .no, .v (B false), .no, .no, .no, .no, .no, .v (.ag [(.sl true (at_ a0.f2 x4).f0.length 2 ((at_ a0.f2 x4).f0.flatMap e93)), (.sl true (at_ a0.f2 x4).f1.length 1 ((at_ a0.f2 x4).f1.flatMap encI))]), .c ⟨55, [(.ag [(.sl true a0.f0.length 1 (a0.f0.flatMap encI)), (I a0.f1), (.sl true a0.f2.length 2 (a0.f2.flatMap (e83 true)))]), (.ag [(.sl true (at_ a0.f2 x4).f0.length 2 ((at_ a0.f2 x4).f0.flatMap e93)), (.sl true (at_ a0.f2 x4).f1.length 1 ((at_ a0.f2 x4).f1.flatMap encI))])], [], (B x5), [], [], [], [], (B x5), []⟩] ⟨[(1, (.pt 256 0 3)), (4, (I x4)), (72, (B (!x5)))], [(256, [(.sl true a0.f0.length 1 (a0.f0.flatMap encI)), (I a0.f1), (.sl true a0.f2.length 2 (a0.f2.flatMap (e83 true)))])], [3 = 3 ∧ 2 + 1 ≤ 3, (0 : Int) ≤ x4 ∧ x4 < (a0.f2.length : Int), rdC prog 22 (((a0.f2.flatMap (e83 true)).drop (x4.toNat * 2)).drop 1) = (.sl true (at_ a0.f2 x4).f1.length 1 ((at_ a0.f2 x4).f1.flatMap encI)), 1 ≤ (((a0.f2.flatMap (e83 true)).drop (x4.toNat * 2)).drop 1).length, (B (decide (((at_ a0.f2 x4).f1.length : Int) > 24)) : V) = B false, 3 = 3 ∧ 2 + 1 ≤ 3, (0 : Int) ≤ x4 ∧ x4 < (a0.f2.length : Int), rdC prog 82 (((a0.f2.flatMap (e83 true)).drop (x4.toNat * 2)).drop 0) = (.sl true (at_ a0.f2 x4).f0.length 2 ((at_ a0.f2 x4).f0.flatMap e93)), 1 ≤ (((a0.f2.flatMap (e83 true)).drop (x4.toNat * 2)).drop 0).length, (B (decide (((at_ a0.f2 x4).f0.length : Int) > 16)) : V) = B false, 3 = 3 ∧ 0 + 3 ≤ 3, 3 = 3 ∧ 2 + 1 ≤ 3, (0 : Int) ≤ x4 ∧ x4 < (a0.f2.length : Int), rdC prog 84 ((a0.f2.flatMap (e83 true)).drop (x4.toNat * 2)) = (.ag [(.sl true (at_ a0.f2 x4).f0.length 2 ((at_ a0.f2 x4).f0.flatMap e93)), (.sl true (at_ a0.f2 x4).f1.length 1 ((at_ a0.f2 x4).f1.flatMap encI))]), 2 ≤ ((a0.f2.flatMap (e83 true)).drop (x4.toNat * 2)).length, COK (hget [(256, [(.sl true a0.f0.length 1 (a0.f0.flatMap encI)), (I a0.f1), (.sl true a0.f2.length 2 (a0.f2.flatMap (e83 true)))])]) [(.ag [(.sl true a0.f0.length 1 (a0.f0.flatMap encI)), (I a0.f1), (.sl true a0.f2.length 2 (a0.f2.flatMap (e83 true)))]), (.ag [(.sl true (at_ a0.f2 x4).f0.length 2 ((at_ a0.f2 x4).f0.flatMap e93)), (.sl true (at_ a0.f2 x4).f1.length 1 ((at_ a0.f2 x4).f1.flatMap encI))])] ⟨55, [(.ag [(.sl true a0.f0.length 1 (a0.f0.flatMap encI)), (I a0.f1), (.sl true a0.f2.length 2 (a0.f2.flatMap (e83 true)))]), (.ag [(.sl true (at_ a0.f2 x4).f0.length 2 ((at_ a0.f2 x4).f0.flatMap e93)), (.sl true (at_ a0.f2 x4).f1.length 1 ((at_ a0.f2 x4).f1.flatMap encI))])], [], (B x5), [], [], [], [], (B x5), []⟩], [⟨55, [(.ag [(.sl true a0.f0.length 1 (a0.f0.flatMap encI)), (I a0.f1), (.sl true a0.f2.length 2 (a0.f2.flatMap (e83 true)))]), (.ag [(.sl true (at_ a0.f2 x4).f0.length 2 ((at_ a0.f2 x4).f0.flatMap e93)), (.sl true (at_ a0.f2 x4).f1.length 1 ((at_ a0.f2 x4).f1.flatMap encI))])], [], (B x5), [], [], [], [], (B x5), []⟩]⟩ [c_ 3913, b_ 3, c_ 979, l_ 122, b_ 2, c_ 31] (alc ⟨rfl, by decide⟩ (alc ⟨c8, c7⟩ (alc (ldC (e83_ok true) 1 (by decide) rfl c8 c7) (alc (okIj (e83_ok true) c8 c7 (by decide)) (alc (bF (dF c9)) (alc ⟨rfl, by decide⟩ (alc ⟨c8, c7⟩ (alc (ldC (e83_ok true) 0 (by decide) rfl c8 c7) (alc (okIj (e83_ok true) c8 c7 (by decide)) (alc (bF (dF c10)) (alc ⟨rfl, by decide⟩ (alc ⟨rfl, by decide⟩ (alc ⟨c8, c7⟩ (alc (ldA (e83_ok true) rfl rfl c8 c7) (alc (okI (e83_ok true) c8 c7 (by decide)) (alc (cok0 false (a2c (.z (frz_ag (a2c (frz_sl encI_ok (fun h => h)) (a2c .s (a2c (frz_sl (e83_ok true) (fun h => h)) a2n))))) (a2c (.z (frz_ag (a2c (frz_sl e93_ok (fun h => h)) (a2c (frz_sl encI_ok (fun h => h)) a2n)))) a2n)) (.z .s) (fun h => absurd h (by decide))) aln)))))))))))))))) (acal (spec_l06Route.J k a0 (at_ a0.f2 x4) _ hx5) nocal) ?_
            by_cases c11 : x5 = true
            · rw [if_pos c11] at h
              refine .cond' (.tmp 72) false [c_ 979, l_ 122, b_ 2, c_ 31] (bF (nF c11)) ?_
              refine .reg' [1, 4] [] ⟨[(1, (.pt 256 0 3)), (4, (I (wrap64 (x4 + 1))))], [(256, [(.sl true a0.f0.length 1 (a0.f0.flatMap encI)), (I a0.f1), (.sl true a0.f2.length 2 (a0.f2.flatMap (e83 true)))])], [], []⟩ [l_ 122, b_ 2, c_ 31] aln nocal ?_
              exact ih1 a0 (wrap64 (x4 + 1)) _ h
            · rw [if_neg c11] at h
              refine .cond' (.tmp 72) true [c_ 15652, c_ 15653, b_ 3, c_ 979, l_ 122, b_ 2, c_ 31] (bT (nT (vF c11))) ?_
              refine .reg' [2] [] ⟨[(2, (B false))], [(256, [(.sl true a0.f0.length 1 (a0.f0.flatMap encI)), (I a0.f1), (.sl true a0.f2.length 2 (a0.f2.flatMap (e83 true)))])], [], []⟩ [c_ 15653, b_ 3, c_ 979, l_ 122, b_ 2, c_ 31] aln nocal ?_
              have h := Option.some.inj h
              subst h
              exact .fin0 [] (B false) [] aln (.z .s)
      · rw [if_neg c8] at h
        cases h
    · rw [if_neg c7] at h
      refine .cond' (.tmp 42) false [c_ 62, c_ 63] (bF (dF c7)) ?_
      refine .reg' [2] [] ⟨[(2, (B true))], [(256, [(.sl true a0.f0.length 1 (a0.f0.flatMap encI)), (I a0.f1), (.sl true a0.f2.length 2 (a0.f2.flatMap (e83 true)))])], [], []⟩ [c_ 63] aln nocal ?_
      have h := Option.some.inj h
      subst h
      exact .fin0 [] (B true) [] aln (.z .s)
theorem spec_PlantOk.J (k : Nat) (a0 : S29) (r : Bool) (h : spec_PlantOk.f k a0 = some r) : J prog (.call 11 [(.ag [(.sl true a0.f0.length 1 (a0.f0.flatMap encI)), (I a0.f1), (.sl true a0.f2.length 2 (a0.f2.flatMap (e83 true)))])] [] (B r) []) := by
  unfold spec_PlantOk.f at h
  obtain ⟨ih0, ih1⟩ := spec_PlantOk.lab k
  refine .call' [c_ 2, c_ 3] ?_
  refine .reg' [1] [] ⟨[(1, (.pt 256 0 3))], [(256, [(.sl true a0.f0.length 1 (a0.f0.flatMap encI)), (I a0.f1), (.sl true a0.f2.length 2 (a0.f2.flatMap (e83 true)))])], [], []⟩ [c_ 12, c_ 13, c_ 7] aln nocal ?_
  by_cases c1 : (a0.f0.length : Int) > 16
  · rw [if_pos c1] at h
    refine .reg' [1, 20] [.no, .no, .no, .no, .v (B true)] ⟨[(1, (.pt 256 0 3)), (20, (B true))], [(256, [(.sl true a0.f0.length 1 (a0.f0.flatMap encI)), (I a0.f1), (.sl true a0.f2.length 2 (a0.f2.flatMap (e83 true)))])], [3 = 3 ∧ 0 + 1 ≤ 3, (B (decide ((a0.f0.length : Int) > 16)) : V) = B true], []⟩ [c_ 13, c_ 7] (alc ⟨rfl, by decide⟩ (alc (bT (dT c1)) aln)) nocal ?_
    refine .cond' (.tmp 20) true [c_ 52, c_ 53, c_ 7] (rfl) ?_
    refine .reg' [2] [] ⟨[(2, (B false))], [(256, [(.sl true a0.f0.length 1 (a0.f0.flatMap encI)), (I a0.f1), (.sl true a0.f2.length 2 (a0.f2.flatMap (e83 true)))])], [], []⟩ [c_ 53, c_ 7] aln nocal ?_
    have h := Option.some.inj h
    subst h
    exact .fin0 [] (B false) [] aln (.z .s)
  · rw [if_neg c1] at h
    obtain ⟨x1, hx1, h⟩ := Option.bind_eq_some_iff.mp h
    by_cases c2 : x1 = true
    · rw [if_pos c2] at h
      refine .reg' [1, 20] [.no, .no, .no, .no, .v (B false), .no, .no, .c ⟨54, [(I a0.f1), (I 1), (I 24)], [], (B x1), [], [], [], [], (B x1), []⟩, .no, .no, .v (B false)] ⟨[(1, (.pt 256 0 3)), (20, (B (decide ((a0.f2.length : Int) > 12))))], [(256, [(.sl true a0.f0.length 1 (a0.f0.flatMap encI)), (I a0.f1), (.sl true a0.f2.length 2 (a0.f2.flatMap (e83 true)))])], [3 = 3 ∧ 0 + 1 ≤ 3, (B (decide ((a0.f0.length : Int) > 16)) : V) = B false, 3 = 3 ∧ 1 + 1 ≤ 3, COK (hget [(256, [(.sl true a0.f0.length 1 (a0.f0.flatMap encI)), (I a0.f1), (.sl true a0.f2.length 2 (a0.f2.flatMap (e83 true)))])]) [(I a0.f1), (I 1), (I 24)] ⟨54, [(I a0.f1), (I 1), (I 24)], [], (B x1), [], [], [], [], (B x1), []⟩, (B (!x1) : V) = B false, 3 = 3 ∧ 2 + 1 ≤ 3], [⟨54, [(I a0.f1), (I 1), (I 24)], [], (B x1), [], [], [], [], (B x1), []⟩]⟩ [c_ 13, c_ 7] (alc ⟨rfl, by decide⟩ (alc (bF (dF c1)) (alc ⟨rfl, by decide⟩ (alc (cok0 false (a2c (.z .s) (a2c (.z .s) (a2c (.z .s) a2n))) (.z .s) (fun h => absurd h (by decide))) (alc (bF (nF c2)) (alc ⟨rfl, by decide⟩ aln)))))) (acal (spec_l01In.J a0.f1 1 24 _ hx1) nocal) ?_
      by_cases c3 : (a0.f2.length : Int) > 12
      · rw [if_pos c3] at h
        refine .cond' (.tmp 20) true [c_ 52, c_ 53, c_ 7] (bT (dT c3)) ?_
        refine .reg' [2] [] ⟨[(2, (B false))], [(256, [(.sl true a0.f0.length 1 (a0.f0.flatMap encI)), (I a0.f1), (.sl true a0.f2.length 2 (a0.f2.flatMap (e83 true)))])], [], []⟩ [c_ 53, c_ 7] aln nocal ?_
        have h := Option.some.inj h
        subst h
        exact .fin0 [] (B false) [] aln (.z .s)
      · rw [if_neg c3] at h
        refine .cond' (.tmp 20) false [c_ 28, c_ 29, c_ 15] (bF (dF c3)) ?_
        refine .reg' [1, 3] [] ⟨[(1, (.pt 256 0 3)), (3, (I 0))], [(256, [(.sl true a0.f0.length 1 (a0.f0.flatMap encI)), (I a0.f1), (.sl true a0.f2.length 2 (a0.f2.flatMap (e83 true)))])], [], []⟩ [l_ 58, b_ 0, c_ 15] aln nocal ?_
        exact ih0 a0 0 _ h
    · rw [if_neg c2] at h
      refine .reg' [1, 20] [.no, .no, .no, .no, .v (B false), .no, .no, .c ⟨54, [(I a0.f1), (I 1), (I 24)], [], (B x1), [], [], [], [], (B x1), []⟩, .no, .no, .v (B true)] ⟨[(1, (.pt 256 0 3)), (20, (B true))], [(256, [(.sl true a0.f0.length 1 (a0.f0.flatMap encI)), (I a0.f1), (.sl true a0.f2.length 2 (a0.f2.flatMap (e83 true)))])], [3 = 3 ∧ 0 + 1 ≤ 3, (B (decide ((a0.f0.length : Int) > 16)) : V) = B false, 3 = 3 ∧ 1 + 1 ≤ 3, COK (hget [(256, [(.sl true a0.f0.length 1 (a0.f0.flatMap encI)), (I a0.f1), (.sl true a0.f2.length 2 (a0.f2.flatMap (e83 true)))])]) [(I a0.f1), (I 1), (I 24)] ⟨54, [(I a0.f1), (I 1), (I 24)], [], (B x1), [], [], [], [], (B x1), []⟩, (B (!x1) : V) = B true], [⟨54, [(I a0.f1), (I 1), (I 24)], [], (B x1), [], [], [], [], (B x1), []⟩]⟩ [c_ 13, c_ 7] (alc ⟨rfl, by decide⟩ (alc (bF (dF c1)) (alc ⟨rfl, by decide⟩ (alc (cok0 false (a2c (.z .s) (a2c (.z .s) (a2c (.z .s) a2n))) (.z .s) (fun h => absurd h (by decide))) (alc (bT (nT (vF c2))) aln))))) (acal (spec_l01In.J a0.f1 1 24 _ hx1) nocal) ?_
      refine .cond' (.tmp 20) true [c_ 52, c_ 53, c_ 7] (rfl) ?_
      refine .reg' [2] [] ⟨[(2, (B false))], [(256, [(.sl true a0.f0.length 1 (a0.f0.flatMap encI)), (I a0.f1), (.sl true a0.f2.length 2 (a0.f2.flatMap (e83 true)))])], [], []⟩ [c_ 53, c_ 7] aln nocal ?_
      have h := Option.some.inj h
      subst h
      exact .fin0 [] (B false) [] aln (.z .s)
/-! spec_Bare: function 17 -/
mutual
def spec_Bare.l0 : Nat → S29 → (List Int) → Int → Option S37
 | 0, _, _, _ => none
 | k + 1, a0, x2, x3 => (if x3 < (a0.f0.length : Int) then (if (x2.length + ([0] : List Int).length) * 8 ≤ 70368744177664 then (spec_Bare.l0 k a0 (x2 ++ ([0] : List Int)) (wrap64 (x3 + 1))) else none) else (spec_Bare.l1 k a0 x2 ([] : List Bool) 0))
def spec_Bare.l1 : Nat → S29 → (List Int) → (List Bool) → Int → Option S37
 | 0, _, _, _, _ => none
 | k + 1, a0, x2, x4, x5 => (if x5 < (a0.f2.length : Int) then (if (x4.length + ([false] : List Bool).length) * 1 ≤ 70368744177664 then (spec_Bare.l1 k a0 x2 (x4 ++ ([false] : List Bool)) (wrap64 (x5 + 1))) else none) else (spec_Bare.l2 k a0 x2 x4 ([] : List Bool) 0))
def spec_Bare.l2 : Nat → S29 → (List Int) → (List Bool) → (List Bool) → Int → Option S37
 | 0, _, _, _, _, _ => none
 | k + 1, a0, x2, x4, x6, x7 => (if x7 < a0.f1 then (if (x6.length + ([false] : List Bool).length) * 1 ≤ 70368744177664 then (spec_Bare.l2 k a0 x2 x4 (x6 ++ ([false] : List Bool)) (wrap64 (x7 + 1))) else none) else (some (⟨x2, x4, x6⟩ : S37)))
end
def spec_Bare.f (k : Nat) (a0 : S29) : Option S37 := ((spec_PlantOk.f k a0).bind fun x1 => (if x1 = true then (spec_Bare.l0 k a0 ([] : List Int) 0) else (some (⟨([] : List Int), ([] : List Bool), ([] : List Bool)⟩ : S37))))
theorem spec_Bare.lab : ∀ k, (∀ (a0 : S29) (x2 : (List Int)) (x3 : Int) (r : S37), spec_Bare.l0 k a0 x2 x3 = some r → J prog (.run 17 [] [l_ 122, b_ 0, c_ 31] [(1, (.pt 256 0 3)), (2, (.pt 257 0 3)), (3, (.pt 513 0 3)), (4, (I x3))] [(3008208, (x2.flatMap encI)), (256, [(.sl true a0.f0.length 1 (a0.f0.flatMap encI)), (I a0.f1), (.sl true a0.f2.length 2 (a0.f2.flatMap (e83 true)))]), (257, [nilS, nilS, nilS]), (513, [(.rf 3008208 0 x2.length 1 (x2.length * 1)), nilS, nilS])] (.ag [(.rf 3008208 0 r.f0.length 1 (r.f0.length * 1)), (.rf 3008209 0 r.f1.length 1 (r.f1.length * 1)), (.rf 3008210 0 r.f2.length 1 (r.f2.length * 1))]) [(3008208, (r.f0.flatMap encI)), (3008209, (r.f1.flatMap encB)), (3008210, (r.f2.flatMap encB))])) ∧ (∀ (a0 : S29) (x2 : (List Int)) (x4 : (List Bool)) (x5 : Int) (r : S37), spec_Bare.l1 k a0 x2 x4 x5 = some r → J prog (.run 17 [] [l_ 250, b_ 2, c_ 63] [(1, (.pt 256 0 3)), (2, (.pt 257 0 3)), (3, (.pt 513 0 3)), (5, (I x5))] [(3008209, (x4.flatMap encB)), (3008208, (x2.flatMap encI)), (256, [(.sl true a0.f0.length 1 (a0.f0.flatMap encI)), (I a0.f1), (.sl true a0.f2.length 2 (a0.f2.flatMap (e83 true)))]), (257, [nilS, nilS, nilS]), (513, [(.rf 3008208 0 x2.length 1 (x2.length * 1)), (.rf 3008209 0 x4.length 1 (x4.length * 1)), nilS])] (.ag [(.rf 3008208 0 r.f0.length 1 (r.f0.length * 1)), (.rf 3008209 0 r.f1.length 1 (r.f1.length * 1)), (.rf 3008210 0 r.f2.length 1 (r.f2.length * 1))]) [(3008208, (r.f0.flatMap encI)), (3008209, (r.f1.flatMap encB)), (3008210, (r.f2.flatMap encB))])) ∧ (∀ (a0 : S29) (x2 : (List Int)) (x4 : (List Bool)) (x6 : (List Bool)) (x7 : Int) (r : S37), spec_Bare.l2 k a0 x2 x4 x6 x7 = some r → J prog (.run 17 [] [l_ 506, b_ 4, c_ 127] [(1, (.pt 256 0 3)), (2, (.pt 257 0 3)), (3, (.pt 513 0 3)), (6, (I x7))] [(3008210, (x6.flatMap encB)), (3008209, (x4.flatMap encB)), (3008208, (x2.flatMap encI)), (256, [(.sl true a0.f0.length 1 (a0.f0.flatMap encI)), (I a0.f1), (.sl true a0.f2.length 2 (a0.f2.flatMap (e83 true)))]), (257, [nilS, nilS, nilS]), (513, [(.rf 3008208 0 x2.length 1 (x2.length * 1)), (.rf 3008209 0 x4.length 1 (x4.length * 1)), (.rf 3008210 0 x6.length 1 (x6.length * 1))])] (.ag [(.rf 3008208 0 r.f0.length 1 (r.f0.length * 1)), (.rf 3008209 0 r.f1.length 1 (r.f1.length * 1)), (.rf 3008210 0 r.f2.length 1 (r.f2.length * 1))]) [(3008208, (r.f0.flatMap encI)), (3008209, (r.f1.flatMap encB)), (3008210, (r.f2.flatMap encB))]))
 | 0 => ⟨(by intro a0 x2 x3 r h; unfold spec_Bare.l0 at h; cases h), (by intro a0 x2 x4 x5 r h; unfold spec_Bare.l1 at h; cases h), (by intro a0 x2 x4 x6 x7 r h; unfold spec_Bare.l2 at h; cases h)⟩
 | k + 1 => by
  obtain ⟨ih0, ih1, ih2⟩ := spec_Bare.lab k
  refine ⟨?_, ?_, ?_⟩
  · intro a0 x2 x3 r h
    unfold spec_Bare.l0 at h
    refine .loop' [c_ 976, c_ 977, c_ 489, l_ 122, b_ 0, c_ 31] ?_
    refine .reg' [1, 2, 3, 4, 16] [] ⟨[(1, (.pt 256 0 3)), (2, (.pt 257 0 3)), (3, (.pt 513 0 3)), (4, (I x3)), (16, (B (decide (x3 < (a0.f0.length : Int)))))], [(3008208, (x2.flatMap encI)), (256, [(.sl true a0.f0.length 1 (a0.f0.flatMap encI)), (I a0.f1), (.sl true a0.f2.length 2 (a0.f2.flatMap (e83 true)))]), (257, [nilS, nilS, nilS]), (513, [(.rf 3008208 0 x2.length 1 (x2.length * 1)), nilS, nilS])], [3 = 3 ∧ 0 + 1 ≤ 3], []⟩ [c_ 977, c_ 489, l_ 122, b_ 0, c_ 31] (alc ⟨rfl, by decide⟩ aln) nocal ?_
    by_cases c2 : x3 < (a0.f0.length : Int)
    · rw [if_pos c2] at h
      refine .cond' (.tmp 16) true [c_ 1956, b_ 1, c_ 979, l_ 122, b_ 0, c_ 31] (bT (dT c2)) ?_
      by_cases c3 : (x2.length + ([0] : List Int).length) * 8 ≤ 70368744177664
      · rw [if_pos c3] at h
        refine .reg' [1, 2, 3, 4] [.no, .no, .no, .w (.rf 3008208 0 ((x2 ++ ([0] : List Int)).length) 1 ((x2 ++ ([0] : List Int)).length * 1)) ((x2 ++ ([0] : List Int)).flatMap encI)] ⟨[(1, (.pt 256 0 3)), (2, (.pt 257 0 3)), (3, (.pt 513 0 3)), (4, (I x3))], [(3008208, ((x2 ++ ([0] : List Int)).flatMap encI)), (256, [(.sl true a0.f0.length 1 (a0.f0.flatMap encI)), (I a0.f1), (.sl true a0.f2.length 2 (a0.f2.flatMap (e83 true)))]), (257, [nilS, nilS, nilS]), (513, [(.rf 3008208 0 ((x2 ++ ([0] : List Int)).length) 1 ((x2 ++ ([0] : List Int)).length * 1)), nilS, nilS]), (2050, (([0] : List Int).flatMap encI))], [3 = 3 ∧ 0 + 1 ≤ 3, V.rf 3008208 0 (x2.length + ([0] : List Int).length) 1 (x2.length * 1 + ([0] : List Int).length * 1) = (.rf 3008208 0 ((x2 ++ ([0] : List Int)).length) 1 ((x2 ++ ([0] : List Int)).length * 1)), x2.flatMap encI ++ (((([0] : List Int).flatMap encI).drop 0).take (([0] : List Int).length * 1)) = ((x2 ++ ([0] : List Int)).flatMap encI), (([0] : List Int).length * 1 = (([0] : List Int).flatMap encI).length ∧ 0 + ([0] : List Int).length * 1 ≤ (([0] : List Int).flatMap encI).length) ∧ x2.length * 1 = (x2.flatMap encI).length ∧ x2.length * 1 = (x2.flatMap encI).length ∧ (x2.length + ([0] : List Int).length) * 8 ≤ 70368744177664, 3 = 3 ∧ 0 + 1 ≤ 3], []⟩ [c_ 979, l_ 122, b_ 0, c_ 31] (alc ⟨rfl, by decide⟩ (alc (apV rfl) (alc (apR encI_ok rfl) (alc (apO encI_ok rfl c3 rfl) (alc ⟨rfl, by decide⟩ aln))))) nocal ?_
        refine .reg' [1, 2, 3, 4] [] ⟨[(1, (.pt 256 0 3)), (2, (.pt 257 0 3)), (3, (.pt 513 0 3)), (4, (I (wrap64 (x3 + 1))))], [(3008208, ((x2 ++ ([0] : List Int)).flatMap encI)), (256, [(.sl true a0.f0.length 1 (a0.f0.flatMap encI)), (I a0.f1), (.sl true a0.f2.length 2 (a0.f2.flatMap (e83 true)))]), (257, [nilS, nilS, nilS]), (513, [(.rf 3008208 0 ((x2 ++ ([0] : List Int)).length) 1 ((x2 ++ ([0] : List Int)).length * 1)), nilS, nilS]), (2050, (([0] : List Int).flatMap encI))], [], []⟩ [l_ 122, b_ 0, c_ 31] aln nocal ?_
        refine .wk' [] [(3008208, 3008208), (256, 256), (257, 257), (513, 513)] [(1, (.pt 256 0 3)), (2, (.pt 257 0 3)), (3, (.pt 513 0 3)), (4, (I (wrap64 (x3 + 1))))] [(3008208, ((x2 ++ ([0] : List Int)).flatMap encI)), (256, [(.sl true a0.f0.length 1 (a0.f0.flatMap encI)), (I a0.f1), (.sl true a0.f2.length 2 (a0.f2.flatMap (e83 true)))]), (257, [nilS, nilS, nilS]), (513, [(.rf 3008208 0 ((x2 ++ ([0] : List Int)).length) 1 ((x2 ++ ([0] : List Int)).length * 1)), nilS, nilS])] (shc 3008208 (rowF encI_ok _) (shc 256 (a2c (.z (frz_sl encI_ok (fun h => h))) (a2c (.z .s) (a2c (.z (frz_sl (e83_ok true) (fun h => h))) a2n))) (shc 257 (a2c (.z .s) (a2c (.z .s) (a2c (.z .s) a2n))) (shc 513 (a2c (.rf (memP_mem (p := (3008208, 3008208)) rfl)) (a2c (.z .s) (a2c (.z .s) a2n))) shn)))) (enc_ (.pt (memP_mem (p := (256, 256)) rfl)) (enc_ (.pt (memP_mem (p := (257, 257)) rfl)) (enc_ (.pt (memP_mem (p := (513, 513)) rfl)) (enc_ (.z .s) enn)))) ?_
        exact ih0 a0 (x2 ++ ([0] : List Int)) (wrap64 (x3 + 1)) _ h
      · rw [if_neg c3] at h
        cases h
    · rw [if_neg c2] at h
      refine .cond' (.tmp 16) false [c_ 124, c_ 125, c_ 63] (bF (dF c2)) ?_
      refine .reg' [1, 2, 3, 5] [] ⟨[(1, (.pt 256 0 3)), (2, (.pt 257 0 3)), (3, (.pt 513 0 3)), (5, (I 0))], [(3008208, (x2.flatMap encI)), (256, [(.sl true a0.f0.length 1 (a0.f0.flatMap encI)), (I a0.f1), (.sl true a0.f2.length 2 (a0.f2.flatMap (e83 true)))]), (257, [nilS, nilS, nilS]), (513, [(.rf 3008208 0 x2.length 1 (x2.length * 1)), nilS, nilS])], [], []⟩ [l_ 250, b_ 2, c_ 63] aln nocal ?_
      refine .nl' 3008209 ?_
      refine .wk' [] [(3008209, 3008209), (3008208, 3008208), (256, 256), (257, 257), (513, 513)] [(1, (.pt 256 0 3)), (2, (.pt 257 0 3)), (3, (.pt 513 0 3)), (5, (I 0))] [(3008209, (([] : List Bool).flatMap encB)), (3008208, (x2.flatMap encI)), (256, [(.sl true a0.f0.length 1 (a0.f0.flatMap encI)), (I a0.f1), (.sl true a0.f2.length 2 (a0.f2.flatMap (e83 true)))]), (257, [nilS, nilS, nilS]), (513, [(.rf 3008208 0 x2.length 1 (x2.length * 1)), (.rf 3008209 0 (([] : List Bool).length) 1 (([] : List Bool).length * 1)), nilS])] (shc 3008209 (rowF encB_ok _) (shc 3008208 (rowF encI_ok _) (shc 256 (a2c (.z (frz_sl encI_ok (fun h => h))) (a2c (.z .s) (a2c (.z (frz_sl (e83_ok true) (fun h => h))) a2n))) (shc 257 (a2c (.z .s) (a2c (.z .s) (a2c (.z .s) a2n))) (shc 513 (a2c (.rf (memP_mem (p := (3008208, 3008208)) rfl)) (a2c (.nl (memP_mem (p := (3008209, 3008209)) rfl) rfl) (a2c (.z .s) a2n))) shn))))) (enc_ (.pt (memP_mem (p := (256, 256)) rfl)) (enc_ (.pt (memP_mem (p := (257, 257)) rfl)) (enc_ (.pt (memP_mem (p := (513, 513)) rfl)) (enc_ (.z .s) enn)))) ?_
      exact ih1 a0 x2 ([] : List Bool) 0 _ h
  · intro a0 x2 x4 x5 r h
    unfold spec_Bare.l1 at h
    refine .loop' [c_ 2000, c_ 2001, c_ 1001, l_ 250, b_ 2, c_ 63] ?_
    refine .reg' [1, 2, 3, 5, 28] [] ⟨[(1, (.pt 256 0 3)), (2, (.pt 257 0 3)), (3, (.pt 513 0 3)), (5, (I x5)), (28, (B (decide (x5 < (a0.f2.length : Int)))))], [(3008209, (x4.flatMap encB)), (3008208, (x2.flatMap encI)), (256, [(.sl true a0.f0.length 1 (a0.f0.flatMap encI)), (I a0.f1), (.sl true a0.f2.length 2 (a0.f2.flatMap (e83 true)))]), (257, [nilS, nilS, nilS]), (513, [(.rf 3008208 0 x2.length 1 (x2.length * 1)), (.rf 3008209 0 x4.length 1 (x4.length * 1)), nilS])], [3 = 3 ∧ 2 + 1 ≤ 3], []⟩ [c_ 2001, c_ 1001, l_ 250, b_ 2, c_ 63] (alc ⟨rfl, by decide⟩ aln) nocal ?_
    by_cases c4 : x5 < (a0.f2.length : Int)
    · rw [if_pos c4] at h
      refine .cond' (.tmp 28) true [c_ 4004, b_ 3, c_ 2003, l_ 250, b_ 2, c_ 63] (bT (dT c4)) ?_
      by_cases c5 : (x4.length + ([false] : List Bool).length) * 1 ≤ 70368744177664
      · rw [if_pos c5] at h
        refine .reg' [1, 2, 3, 5] [.no, .no, .no, .w (.rf 3008209 0 ((x4 ++ ([false] : List Bool)).length) 1 ((x4 ++ ([false] : List Bool)).length * 1)) ((x4 ++ ([false] : List Bool)).flatMap encB)] ⟨[(1, (.pt 256 0 3)), (2, (.pt 257 0 3)), (3, (.pt 513 0 3)), (5, (I x5))], [(3008209, ((x4 ++ ([false] : List Bool)).flatMap encB)), (3008208, (x2.flatMap encI)), (256, [(.sl true a0.f0.length 1 (a0.f0.flatMap encI)), (I a0.f1), (.sl true a0.f2.length 2 (a0.f2.flatMap (e83 true)))]), (257, [nilS, nilS, nilS]), (513, [(.rf 3008208 0 x2.length 1 (x2.length * 1)), (.rf 3008209 0 ((x4 ++ ([false] : List Bool)).length) 1 ((x4 ++ ([false] : List Bool)).length * 1)), nilS]), (3074, (([false] : List Bool).flatMap encB))], [3 = 3 ∧ 1 + 1 ≤ 3, V.rf 3008209 0 (x4.length + ([false] : List Bool).length) 1 (x4.length * 1 + ([false] : List Bool).length * 1) = (.rf 3008209 0 ((x4 ++ ([false] : List Bool)).length) 1 ((x4 ++ ([false] : List Bool)).length * 1)), x4.flatMap encB ++ (((([false] : List Bool).flatMap encB).drop 0).take (([false] : List Bool).length * 1)) = ((x4 ++ ([false] : List Bool)).flatMap encB), (([false] : List Bool).length * 1 = (([false] : List Bool).flatMap encB).length ∧ 0 + ([false] : List Bool).length * 1 ≤ (([false] : List Bool).flatMap encB).length) ∧ x4.length * 1 = (x4.flatMap encB).length ∧ x4.length * 1 = (x4.flatMap encB).length ∧ (x4.length + ([false] : List Bool).length) * 1 ≤ 70368744177664, 3 = 3 ∧ 1 + 1 ≤ 3], []⟩ [c_ 2003, l_ 250, b_ 2, c_ 63] (alc ⟨rfl, by decide⟩ (alc (apV rfl) (alc (apR encB_ok rfl) (alc (apO encB_ok rfl c5 rfl) (alc ⟨rfl, by decide⟩ aln))))) nocal ?_
        refine .reg' [1, 2, 3, 5] [] ⟨[(1, (.pt 256 0 3)), (2, (.pt 257 0 3)), (3, (.pt 513 0 3)), (5, (I (wrap64 (x5 + 1))))], [(3008209, ((x4 ++ ([false] : List Bool)).flatMap encB)), (3008208, (x2.flatMap encI)), (256, [(.sl true a0.f0.length 1 (a0.f0.flatMap encI)), (I a0.f1), (.sl true a0.f2.length 2 (a0.f2.flatMap (e83 true)))]), (257, [nilS, nilS, nilS]), (513, [(.rf 3008208 0 x2.length 1 (x2.length * 1)), (.rf 3008209 0 ((x4 ++ ([false] : List Bool)).length) 1 ((x4 ++ ([false] : List Bool)).length * 1)), nilS]), (3074, (([false] : List Bool).flatMap encB))], [], []⟩ [l_ 250, b_ 2, c_ 63] aln nocal ?_
        refine .wk' [] [(3008209, 3008209), (3008208, 3008208), (256, 256), (257, 257), (513, 513)] [(1, (.pt 256 0 3)), (2, (.pt 257 0 3)), (3, (.pt 513 0 3)), (5, (I (wrap64 (x5 + 1))))] [(3008209, ((x4 ++ ([false] : List Bool)).flatMap encB)), (3008208, (x2.flatMap encI)), (256, [(.sl true a0.f0.length 1 (a0.f0.flatMap encI)), (I a0.f1), (.sl true a0.f2.length 2 (a0.f2.flatMap (e83 true)))]), (257, [nilS, nilS, nilS]), (513, [(.rf 3008208 0 x2.length 1 (x2.length * 1)), (.rf 3008209 0 ((x4 ++ ([false] : List Bool)).length) 1 ((x4 ++ ([false] : List Bool)).length * 1)), nilS])] (shc 3008209 (rowF encB_ok _) (shc 3008208 (rowF encI_ok _) (shc 256 (a2c (.z (frz_sl encI_ok (fun h => h))) (a2c (.z .s) (a2c (.z (frz_sl (e83_ok true) (fun h => h))) a2n))) (shc 257 (a2c (.z .s) (a2c (.z .s) (a2c (.z .s) a2n))) (shc 513 (a2c (.rf (memP_mem (p := (3008208, 3008208)) rfl)) (a2c (.rf (memP_mem (p := (3008209, 3008209)) rfl)) (a2c (.z .s) a2n))) shn))))) (enc_ (.pt (memP_mem (p := (256, 256)) rfl)) (enc_ (.pt (memP_mem (p := (257, 257)) rfl)) (enc_ (.pt (memP_mem (p := (513, 513)) rfl)) (enc_ (.z .s) enn)))) ?_
        exact ih1 a0 x2 (x4 ++ ([false] : List Bool)) (wrap64 (x5 + 1)) _ h
      · rw [if_neg c5] at h
        cases h
    · rw [if_neg c4] at h
      refine .cond' (.tmp 28) false [c_ 252, c_ 253, c_ 127] (bF (dF c4)) ?_
      refine .reg' [1, 2, 3, 6] [] ⟨[(1, (.pt 256 0 3)), (2, (.pt 257 0 3)), (3, (.pt 513 0 3)), (6, (I 0))], [(3008209, (x4.flatMap encB)), (3008208, (x2.flatMap encI)), (256, [(.sl true a0.f0.length 1 (a0.f0.flatMap encI)), (I a0.f1), (.sl true a0.f2.length 2 (a0.f2.flatMap (e83 true)))]), (257, [nilS, nilS, nilS]), (513, [(.rf 3008208 0 x2.length 1 (x2.length * 1)), (.rf 3008209 0 x4.length 1 (x4.length * 1)), nilS])], [], []⟩ [l_ 506, b_ 4, c_ 127] aln nocal ?_
      refine .nl' 3008210 ?_
      refine .wk' [] [(3008210, 3008210), (3008209, 3008209), (3008208, 3008208), (256, 256), (257, 257), (513, 513)] [(1, (.pt 256 0 3)), (2, (.pt 257 0 3)), (3, (.pt 513 0 3)), (6, (I 0))] [(3008210, (([] : List Bool).flatMap encB)), (3008209, (x4.flatMap encB)), (3008208, (x2.flatMap encI)), (256, [(.sl true a0.f0.length 1 (a0.f0.flatMap encI)), (I a0.f1), (.sl true a0.f2.length 2 (a0.f2.flatMap (e83 true)))]), (257, [nilS, nilS, nilS]), (513, [(.rf 3008208 0 x2.length 1 (x2.length * 1)), (.rf 3008209 0 x4.length 1 (x4.length * 1)), (.rf 3008210 0 (([] : List Bool).length) 1 (([] : List Bool).length * 1))])] (shc 3008210 (rowF encB_ok _) (shc 3008209 (rowF encB_ok _) (shc 3008208 (rowF encI_ok _) (shc 256 (a2c (.z (frz_sl encI_ok (fun h => h))) (a2c (.z .s) (a2c (.z (frz_sl (e83_ok true) (fun h => h))) a2n))) (shc 257 (a2c (.z .s) (a2c (.z .s) (a2c (.z .s) a2n))) (shc 513 (a2c (.rf (memP_mem (p := (3008208, 3008208)) rfl)) (a2c (.rf (memP_mem (p := (3008209, 3008209)) rfl)) (a2c (.nl (memP_mem (p := (3008210, 3008210)) rfl) rfl) a2n))) shn)))))) (enc_ (.pt (memP_mem (p := (256, 256)) rfl)) (enc_ (.pt (memP_mem (p := (257, 257)) rfl)) (enc_ (.pt (memP_mem (p := (513, 513)) rfl)) (enc_ (.z .s) enn)))) ?_
      exact ih2 a0 x2 x4 ([] : List Bool) 0 _ h
  · intro a0 x2 x4 x6 x7 r h
    unfold spec_Bare.l2 at h
    refine .loop' [c_ 4048, c_ 4049, c_ 2025, l_ 506, b_ 4, c_ 127] ?_
    refine .reg' [1, 2, 3, 6, 39] [] ⟨[(1, (.pt 256 0 3)), (2, (.pt 257 0 3)), (3, (.pt 513 0 3)), (6, (I x7)), (39, (B (decide (x7 < a0.f1))))], [(3008210, (x6.flatMap encB)), (3008209, (x4.flatMap encB)), (3008208, (x2.flatMap encI)), (256, [(.sl true a0.f0.length 1 (a0.f0.flatMap encI)), (I a0.f1), (.sl true a0.f2.length 2 (a0.f2.flatMap (e83 true)))]), (257, [nilS, nilS, nilS]), (513, [(.rf 3008208 0 x2.length 1 (x2.length * 1)), (.rf 3008209 0 x4.length 1 (x4.length * 1)), (.rf 3008210 0 x6.length 1 (x6.length * 1))])], [3 = 3 ∧ 1 + 1 ≤ 3], []⟩ [c_ 4049, c_ 2025, l_ 506, b_ 4, c_ 127] (alc ⟨rfl, by decide⟩ aln) nocal ?_
    by_cases c6 : x7 < a0.f1
    · rw [if_pos c6] at h
      refine .cond' (.tmp 39) true [c_ 8100, b_ 5, c_ 4051, l_ 506, b_ 4, c_ 127] (bT (dT c6)) ?_
      by_cases c7 : (x6.length + ([false] : List Bool).length) * 1 ≤ 70368744177664
      · rw [if_pos c7] at h
        refine .reg' [1, 2, 3, 6] [.no, .no, .no, .w (.rf 3008210 0 ((x6 ++ ([false] : List Bool)).length) 1 ((x6 ++ ([false] : List Bool)).length * 1)) ((x6 ++ ([false] : List Bool)).flatMap encB)] ⟨[(1, (.pt 256 0 3)), (2, (.pt 257 0 3)), (3, (.pt 513 0 3)), (6, (I x7))], [(3008210, ((x6 ++ ([false] : List Bool)).flatMap encB)), (3008209, (x4.flatMap encB)), (3008208, (x2.flatMap encI)), (256, [(.sl true a0.f0.length 1 (a0.f0.flatMap encI)), (I a0.f1), (.sl true a0.f2.length 2 (a0.f2.flatMap (e83 true)))]), (257, [nilS, nilS, nilS]), (513, [(.rf 3008208 0 x2.length 1 (x2.length * 1)), (.rf 3008209 0 x4.length 1 (x4.length * 1)), (.rf 3008210 0 ((x6 ++ ([false] : List Bool)).length) 1 ((x6 ++ ([false] : List Bool)).length * 1))]), (4098, (([false] : List Bool).flatMap encB))], [3 = 3 ∧ 2 + 1 ≤ 3, V.rf 3008210 0 (x6.length + ([false] : List Bool).length) 1 (x6.length * 1 + ([false] : List Bool).length * 1) = (.rf 3008210 0 ((x6 ++ ([false] : List Bool)).length) 1 ((x6 ++ ([false] : List Bool)).length * 1)), x6.flatMap encB ++ (((([false] : List Bool).flatMap encB).drop 0).take (([false] : List Bool).length * 1)) = ((x6 ++ ([false] : List Bool)).flatMap encB), (([false] : List Bool).length * 1 = (([false] : List Bool).flatMap encB).length ∧ 0 + ([false] : List Bool).length * 1 ≤ (([false] : List Bool).flatMap encB).length) ∧ x6.length * 1 = (x6.flatMap encB).length ∧ x6.length * 1 = (x6.flatMap encB).length ∧ (x6.length + ([false] : List Bool).length) * 1 ≤ 70368744177664, 3 = 3 ∧ 2 + 1 ≤ 3], []⟩ [c_ 4051, l_ 506, b_ 4, c_ 127] (alc ⟨rfl, by decide⟩ (alc (apV rfl) (alc (apR encB_ok rfl) (alc (apO encB_ok rfl c7 rfl) (alc ⟨rfl, by decide⟩ aln))))) nocal ?_
        refine .reg' [1, 2, 3, 6] [] ⟨[(1, (.pt 256 0 3)), (2, (.pt 257 0 3)), (3, (.pt 513 0 3)), (6, (I (wrap64 (x7 + 1))))], [(3008210, ((x6 ++ ([false] : List Bool)).flatMap encB)), (3008209, (x4.flatMap encB)), (3008208, (x2.flatMap encI)), (256, [(.sl true a0.f0.length 1 (a0.f0.flatMap encI)), (I a0.f1), (.sl true a0.f2.length 2 (a0.f2.flatMap (e83 true)))]), (257, [nilS, nilS, nilS]), (513, [(.rf 3008208 0 x2.length 1 (x2.length * 1)), (.rf 3008209 0 x4.length 1 (x4.length * 1)), (.rf 3008210 0 ((x6 ++ ([false] : List Bool)).length) 1 ((x6 ++ ([false] : List Bool)).length * 1))]), (4098, (([false] : List Bool).flatMap encB))], [], []⟩ [l_ 506, b_ 4, c_ 127] aln nocal ?_
        refine .wk' [] [(3008210, 3008210), (3008209, 3008209), (3008208, 3008208), (256, 256), (257, 257), (513, 513)] [(1, (.pt 256 0 3)), (2, (.pt 257 0 3)), (3, (.pt 513 0 3)), (6, (I (wrap64 (x7 + 1))))] [(3008210, ((x6 ++ ([false] : List Bool)).flatMap encB)), (3008209, (x4.flatMap encB)), (3008208, (x2.flatMap encI)), (256, [(.sl true a0.f0.length 1 (a0.f0.flatMap encI)), (I a0.f1), (.sl true a0.f2.length 2 (a0.f2.flatMap (e83 true)))]), (257, [nilS, nilS, nilS]), (513, [(.rf 3008208 0 x2.length 1 (x2.length * 1)), (.rf 3008209 0 x4.length 1 (x4.length * 1)), (.rf 3008210 0 ((x6 ++ ([false] : List Bool)).length) 1 ((x6 ++ ([false] : List Bool)).length * 1))])] (shc 3008210 (rowF encB_ok _) (shc 3008209 (rowF encB_ok _) (shc 3008208 (rowF encI_ok _) (shc 256 (a2c (.z (frz_sl encI_ok (fun h => h))) (a2c (.z .s) (a2c (.z (frz_sl (e83_ok true) (fun h => h))) a2n))) (shc 257 (a2c (.z .s) (a2c (.z .s) (a2c (.z .s) a2n))) (shc 513 (a2c (.rf (memP_mem (p := (3008208, 3008208)) rfl)) (a2c (.rf (memP_mem (p := (3008209, 3008209)) rfl)) (a2c (.rf (memP_mem (p := (3008210, 3008210)) rfl)) a2n))) shn)))))) (enc_ (.pt (memP_mem (p := (256, 256)) rfl)) (enc_ (.pt (memP_mem (p := (257, 257)) rfl)) (enc_ (.pt (memP_mem (p := (513, 513)) rfl)) (enc_ (.z .s) enn)))) ?_
        exact ih2 a0 x2 x4 (x6 ++ ([false] : List Bool)) (wrap64 (x7 + 1)) _ h
      · rw [if_neg c7] at h
        cases h
    · rw [if_neg c6] at h
      refine .cond' (.tmp 39) false [c_ 254, c_ 255] (bF (dF c6)) ?_
      refine .reg' [2] [] ⟨[(2, (.pt 257 0 3))], [(3008210, (x6.flatMap encB)), (3008209, (x4.flatMap encB)), (3008208, (x2.flatMap encI)), (256, [(.sl true a0.f0.length 1 (a0.f0.flatMap encI)), (I a0.f1), (.sl true a0.f2.length 2 (a0.f2.flatMap (e83 true)))]), (257, [(.rf 3008208 0 x2.length 1 (x2.length * 1)), (.rf 3008209 0 x4.length 1 (x4.length * 1)), (.rf 3008210 0 x6.length 1 (x6.length * 1))]), (513, [(.rf 3008208 0 x2.length 1 (x2.length * 1)), (.rf 3008209 0 x4.length 1 (x4.length * 1)), (.rf 3008210 0 x6.length 1 (x6.length * 1))])], [3 = 3 ∧ 0 + 3 ≤ 3, 3 = 3 ∧ 0 + 3 ≤ 3], []⟩ [c_ 255] (alc ⟨rfl, by decide⟩ (alc ⟨rfl, by decide⟩ aln)) nocal ?_
      have h := Option.some.inj h
      subst h
      exact .fin' [] [(3008208, 3008208), (3008209, 3008209), (3008210, 3008210)] (.ag [(.rf 3008208 0 x2.length 1 (x2.length * 1)), (.rf 3008209 0 x4.length 1 (x4.length * 1)), (.rf 3008210 0 x6.length 1 (x6.length * 1))]) [3 = 3 ∧ 0 + 3 ≤ 3] (alc ⟨rfl, by decide⟩ aln) (shc 3008208 (rowF encI_ok _) (shc 3008209 (rowF encB_ok _) (shc 3008210 (rowF encB_ok _) shn))) (cnv_ag (a2c (.rf (memP_mem (p := (3008208, 3008208)) rfl)) (a2c (.rf (memP_mem (p := (3008209, 3008209)) rfl)) (a2c (.rf (memP_mem (p := (3008210, 3008210)) rfl)) a2n))))
theorem spec_Bare.J (k : Nat) (a0 : S29) (r : S37) (h : spec_Bare.f k a0 = some r) : J prog (.call 17 [(.ag [(.sl true a0.f0.length 1 (a0.f0.flatMap encI)), (I a0.f1), (.sl true a0.f2.length 2 (a0.f2.flatMap (e83 true)))])] [] (.ag [(.rf 3008208 0 r.f0.length 1 (r.f0.length * 1)), (.rf 3008209 0 r.f1.length 1 (r.f1.length * 1)), (.rf 3008210 0 r.f2.length 1 (r.f2.length * 1))]) [(3008208, (r.f0.flatMap encI)), (3008209, (r.f1.flatMap encB)), (3008210, (r.f2.flatMap encB))]) := by
  unfold spec_Bare.f at h
  obtain ⟨ih0, ih1, ih2⟩ := spec_Bare.lab k
  refine .call' [c_ 2, c_ 3] ?_
  refine .reg' [1, 2] [] ⟨[(1, (.pt 256 0 3)), (2, (.pt 257 0 3))], [(256, [(.sl true a0.f0.length 1 (a0.f0.flatMap encI)), (I a0.f1), (.sl true a0.f2.length 2 (a0.f2.flatMap (e83 true)))]), (257, [nilS, nilS, nilS])], [], []⟩ [c_ 6, c_ 7] aln nocal ?_
  refine .reg' [1, 2, 3] [] ⟨[(1, (.pt 256 0 3)), (2, (.pt 257 0 3)), (3, (.pt 513 0 3))], [(256, [(.sl true a0.f0.length 1 (a0.f0.flatMap encI)), (I a0.f1), (.sl true a0.f2.length 2 (a0.f2.flatMap (e83 true)))]), (257, [nilS, nilS, nilS]), (513, [nilS, nilS, nilS])], [3 = 3 ∧ 0 + 3 ≤ 3], []⟩ [c_ 28, c_ 29, c_ 15] (alc ⟨rfl, by decide⟩ aln) nocal ?_
  obtain ⟨x1, hx1, h⟩ := Option.bind_eq_some_iff.mp h
  refine .reg' [1, 2, 3, 10] [.no, .c ⟨11, [(.ag [(.sl true a0.f0.length 1 (a0.f0.flatMap encI)), (I a0.f1), (.sl true a0.f2.length 2 (a0.f2.flatMap (e83 true)))])], [], (B x1), [], [], [], [], (B x1), []⟩] ⟨[(1, (.pt 256 0 3)), (2, (.pt 257 0 3)), (3, (.pt 513 0 3)), (10, (B (!x1)))], [(256, [(.sl true a0.f0.length 1 (a0.f0.flatMap encI)), (I a0.f1), (.sl true a0.f2.length 2 (a0.f2.flatMap (e83 true)))]), (257, [nilS, nilS, nilS]), (513, [nilS, nilS, nilS])], [3 = 3 ∧ 0 + 3 ≤ 3, COK (hget [(256, [(.sl true a0.f0.length 1 (a0.f0.flatMap encI)), (I a0.f1), (.sl true a0.f2.length 2 (a0.f2.flatMap (e83 true)))]), (257, [nilS, nilS, nilS]), (513, [nilS, nilS, nilS])]) [(.ag [(.sl true a0.f0.length 1 (a0.f0.flatMap encI)), (I a0.f1), (.sl true a0.f2.length 2 (a0.f2.flatMap (e83 true)))])] ⟨11, [(.ag [(.sl true a0.f0.length 1 (a0.f0.flatMap encI)), (I a0.f1), (.sl true a0.f2.length 2 (a0.f2.flatMap (e83 true)))])], [], (B x1), [], [], [], [], (B x1), []⟩], [⟨11, [(.ag [(.sl true a0.f0.length 1 (a0.f0.flatMap encI)), (I a0.f1), (.sl true a0.f2.length 2 (a0.f2.flatMap (e83 true)))])], [], (B x1), [], [], [], [], (B x1), []⟩]⟩ [c_ 29, c_ 15] (alc ⟨rfl, by decide⟩ (alc (cok0 false (a2c (.z (frz_ag (a2c (frz_sl encI_ok (fun h => h)) (a2c .s (a2c (frz_sl (e83_ok true) (fun h => h)) a2n))))) a2n) (.z .s) (fun h => absurd h (by decide))) aln)) (acal (spec_PlantOk.J k a0 _ hx1) nocal) ?_
  by_cases c1 : x1 = true
  · rw [if_pos c1] at h
    refine .cond' (.tmp 10) false [c_ 60, c_ 61, c_ 31] (bF (nF c1)) ?_
    refine .reg' [1, 2, 3, 4] [] ⟨[(1, (.pt 256 0 3)), (2, (.pt 257 0 3)), (3, (.pt 513 0 3)), (4, (I 0))], [(256, [(.sl true a0.f0.length 1 (a0.f0.flatMap encI)), (I a0.f1), (.sl true a0.f2.length 2 (a0.f2.flatMap (e83 true)))]), (257, [nilS, nilS, nilS]), (513, [nilS, nilS, nilS])], [], []⟩ [l_ 122, b_ 0, c_ 31] aln nocal ?_
    refine .nl' 3008208 ?_
    refine .wk' [] [(3008208, 3008208), (256, 256), (257, 257), (513, 513)] [(1, (.pt 256 0 3)), (2, (.pt 257 0 3)), (3, (.pt 513 0 3)), (4, (I 0))] [(3008208, (([] : List Int).flatMap encI)), (256, [(.sl true a0.f0.length 1 (a0.f0.flatMap encI)), (I a0.f1), (.sl true a0.f2.length 2 (a0.f2.flatMap (e83 true)))]), (257, [nilS, nilS, nilS]), (513, [(.rf 3008208 0 (([] : List Int).length) 1 (([] : List Int).length * 1)), nilS, nilS])] (shc 3008208 (rowF encI_ok _) (shc 256 (a2c (.z (frz_sl encI_ok (fun h => h))) (a2c (.z .s) (a2c (.z (frz_sl (e83_ok true) (fun h => h))) a2n))) (shc 257 (a2c (.z .s) (a2c (.z .s) (a2c (.z .s) a2n))) (shc 513 (a2c (.nl (memP_mem (p := (3008208, 3008208)) rfl) rfl) (a2c (.z .s) (a2c (.z .s) a2n))) shn)))) (enc_ (.pt (memP_mem (p := (256, 256)) rfl)) (enc_ (.pt (memP_mem (p := (257, 257)) rfl)) (enc_ (.pt (memP_mem (p := (513, 513)) rfl)) (enc_ (.z .s) enn)))) ?_
    exact ih0 a0 ([] : List Int) 0 _ h
  · rw [if_neg c1] at h
    refine .cond' (.tmp 10) true [c_ 116, c_ 117, c_ 15] (bT (nT (vF c1))) ?_
    refine .reg' [2] [] ⟨[(2, (.pt 257 0 3))], [(256, [(.sl true a0.f0.length 1 (a0.f0.flatMap encI)), (I a0.f1), (.sl true a0.f2.length 2 (a0.f2.flatMap (e83 true)))]), (257, [nilS, nilS, nilS]), (513, [nilS, nilS, nilS])], [3 = 3 ∧ 0 + 3 ≤ 3, 3 = 3 ∧ 0 + 3 ≤ 3], []⟩ [c_ 117, c_ 15] (alc ⟨rfl, by decide⟩ (alc ⟨rfl, by decide⟩ aln)) nocal ?_
    have h := Option.some.inj h
    subst h
    refine .nl' 3008208 ?_
    refine .nl' 3008209 ?_
    refine .nl' 3008210 ?_
    exact .fin' [] [(3008208, 3008208), (3008209, 3008209), (3008210, 3008210)] (.ag [nilS, nilS, nilS]) [3 = 3 ∧ 0 + 3 ≤ 3] (alc ⟨rfl, by decide⟩ aln) (shc 3008208 (rowF encI_ok _) (shc 3008209 (rowF encB_ok _) (shc 3008210 (rowF encB_ok _) shn))) (cnv_ag (a2c (.nl (memP_mem (p := (3008208, 3008208)) rfl) rfl) (a2c (.nl (memP_mem (p := (3008209, 3008209)) rfl) rfl) (a2c (.nl (memP_mem (p := (3008210, 3008210)) rfl) rfl) a2n))))
/-! impl_between: function 57 -/
def impl_between.f (a0 : Int) (a1 : Int) (a2 : Int) : Option Bool := (if a0 ≥ a1 then (some (decide (a0 ≤ a2))) else (some false))
theorem impl_between.J (a0 : Int) (a1 : Int) (a2 : Int) (r : Bool) (h : impl_between.f a0 a1 a2 = some r) : J prog (.call 57 [(I a0), (I a1), (I a2)] [] (B r) []) := by
  unfold impl_between.f at h
  refine .call' [c_ 2, c_ 3] ?_
  refine .reg' [0, 1, 2] [] ⟨[(0, (I a0)), (1, (I a1)), (2, (I a2))], [], [], []⟩ [c_ 6, c_ 7] aln nocal ?_
  by_cases c1 : a0 ≥ a1
  · rw [if_pos c1] at h
    refine .reg' [6] [.no, .no, .no, .v (B true)] ⟨[(6, (B (decide (a0 ≤ a2))))], [], [(B (decide (a0 ≥ a1)) : V) = B true], []⟩ [c_ 7] (alc (bT (dT c1)) aln) nocal ?_
    have h := Option.some.inj h
    subst h
    exact .fin0 [] (B (decide (a0 ≤ a2))) [] aln (.z .s)
  · rw [if_neg c1] at h
    refine .reg' [6] [.no, .no, .no, .v (B false)] ⟨[(6, (B false))], [], [(B (decide (a0 ≥ a1)) : V) = B false], []⟩ [c_ 7] (alc (bF (dF c1)) aln) nocal ?_
    have h := Option.some.inj h
    subst h
    exact .fin0 [] (B false) [] aln (.z .s)
/-! impl_has: function 100 -/
def impl_has.l0 : Nat → (List Int) → Int → Int → Option Bool
 | 0, _, _, _ => none
 | k + 1, a0, a1, x1 => (if x1 < (a0.length : Int) then (if 0 ≤ x1 then (if (at_ a0 x1) = a1 then (some true) else (impl_has.l0 k a0 a1 (wrap64 (x1 + 1)))) else none) else (some false))
def impl_has.f (k : Nat) (a0 : (List Int)) (a1 : Int) : Option Bool := (impl_has.l0 k a0 a1 0)
theorem impl_has.lab : ∀ k, (∀ (a0 : (List Int)) (a1 : Int) (x1 : Int) (r : Bool), impl_has.l0 k a0 a1 x1 = some r → J prog (.run 100 [] [l_ 26, b_ 0, c_ 7] [(1, (I a1)), (7, (.sl true a0.length 1 (a0.flatMap encI))), (8, (I (a0.length : Int))), (9, (I x1))] [] (B r) []))
 | 0 => (by intro a0 a1 x1 r h; unfold impl_has.l0 at h; cases h)
 | k + 1 => by
  have ih0 := impl_has.lab k
  · intro a0 a1 x1 r h
    unfold impl_has.l0 at h
    refine .loop' [c_ 104, c_ 105, l_ 26, b_ 0, c_ 7] ?_
    refine .reg' [1, 7, 8, 9, 10] [] ⟨[(1, (I a1)), (7, (.sl true a0.length 1 (a0.flatMap encI))), (8, (I (a0.length : Int))), (9, (I x1)), (10, (B (decide (x1 < (a0.length : Int)))))], [], [], []⟩ [c_ 210, c_ 211, l_ 26, b_ 0, c_ 7] aln nocal ?_
    by_cases c1 : x1 < (a0.length : Int)
    · rw [if_pos c1] at h
      refine .cond' (.tmp 10) true [c_ 1688, c_ 1689, b_ 1, c_ 423, l_ 26, b_ 0, c_ 7] (bT (dT c1)) ?_
      by_cases c2 : 0 ≤ x1
      · rw [if_pos c2] at h
        refine .reg' [1, 6, 7, 8, 9] [.no, .v (I (at_ a0 x1))] ⟨[(1, (I a1)), (6, (I (at_ a0 x1))), (7, (.sl true a0.length 1 (a0.flatMap encI))), (8, (I (a0.length : Int))), (9, (I x1))], [], [(0 : Int) ≤ x1 ∧ x1 < (a0.length : Int), rdC prog 3 ((a0.flatMap encI).drop (x1.toNat * 1)) = (I (at_ a0 x1)), 1 ≤ ((a0.flatMap encI).drop (x1.toNat * 1)).length], []⟩ [c_ 3378, c_ 3379, b_ 1, c_ 423, l_ 26, b_ 0, c_ 7] (alc ⟨c2, c1⟩ (alc (ldC1 encI_ok rfl c2 c1) (alc (okI encI_ok c2 c1 (by decide)) aln))) nocal ?_
        refine .reg' [1, 7, 8, 9, 15] [] ⟨[(1, (I a1)), (7, (.sl true a0.length 1 (a0.flatMap encI))), (8, (I (a0.length : Int))), (9, (I x1)), (15, (B ((at_ a0 x1) == a1)))], [], [], []⟩ [c_ 3379, b_ 1, c_ 423, l_ 26, b_ 0, c_ 7] aln nocal ?_
        by_cases c3 : (at_ a0 x1) = a1
        · rw [if_pos c3] at h
          refine .cond' (.tmp 15) true [c_ 13516, c_ 13517, b_ 1, c_ 423, l_ 26, b_ 0, c_ 7] (bT (qT c3)) ?_
          refine .reg' [4] [] ⟨[(4, (B true))], [], [], []⟩ [c_ 13517, b_ 1, c_ 423, l_ 26, b_ 0, c_ 7] aln nocal ?_
          have h := Option.some.inj h
          subst h
          exact .fin0 [] (B true) [] aln (.z .s)
        · rw [if_neg c3] at h
          refine .cond' (.tmp 15) false [c_ 423, l_ 26, b_ 0, c_ 7] (bF (qF c3)) ?_
          refine .reg' [1, 7, 8, 9] [] ⟨[(1, (I a1)), (7, (.sl true a0.length 1 (a0.flatMap encI))), (8, (I (a0.length : Int))), (9, (I (wrap64 (x1 + 1))))], [], [], []⟩ [l_ 26, b_ 0, c_ 7] aln nocal ?_
          exact ih0 a0 a1 (wrap64 (x1 + 1)) _ h
      · rw [if_neg c2] at h
        cases h
    · rw [if_neg c1] at h
      refine .cond' (.tmp 10) false [c_ 14, c_ 15] (bF (dF c1)) ?_
      refine .reg' [4] [] ⟨[(4, (B false))], [], [], []⟩ [c_ 15] aln nocal ?_
      have h := Option.some.inj h
      subst h
      exact .fin0 [] (B false) [] aln (.z .s)
theorem impl_has.J (k : Nat) (a0 : (List Int)) (a1 : Int) (r : Bool) (h : impl_has.f k a0 a1 = some r) : J prog (.call 100 [(.sl true a0.length 1 (a0.flatMap encI)), (I a1)] [] (B r) []) := by
  unfold impl_has.f at h
  have ih0 := impl_has.lab k
  refine .call' [c_ 2, c_ 3] ?_
  refine .reg' [0, 1] [] ⟨[(0, (.sl true a0.length 1 (a0.flatMap encI))), (1, (I a1))], [], [], []⟩ [c_ 12, c_ 13, c_ 7] aln nocal ?_
  refine .reg' [1, 7, 8, 9] [] ⟨[(1, (I a1)), (7, (.sl true a0.length 1 (a0.flatMap encI))), (8, (I (a0.length : Int))), (9, (I 0))], [], [], []⟩ [l_ 26, b_ 0, c_ 7] aln nocal ?_
  exact ih0 a0 a1 0 _ h
/-! impl_routeOk: function 58 -/
mutual
def impl_routeOk.l0 : Nat → S29 → S83 → Int → Option Bool
 | 0, _, _, _ => none
 | k + 1, a0, a1, x1 => (if x1 < (a1.f0.length : Int) then (if 0 ≤ x1 then ((impl_between.f ((at_ a1.f0 x1).f0) 0 (wrap64 ((a0.f0.length : Int) - 1))).bind fun x2 => (if x2 = true then ((impl_between.f ((at_ a1.f0 x1).f1) 0 1).bind fun x3 => (if x3 = true then (if x1 > 0 then (if 0 ≤ (wrap64 (x1 - 1)) then (if (wrap64 (x1 - 1)) < (a1.f0.length : Int) then (if (at_ a1.f0 (wrap64 (x1 - 1))).f0 ≥ (at_ a1.f0 x1).f0 then (some false) else (impl_routeOk.l0 k a0 a1 (wrap64 (x1 + 1)))) else none) else none) else (impl_routeOk.l0 k a0 a1 (wrap64 (x1 + 1)))) else (some false))) else (some false))) else none) else (if (a1.f1.length : Int) < 1 then (some false) else (if (a1.f1.length : Int) > a0.f1 then (some false) else (impl_routeOk.l1 k a0 a1 0))))
def impl_routeOk.l1 : Nat → S29 → S83 → Int → Option Bool
 | 0, _, _, _ => none
 | k + 1, a0, a1, x4 => (if x4 < (a1.f1.length : Int) then (if 0 ≤ x4 then ((impl_between.f (at_ a1.f1 x4) 0 (wrap64 (a0.f1 - 1))).bind fun x5 => (if x5 = true then (if x4 ≤ (a1.f1.length : Int) then ((impl_has.f k ((a1.f1.drop (0 : Int).toNat).take (x4.toNat - (0 : Int).toNat)) (at_ a1.f1 x4)).bind fun x6 => (if x6 = true then (some false) else (impl_routeOk.l1 k a0 a1 (wrap64 (x4 + 1))))) else none) else (some false))) else none) else (some true))
end
def impl_routeOk.f (k : Nat) (a0 : S29) (a1 : S83) : Option Bool := (impl_routeOk.l0 k a0 a1 0)
end Go.Proofs.Ytjfjifnmfnlfoaa.Fns
