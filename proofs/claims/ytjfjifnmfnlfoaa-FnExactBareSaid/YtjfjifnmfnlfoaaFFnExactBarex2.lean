/- The functions that the law FnExactBare reaches, by the engine. Printed by a program of this seat. -/
import Derived.Test.YtjfjifnmfnlfoaaE5
import Derived.Test.YtjfjifnmfnlfoaaProg
import Derived.Test.YtjfjifnmfnlfoaaFFnExactBarex1
namespace Go.Proofs.Ytjfjifnmfnlfoaa.Fns
open Go.Proofs.Try Go.Proofs.Ytjfjifnmfnlfoaa.Eng Go.RowKit
set_option maxRecDepth 100000
set_option linter.unusedVariables false
set_option linter.unusedSimpArgs false
theorem impl_routeOk.lab : ∀ k, (∀ (a0 : S29) (a1 : S83) (x1 : Int) (r : Bool), impl_routeOk.l0 k a0 a1 x1 = some r → J prog (.run 58 [] [l_ 26, b_ 0, c_ 7] [(2, (.pt 256 0 3)), (3, (.pt 257 0 2)), (10, (.sl true a1.f0.length 2 (a1.f0.flatMap e93))), (11, (I (a1.f0.length : Int))), (12, (I x1))] [(256, [(.sl true a0.f0.length 1 (a0.f0.flatMap encI)), (I a0.f1), (.sl true a0.f2.length 2 (a0.f2.flatMap (e83 true)))]), (257, [(.sl true a1.f0.length 2 (a1.f0.flatMap e93)), (.sl true a1.f1.length 1 (a1.f1.flatMap encI))])] (B r) [])) ∧ (∀ (a0 : S29) (a1 : S83) (x4 : Int) (r : Bool), impl_routeOk.l1 k a0 a1 x4 = some r → J prog (.run 58 [] [l_ 122, b_ 2, c_ 31] [(2, (.pt 256 0 3)), (3, (.pt 257 0 2)), (61, (.sl true a1.f1.length 1 (a1.f1.flatMap encI))), (62, (I (a1.f1.length : Int))), (63, (I x4))] [(256, [(.sl true a0.f0.length 1 (a0.f0.flatMap encI)), (I a0.f1), (.sl true a0.f2.length 2 (a0.f2.flatMap (e83 true)))]), (257, [(.sl true a1.f0.length 2 (a1.f0.flatMap e93)), (.sl true a1.f1.length 1 (a1.f1.flatMap encI))])] (B r) []))
 | 0 => ⟨(by intro a0 a1 x1 r h; unfold impl_routeOk.l0 at h; cases h), (by intro a0 a1 x4 r h; unfold impl_routeOk.l1 at h; cases h)⟩
 | k + 1 => by
  obtain ⟨ih0, ih1⟩ := impl_routeOk.lab k
  refine ⟨?_, ?_⟩
  · intro a0 a1 x1 r h
    unfold impl_routeOk.l0 at h
    refine .loop' [c_ 104, c_ 105, l_ 26, b_ 0, c_ 7] ?_
    refine .reg' [2, 3, 10, 11, 12, 13] [] ⟨[(2, (.pt 256 0 3)), (3, (.pt 257 0 2)), (10, (.sl true a1.f0.length 2 (a1.f0.flatMap e93))), (11, (I (a1.f0.length : Int))), (12, (I x1)), (13, (B (decide (x1 < (a1.f0.length : Int)))))], [(256, [(.sl true a0.f0.length 1 (a0.f0.flatMap encI)), (I a0.f1), (.sl true a0.f2.length 2 (a0.f2.flatMap (e83 true)))]), (257, [(.sl true a1.f0.length 2 (a1.f0.flatMap e93)), (.sl true a1.f1.length 1 (a1.f1.flatMap encI))])], [], []⟩ [c_ 210, c_ 211, l_ 26, b_ 0, c_ 7] aln nocal ?_
    by_cases c1 : x1 < (a1.f0.length : Int)
    · rw [if_pos c1] at h
      refine .cond' (.tmp 13) true [c_ 1688, c_ 1689, b_ 1, c_ 423, l_ 26, b_ 0, c_ 7] (bT (dT c1)) ?_
      by_cases c2 : 0 ≤ x1
      · rw [if_pos c2] at h
        refine .reg' [2, 3, 5, 6, 10, 11, 12] [.no, .no, .v (.ag [(I (at_ a1.f0 x1).f0), (I (at_ a1.f0 x1).f1)])] ⟨[(2, (.pt 256 0 3)), (3, (.pt 257 0 2)), (5, (I x1)), (6, (.pt 1027 0 2)), (10, (.sl true a1.f0.length 2 (a1.f0.flatMap e93))), (11, (I (a1.f0.length : Int))), (12, (I x1))], [(256, [(.sl true a0.f0.length 1 (a0.f0.flatMap encI)), (I a0.f1), (.sl true a0.f2.length 2 (a0.f2.flatMap (e83 true)))]), (257, [(.sl true a1.f0.length 2 (a1.f0.flatMap e93)), (.sl true a1.f1.length 1 (a1.f1.flatMap encI))]), (1027, [(I (at_ a1.f0 x1).f0), (I (at_ a1.f0 x1).f1)])], [(0 : Int) ≤ x1 ∧ x1 < (a1.f0.length : Int), rdC prog 94 ((a1.f0.flatMap e93).drop (x1.toNat * 2)) = (.ag [(I (at_ a1.f0 x1).f0), (I (at_ a1.f0 x1).f1)]), 2 ≤ ((a1.f0.flatMap e93).drop (x1.toNat * 2)).length, 2 = 2 ∧ 0 + 2 ≤ 2], []⟩ [c_ 3378, c_ 3379, b_ 1, c_ 423, l_ 26, b_ 0, c_ 7] (alc ⟨c2, c1⟩ (alc (ldA e93_ok rfl rfl c2 c1) (alc (okI e93_ok c2 c1 (by decide)) (alc ⟨rfl, by decide⟩ aln)))) nocal ?_
        obtain ⟨x2, hx2, h⟩ := Option.bind_eq_some_iff.mp h
        by_cases c3 : x2 = true
        · rw [if_pos c3] at h
          obtain ⟨x3, hx3, h⟩ := Option.bind_eq_some_iff.mp h
          by_cases c4 : x3 = true
          · rw [if_pos c4] at h
            by_cases c5 : x1 > 0
            · rw [if_pos c5] at h
              by_cases c6 : 0 ≤ (wrap64 (x1 - 1))
              · rw [if_pos c6] at h
                by_cases c7 : (wrap64 (x1 - 1)) < (a1.f0.length : Int)
                · rw [if_pos c7] at h
                  refine .reg' [2, 3, 10, 11, 12, 46] [.no, .no, .no, .no, .no, .no, .c ⟨57, [(I (at_ a1.f0 x1).f0), (I 0), (I (wrap64 ((a0.f0.length : Int) - 1)))], [], (B x2), [], [], [], [], (B x2), []⟩, .no, .v (B false), .no, .no, .c ⟨57, [(I (at_ a1.f0 x1).f1), (I 0), (I 1)], [], (B x3), [], [], [], [], (B x3), []⟩, .no, .no, .v (B false), .no, .no, .v (B true), .no, .no, .no, .no, .no, .no, .v (I (at_ a1.f0 (wrap64 (x1 - 1))).f0)] ⟨[(2, (.pt 256 0 3)), (3, (.pt 257 0 2)), (10, (.sl true a1.f0.length 2 (a1.f0.flatMap e93))), (11, (I (a1.f0.length : Int))), (12, (I x1)), (46, (B (decide ((at_ a1.f0 (wrap64 (x1 - 1))).f0 ≥ (at_ a1.f0 x1).f0))))], [(256, [(.sl true a0.f0.length 1 (a0.f0.flatMap encI)), (I a0.f1), (.sl true a0.f2.length 2 (a0.f2.flatMap (e83 true)))]), (257, [(.sl true a1.f0.length 2 (a1.f0.flatMap e93)), (.sl true a1.f1.length 1 (a1.f1.flatMap encI))]), (1027, [(I (at_ a1.f0 x1).f0), (I (at_ a1.f0 x1).f1)])], [2 = 2 ∧ 0 + 1 ≤ 2, 3 = 3 ∧ 0 + 1 ≤ 3, COK (hget [(256, [(.sl true a0.f0.length 1 (a0.f0.flatMap encI)), (I a0.f1), (.sl true a0.f2.length 2 (a0.f2.flatMap (e83 true)))]), (257, [(.sl true a1.f0.length 2 (a1.f0.flatMap e93)), (.sl true a1.f1.length 1 (a1.f1.flatMap encI))]), (1027, [(I (at_ a1.f0 x1).f0), (I (at_ a1.f0 x1).f1)])]) [(I (at_ a1.f0 x1).f0), (I 0), (I (wrap64 ((a0.f0.length : Int) - 1)))] ⟨57, [(I (at_ a1.f0 x1).f0), (I 0), (I (wrap64 ((a0.f0.length : Int) - 1)))], [], (B x2), [], [], [], [], (B x2), []⟩, (B (!x2) : V) = B false, 2 = 2 ∧ 1 + 1 ≤ 2, COK (hget [(256, [(.sl true a0.f0.length 1 (a0.f0.flatMap encI)), (I a0.f1), (.sl true a0.f2.length 2 (a0.f2.flatMap (e83 true)))]), (257, [(.sl true a1.f0.length 2 (a1.f0.flatMap e93)), (.sl true a1.f1.length 1 (a1.f1.flatMap encI))]), (1027, [(I (at_ a1.f0 x1).f0), (I (at_ a1.f0 x1).f1)])]) [(I (at_ a1.f0 x1).f1), (I 0), (I 1)] ⟨57, [(I (at_ a1.f0 x1).f1), (I 0), (I 1)], [], (B x3), [], [], [], [], (B x3), []⟩, (B (!x3) : V) = B false, (B (decide (x1 > 0)) : V) = B true, 2 = 2 ∧ 0 + 1 ≤ 2, (0 : Int) ≤ (wrap64 (x1 - 1)) ∧ (wrap64 (x1 - 1)) < (a1.f0.length : Int), rdC prog 3 (((a1.f0.flatMap e93).drop ((wrap64 (x1 - 1)).toNat * 2)).drop 0) = (I (at_ a1.f0 (wrap64 (x1 - 1))).f0), 1 ≤ (((a1.f0.flatMap e93).drop ((wrap64 (x1 - 1)).toNat * 2)).drop 0).length, 2 = 2 ∧ 0 + 1 ≤ 2], [⟨57, [(I (at_ a1.f0 x1).f0), (I 0), (I (wrap64 ((a0.f0.length : Int) - 1)))], [], (B x2), [], [], [], [], (B x2), []⟩, ⟨57, [(I (at_ a1.f0 x1).f1), (I 0), (I 1)], [], (B x3), [], [], [], [], (B x3), []⟩]⟩ [c_ 3379, b_ 1, c_ 423, l_ 26, b_ 0, c_ 7] (alc ⟨rfl, by decide⟩ (alc ⟨rfl, by decide⟩ (alc (cok0 false (a2c (.z .s) (a2c (.z .s) (a2c (.z .s) a2n))) (.z .s) (fun h => absurd h (by decide))) (alc (bF (nF c3)) (alc ⟨rfl, by decide⟩ (alc (cok0 false (a2c (.z .s) (a2c (.z .s) (a2c (.z .s) a2n))) (.z .s) (fun h => absurd h (by decide))) (alc (bF (nF c4)) (alc (bT (dT c5)) (alc ⟨rfl, by decide⟩ (alc ⟨c6, c7⟩ (alc (ldC e93_ok 0 (by decide) rfl c6 c7) (alc (okIj e93_ok c6 c7 (by decide)) (alc ⟨rfl, by decide⟩ aln))))))))))))) (acal (impl_between.J ((at_ a1.f0 x1).f0) 0 (wrap64 ((a0.f0.length : Int) - 1)) _ hx2) (acal (impl_between.J ((at_ a1.f0 x1).f1) 0 1 _ hx3) nocal)) ?_
                  by_cases c8 : (at_ a1.f0 (wrap64 (x1 - 1))).f0 ≥ (at_ a1.f0 x1).f0
                  · rw [if_pos c8] at h
                    refine .cond' (.tmp 46) true [c_ 13516, c_ 13517, b_ 1, c_ 423, l_ 26, b_ 0, c_ 7] (bT (dT c8)) ?_
                    refine .reg' [4] [] ⟨[(4, (B false))], [(256, [(.sl true a0.f0.length 1 (a0.f0.flatMap encI)), (I a0.f1), (.sl true a0.f2.length 2 (a0.f2.flatMap (e83 true)))]), (257, [(.sl true a1.f0.length 2 (a1.f0.flatMap e93)), (.sl true a1.f1.length 1 (a1.f1.flatMap encI))]), (1027, [(I (at_ a1.f0 x1).f0), (I (at_ a1.f0 x1).f1)])], [], []⟩ [c_ 13517, b_ 1, c_ 423, l_ 26, b_ 0, c_ 7] aln nocal ?_
                    have h := Option.some.inj h
                    subst h
                    exact .fin0 [] (B false) [] aln (.z .s)
                  · rw [if_neg c8] at h
                    refine .cond' (.tmp 46) false [c_ 423, l_ 26, b_ 0, c_ 7] (bF (dF c8)) ?_
                    refine .reg' [2, 3, 10, 11, 12] [] ⟨[(2, (.pt 256 0 3)), (3, (.pt 257 0 2)), (10, (.sl true a1.f0.length 2 (a1.f0.flatMap e93))), (11, (I (a1.f0.length : Int))), (12, (I (wrap64 (x1 + 1))))], [(256, [(.sl true a0.f0.length 1 (a0.f0.flatMap encI)), (I a0.f1), (.sl true a0.f2.length 2 (a0.f2.flatMap (e83 true)))]), (257, [(.sl true a1.f0.length 2 (a1.f0.flatMap e93)), (.sl true a1.f1.length 1 (a1.f1.flatMap encI))]), (1027, [(I (at_ a1.f0 x1).f0), (I (at_ a1.f0 x1).f1)])], [], []⟩ [l_ 26, b_ 0, c_ 7] aln nocal ?_
                    refine .wk' [] [(256, 256), (257, 257)] [(2, (.pt 256 0 3)), (3, (.pt 257 0 2)), (10, (.sl true a1.f0.length 2 (a1.f0.flatMap e93))), (11, (I (a1.f0.length : Int))), (12, (I (wrap64 (x1 + 1))))] [(256, [(.sl true a0.f0.length 1 (a0.f0.flatMap encI)), (I a0.f1), (.sl true a0.f2.length 2 (a0.f2.flatMap (e83 true)))]), (257, [(.sl true a1.f0.length 2 (a1.f0.flatMap e93)), (.sl true a1.f1.length 1 (a1.f1.flatMap encI))])] (shc 256 (a2c (.z (frz_sl encI_ok (fun h => h))) (a2c (.z .s) (a2c (.z (frz_sl (e83_ok true) (fun h => h))) a2n))) (shc 257 (a2c (.z (frz_sl e93_ok (fun h => h))) (a2c (.z (frz_sl encI_ok (fun h => h))) a2n)) shn)) (enc_ (.pt (memP_mem (p := (256, 256)) rfl)) (enc_ (.pt (memP_mem (p := (257, 257)) rfl)) (enc_ (.z (frz_sl e93_ok (fun h => h))) (enc_ (.z .s) (enc_ (.z .s) enn))))) ?_
                    exact ih0 a0 a1 (wrap64 (x1 + 1)) _ h
                · rw [if_neg c7] at h
                  cases h
              · rw [if_neg c6] at h
                cases h
            · rw [if_neg c5] at h
              refine .reg' [2, 3, 10, 11, 12, 46] [.no, .no, .no, .no, .no, .no, .c ⟨57, [(I (at_ a1.f0 x1).f0), (I 0), (I (wrap64 ((a0.f0.length : Int) - 1)))], [], (B x2), [], [], [], [], (B x2), []⟩, .no, .v (B false), .no, .no, .c ⟨57, [(I (at_ a1.f0 x1).f1), (I 0), (I 1)], [], (B x3), [], [], [], [], (B x3), []⟩, .no, .no, .v (B false), .no, .no, .v (B false)] ⟨[(2, (.pt 256 0 3)), (3, (.pt 257 0 2)), (10, (.sl true a1.f0.length 2 (a1.f0.flatMap e93))), (11, (I (a1.f0.length : Int))), (12, (I x1)), (46, (B false))], [(256, [(.sl true a0.f0.length 1 (a0.f0.flatMap encI)), (I a0.f1), (.sl true a0.f2.length 2 (a0.f2.flatMap (e83 true)))]), (257, [(.sl true a1.f0.length 2 (a1.f0.flatMap e93)), (.sl true a1.f1.length 1 (a1.f1.flatMap encI))]), (1027, [(I (at_ a1.f0 x1).f0), (I (at_ a1.f0 x1).f1)])], [2 = 2 ∧ 0 + 1 ≤ 2, 3 = 3 ∧ 0 + 1 ≤ 3, COK (hget [(256, [(.sl true a0.f0.length 1 (a0.f0.flatMap encI)), (I a0.f1), (.sl true a0.f2.length 2 (a0.f2.flatMap (e83 true)))]), (257, [(.sl true a1.f0.length 2 (a1.f0.flatMap e93)), (.sl true a1.f1.length 1 (a1.f1.flatMap encI))]), (1027, [(I (at_ a1.f0 x1).f0), (I (at_ a1.f0 x1).f1)])]) [(I (at_ a1.f0 x1).f0), (I 0), (I (wrap64 ((a0.f0.length : Int) - 1)))] ⟨57, [(I (at_ a1.f0 x1).f0), (I 0), (I (wrap64 ((a0.f0.length : Int) - 1)))], [], (B x2), [], [], [], [], (B x2), []⟩, (B (!x2) : V) = B false, 2 = 2 ∧ 1 + 1 ≤ 2, COK (hget [(256, [(.sl true a0.f0.length 1 (a0.f0.flatMap encI)), (I a0.f1), (.sl true a0.f2.length 2 (a0.f2.flatMap (e83 true)))]), (257, [(.sl true a1.f0.length 2 (a1.f0.flatMap e93)), (.sl true a1.f1.length 1 (a1.f1.flatMap encI))]), (1027, [(I (at_ a1.f0 x1).f0), (I (at_ a1.f0 x1).f1)])]) [(I (at_ a1.f0 x1).f1), (I 0), (I 1)] ⟨57, [(I (at_ a1.f0 x1).f1), (I 0), (I 1)], [], (B x3), [], [], [], [], (B x3), []⟩, (B (!x3) : V) = B false, (B (decide (x1 > 0)) : V) = B false], [⟨57, [(I (at_ a1.f0 x1).f0), (I 0), (I (wrap64 ((a0.f0.length : Int) - 1)))], [], (B x2), [], [], [], [], (B x2), []⟩, ⟨57, [(I (at_ a1.f0 x1).f1), (I 0), (I 1)], [], (B x3), [], [], [], [], (B x3), []⟩]⟩ [c_ 3379, b_ 1, c_ 423, l_ 26, b_ 0, c_ 7] (alc ⟨rfl, by decide⟩ (alc ⟨rfl, by decide⟩ (alc (cok0 false (a2c (.z .s) (a2c (.z .s) (a2c (.z .s) a2n))) (.z .s) (fun h => absurd h (by decide))) (alc (bF (nF c3)) (alc ⟨rfl, by decide⟩ (alc (cok0 false (a2c (.z .s) (a2c (.z .s) (a2c (.z .s) a2n))) (.z .s) (fun h => absurd h (by decide))) (alc (bF (nF c4)) (alc (bF (dF c5)) aln)))))))) (acal (impl_between.J ((at_ a1.f0 x1).f0) 0 (wrap64 ((a0.f0.length : Int) - 1)) _ hx2) (acal (impl_between.J ((at_ a1.f0 x1).f1) 0 1 _ hx3) nocal)) ?_
              refine .cond' (.tmp 46) false [c_ 423, l_ 26, b_ 0, c_ 7] (rfl) ?_
              refine .reg' [2, 3, 10, 11, 12] [] ⟨[(2, (.pt 256 0 3)), (3, (.pt 257 0 2)), (10, (.sl true a1.f0.length 2 (a1.f0.flatMap e93))), (11, (I (a1.f0.length : Int))), (12, (I (wrap64 (x1 + 1))))], [(256, [(.sl true a0.f0.length 1 (a0.f0.flatMap encI)), (I a0.f1), (.sl true a0.f2.length 2 (a0.f2.flatMap (e83 true)))]), (257, [(.sl true a1.f0.length 2 (a1.f0.flatMap e93)), (.sl true a1.f1.length 1 (a1.f1.flatMap encI))]), (1027, [(I (at_ a1.f0 x1).f0), (I (at_ a1.f0 x1).f1)])], [], []⟩ [l_ 26, b_ 0, c_ 7] aln nocal ?_
              refine .wk' [] [(256, 256), (257, 257)] [(2, (.pt 256 0 3)), (3, (.pt 257 0 2)), (10, (.sl true a1.f0.length 2 (a1.f0.flatMap e93))), (11, (I (a1.f0.length : Int))), (12, (I (wrap64 (x1 + 1))))] [(256, [(.sl true a0.f0.length 1 (a0.f0.flatMap encI)), (I a0.f1), (.sl true a0.f2.length 2 (a0.f2.flatMap (e83 true)))]), (257, [(.sl true a1.f0.length 2 (a1.f0.flatMap e93)), (.sl true a1.f1.length 1 (a1.f1.flatMap encI))])] (shc 256 (a2c (.z (frz_sl encI_ok (fun h => h))) (a2c (.z .s) (a2c (.z (frz_sl (e83_ok true) (fun h => h))) a2n))) (shc 257 (a2c (.z (frz_sl e93_ok (fun h => h))) (a2c (.z (frz_sl encI_ok (fun h => h))) a2n)) shn)) (enc_ (.pt (memP_mem (p := (256, 256)) rfl)) (enc_ (.pt (memP_mem (p := (257, 257)) rfl)) (enc_ (.z (frz_sl e93_ok (fun h => h))) (enc_ (.z .s) (enc_ (.z .s) enn))))) ?_
              exact ih0 a0 a1 (wrap64 (x1 + 1)) _ h
          · rw [if_neg c4] at h
            refine .reg' [2, 3, 10, 11, 12, 46] [.no, .no, .no, .no, .no, .no, .c ⟨57, [(I (at_ a1.f0 x1).f0), (I 0), (I (wrap64 ((a0.f0.length : Int) - 1)))], [], (B x2), [], [], [], [], (B x2), []⟩, .no, .v (B false), .no, .no, .c ⟨57, [(I (at_ a1.f0 x1).f1), (I 0), (I 1)], [], (B x3), [], [], [], [], (B x3), []⟩, .no, .no, .v (B true)] ⟨[(2, (.pt 256 0 3)), (3, (.pt 257 0 2)), (10, (.sl true a1.f0.length 2 (a1.f0.flatMap e93))), (11, (I (a1.f0.length : Int))), (12, (I x1)), (46, (B true))], [(256, [(.sl true a0.f0.length 1 (a0.f0.flatMap encI)), (I a0.f1), (.sl true a0.f2.length 2 (a0.f2.flatMap (e83 true)))]), (257, [(.sl true a1.f0.length 2 (a1.f0.flatMap e93)), (.sl true a1.f1.length 1 (a1.f1.flatMap encI))]), (1027, [(I (at_ a1.f0 x1).f0), (I (at_ a1.f0 x1).f1)])], [2 = 2 ∧ 0 + 1 ≤ 2, 3 = 3 ∧ 0 + 1 ≤ 3, COK (hget [(256, [(.sl true a0.f0.length 1 (a0.f0.flatMap encI)), (I a0.f1), (.sl true a0.f2.length 2 (a0.f2.flatMap (e83 true)))]), (257, [(.sl true a1.f0.length 2 (a1.f0.flatMap e93)), (.sl true a1.f1.length 1 (a1.f1.flatMap encI))]), (1027, [(I (at_ a1.f0 x1).f0), (I (at_ a1.f0 x1).f1)])]) [(I (at_ a1.f0 x1).f0), (I 0), (I (wrap64 ((a0.f0.length : Int) - 1)))] ⟨57, [(I (at_ a1.f0 x1).f0), (I 0), (I (wrap64 ((a0.f0.length : Int) - 1)))], [], (B x2), [], [], [], [], (B x2), []⟩, (B (!x2) : V) = B false, 2 = 2 ∧ 1 + 1 ≤ 2, COK (hget [(256, [(.sl true a0.f0.length 1 (a0.f0.flatMap encI)), (I a0.f1), (.sl true a0.f2.length 2 (a0.f2.flatMap (e83 true)))]), (257, [(.sl true a1.f0.length 2 (a1.f0.flatMap e93)), (.sl true a1.f1.length 1 (a1.f1.flatMap encI))]), (1027, [(I (at_ a1.f0 x1).f0), (I (at_ a1.f0 x1).f1)])]) [(I (at_ a1.f0 x1).f1), (I 0), (I 1)] ⟨57, [(I (at_ a1.f0 x1).f1), (I 0), (I 1)], [], (B x3), [], [], [], [], (B x3), []⟩, (B (!x3) : V) = B true], [⟨57, [(I (at_ a1.f0 x1).f0), (I 0), (I (wrap64 ((a0.f0.length : Int) - 1)))], [], (B x2), [], [], [], [], (B x2), []⟩, ⟨57, [(I (at_ a1.f0 x1).f1), (I 0), (I 1)], [], (B x3), [], [], [], [], (B x3), []⟩]⟩ [c_ 3379, b_ 1, c_ 423, l_ 26, b_ 0, c_ 7] (alc ⟨rfl, by decide⟩ (alc ⟨rfl, by decide⟩ (alc (cok0 false (a2c (.z .s) (a2c (.z .s) (a2c (.z .s) a2n))) (.z .s) (fun h => absurd h (by decide))) (alc (bF (nF c3)) (alc ⟨rfl, by decide⟩ (alc (cok0 false (a2c (.z .s) (a2c (.z .s) (a2c (.z .s) a2n))) (.z .s) (fun h => absurd h (by decide))) (alc (bT (nT (vF c4))) aln))))))) (acal (impl_between.J ((at_ a1.f0 x1).f0) 0 (wrap64 ((a0.f0.length : Int) - 1)) _ hx2) (acal (impl_between.J ((at_ a1.f0 x1).f1) 0 1 _ hx3) nocal)) ?_
            refine .cond' (.tmp 46) true [c_ 13516, c_ 13517, b_ 1, c_ 423, l_ 26, b_ 0, c_ 7] (rfl) ?_
            refine .reg' [4] [] ⟨[(4, (B false))], [(256, [(.sl true a0.f0.length 1 (a0.f0.flatMap encI)), (I a0.f1), (.sl true a0.f2.length 2 (a0.f2.flatMap (e83 true)))]), (257, [(.sl true a1.f0.length 2 (a1.f0.flatMap e93)), (.sl true a1.f1.length 1 (a1.f1.flatMap encI))]), (1027, [(I (at_ a1.f0 x1).f0), (I (at_ a1.f0 x1).f1)])], [], []⟩ [c_ 13517, b_ 1, c_ 423, l_ 26, b_ 0, c_ 7] aln nocal ?_
            have h := Option.some.inj h
            subst h
            exact .fin0 [] (B false) [] aln (.z .s)
        · rw [if_neg c3] at h
          refine .reg' [2, 3, 10, 11, 12, 46] [.no, .no, .no, .no, .no, .no, .c ⟨57, [(I (at_ a1.f0 x1).f0), (I 0), (I (wrap64 ((a0.f0.length : Int) - 1)))], [], (B x2), [], [], [], [], (B x2), []⟩, .no, .v (B true)] ⟨[(2, (.pt 256 0 3)), (3, (.pt 257 0 2)), (10, (.sl true a1.f0.length 2 (a1.f0.flatMap e93))), (11, (I (a1.f0.length : Int))), (12, (I x1)), (46, (B true))], [(256, [(.sl true a0.f0.length 1 (a0.f0.flatMap encI)), (I a0.f1), (.sl true a0.f2.length 2 (a0.f2.flatMap (e83 true)))]), (257, [(.sl true a1.f0.length 2 (a1.f0.flatMap e93)), (.sl true a1.f1.length 1 (a1.f1.flatMap encI))]), (1027, [(I (at_ a1.f0 x1).f0), (I (at_ a1.f0 x1).f1)])], [2 = 2 ∧ 0 + 1 ≤ 2, 3 = 3 ∧ 0 + 1 ≤ 3, COK (hget [(256, [(.sl true a0.f0.length 1 (a0.f0.flatMap encI)), (I a0.f1), (.sl true a0.f2.length 2 (a0.f2.flatMap (e83 true)))]), (257, [(.sl true a1.f0.length 2 (a1.f0.flatMap e93)), (.sl true a1.f1.length 1 (a1.f1.flatMap encI))]), (1027, [(I (at_ a1.f0 x1).f0), (I (at_ a1.f0 x1).f1)])]) [(I (at_ a1.f0 x1).f0), (I 0), (I (wrap64 ((a0.f0.length : Int) - 1)))] ⟨57, [(I (at_ a1.f0 x1).f0), (I 0), (I (wrap64 ((a0.f0.length : Int) - 1)))], [], (B x2), [], [], [], [], (B x2), []⟩, (B (!x2) : V) = B true], [⟨57, [(I (at_ a1.f0 x1).f0), (I 0), (I (wrap64 ((a0.f0.length : Int) - 1)))], [], (B x2), [], [], [], [], (B x2), []⟩]⟩ [c_ 3379, b_ 1, c_ 423, l_ 26, b_ 0, c_ 7] (alc ⟨rfl, by decide⟩ (alc ⟨rfl, by decide⟩ (alc (cok0 false (a2c (.z .s) (a2c (.z .s) (a2c (.z .s) a2n))) (.z .s) (fun h => absurd h (by decide))) (alc (bT (nT (vF c3))) aln)))) (acal (impl_between.J ((at_ a1.f0 x1).f0) 0 (wrap64 ((a0.f0.length : Int) - 1)) _ hx2) nocal) ?_
          refine .cond' (.tmp 46) true [c_ 13516, c_ 13517, b_ 1, c_ 423, l_ 26, b_ 0, c_ 7] (rfl) ?_
          refine .reg' [4] [] ⟨[(4, (B false))], [(256, [(.sl true a0.f0.length 1 (a0.f0.flatMap encI)), (I a0.f1), (.sl true a0.f2.length 2 (a0.f2.flatMap (e83 true)))]), (257, [(.sl true a1.f0.length 2 (a1.f0.flatMap e93)), (.sl true a1.f1.length 1 (a1.f1.flatMap encI))]), (1027, [(I (at_ a1.f0 x1).f0), (I (at_ a1.f0 x1).f1)])], [], []⟩ [c_ 13517, b_ 1, c_ 423, l_ 26, b_ 0, c_ 7] aln nocal ?_
          have h := Option.some.inj h
          subst h
          exact .fin0 [] (B false) [] aln (.z .s)
      · rw [if_neg c2] at h
        cases h
    · rw [if_neg c1] at h
      refine .cond' (.tmp 13) false [c_ 28, c_ 29, c_ 15] (bF (dF c1)) ?_
      by_cases c9 : (a1.f1.length : Int) < 1
      · rw [if_pos c9] at h
        refine .reg' [2, 3, 59] [.no, .no, .no, .no, .v (B true)] ⟨[(2, (.pt 256 0 3)), (3, (.pt 257 0 2)), (59, (B true))], [(256, [(.sl true a0.f0.length 1 (a0.f0.flatMap encI)), (I a0.f1), (.sl true a0.f2.length 2 (a0.f2.flatMap (e83 true)))]), (257, [(.sl true a1.f0.length 2 (a1.f0.flatMap e93)), (.sl true a1.f1.length 1 (a1.f1.flatMap encI))])], [2 = 2 ∧ 1 + 1 ≤ 2, (B (decide ((a1.f1.length : Int) < 1)) : V) = B true], []⟩ [c_ 29, c_ 15] (alc ⟨rfl, by decide⟩ (alc (bT (dT c9)) aln)) nocal ?_
        refine .cond' (.tmp 59) true [c_ 116, c_ 117, c_ 15] (rfl) ?_
        refine .reg' [4] [] ⟨[(4, (B false))], [(256, [(.sl true a0.f0.length 1 (a0.f0.flatMap encI)), (I a0.f1), (.sl true a0.f2.length 2 (a0.f2.flatMap (e83 true)))]), (257, [(.sl true a1.f0.length 2 (a1.f0.flatMap e93)), (.sl true a1.f1.length 1 (a1.f1.flatMap encI))])], [], []⟩ [c_ 117, c_ 15] aln nocal ?_
        have h := Option.some.inj h
        subst h
        exact .fin0 [] (B false) [] aln (.z .s)
      · rw [if_neg c9] at h
        refine .reg' [2, 3, 59] [.no, .no, .no, .no, .v (B false)] ⟨[(2, (.pt 256 0 3)), (3, (.pt 257 0 2)), (59, (B (decide ((a1.f1.length : Int) > a0.f1))))], [(256, [(.sl true a0.f0.length 1 (a0.f0.flatMap encI)), (I a0.f1), (.sl true a0.f2.length 2 (a0.f2.flatMap (e83 true)))]), (257, [(.sl true a1.f0.length 2 (a1.f0.flatMap e93)), (.sl true a1.f1.length 1 (a1.f1.flatMap encI))])], [2 = 2 ∧ 1 + 1 ≤ 2, (B (decide ((a1.f1.length : Int) < 1)) : V) = B false, 2 = 2 ∧ 1 + 1 ≤ 2, 3 = 3 ∧ 1 + 1 ≤ 3], []⟩ [c_ 29, c_ 15] (alc ⟨rfl, by decide⟩ (alc (bF (dF c9)) (alc ⟨rfl, by decide⟩ (alc ⟨rfl, by decide⟩ aln)))) nocal ?_
        by_cases c10 : (a1.f1.length : Int) > a0.f1
        · rw [if_pos c10] at h
          refine .cond' (.tmp 59) true [c_ 116, c_ 117, c_ 15] (bT (dT c10)) ?_
          refine .reg' [4] [] ⟨[(4, (B false))], [(256, [(.sl true a0.f0.length 1 (a0.f0.flatMap encI)), (I a0.f1), (.sl true a0.f2.length 2 (a0.f2.flatMap (e83 true)))]), (257, [(.sl true a1.f0.length 2 (a1.f0.flatMap e93)), (.sl true a1.f1.length 1 (a1.f1.flatMap encI))])], [], []⟩ [c_ 117, c_ 15] aln nocal ?_
          have h := Option.some.inj h
          subst h
          exact .fin0 [] (B false) [] aln (.z .s)
        · rw [if_neg c10] at h
          refine .cond' (.tmp 59) false [c_ 60, c_ 61, c_ 31] (bF (dF c10)) ?_
          refine .reg' [2, 3, 61, 62, 63] [] ⟨[(2, (.pt 256 0 3)), (3, (.pt 257 0 2)), (61, (.sl true a1.f1.length 1 (a1.f1.flatMap encI))), (62, (I (a1.f1.length : Int))), (63, (I 0))], [(256, [(.sl true a0.f0.length 1 (a0.f0.flatMap encI)), (I a0.f1), (.sl true a0.f2.length 2 (a0.f2.flatMap (e83 true)))]), (257, [(.sl true a1.f0.length 2 (a1.f0.flatMap e93)), (.sl true a1.f1.length 1 (a1.f1.flatMap encI))])], [2 = 2 ∧ 1 + 1 ≤ 2], []⟩ [l_ 122, b_ 2, c_ 31] (alc ⟨rfl, by decide⟩ aln) nocal ?_
          exact ih1 a0 a1 0 _ h
  · intro a0 a1 x4 r h
    unfold impl_routeOk.l1 at h
    refine .loop' [c_ 488, c_ 489, l_ 122, b_ 2, c_ 31] ?_
    refine .reg' [2, 3, 61, 62, 63, 64] [] ⟨[(2, (.pt 256 0 3)), (3, (.pt 257 0 2)), (61, (.sl true a1.f1.length 1 (a1.f1.flatMap encI))), (62, (I (a1.f1.length : Int))), (63, (I x4)), (64, (B (decide (x4 < (a1.f1.length : Int)))))], [(256, [(.sl true a0.f0.length 1 (a0.f0.flatMap encI)), (I a0.f1), (.sl true a0.f2.length 2 (a0.f2.flatMap (e83 true)))]), (257, [(.sl true a1.f0.length 2 (a1.f0.flatMap e93)), (.sl true a1.f1.length 1 (a1.f1.flatMap encI))])], [], []⟩ [c_ 978, c_ 979, l_ 122, b_ 2, c_ 31] aln nocal ?_
    by_cases c11 : x4 < (a1.f1.length : Int)
    · rw [if_pos c11] at h
      refine .cond' (.tmp 64) true [c_ 7832, c_ 7833, b_ 3, c_ 1959, l_ 122, b_ 2, c_ 31] (bT (dT c11)) ?_
      by_cases c12 : 0 ≤ x4
      · rw [if_pos c12] at h
        refine .reg' [2, 3, 7, 8, 61, 62, 63] [.no, .no, .v (I (at_ a1.f1 x4))] ⟨[(2, (.pt 256 0 3)), (3, (.pt 257 0 2)), (7, (I x4)), (8, (I (at_ a1.f1 x4))), (61, (.sl true a1.f1.length 1 (a1.f1.flatMap encI))), (62, (I (a1.f1.length : Int))), (63, (I x4))], [(256, [(.sl true a0.f0.length 1 (a0.f0.flatMap encI)), (I a0.f1), (.sl true a0.f2.length 2 (a0.f2.flatMap (e83 true)))]), (257, [(.sl true a1.f0.length 2 (a1.f0.flatMap e93)), (.sl true a1.f1.length 1 (a1.f1.flatMap encI))])], [(0 : Int) ≤ x4 ∧ x4 < (a1.f1.length : Int), rdC prog 3 ((a1.f1.flatMap encI).drop (x4.toNat * 1)) = (I (at_ a1.f1 x4)), 1 ≤ ((a1.f1.flatMap encI).drop (x4.toNat * 1)).length], []⟩ [c_ 15666, c_ 15667, b_ 3, c_ 1959, l_ 122, b_ 2, c_ 31] (alc ⟨c12, c11⟩ (alc (ldC1 encI_ok rfl c12 c11) (alc (okI encI_ok c12 c11 (by decide)) aln))) nocal ?_
        obtain ⟨x5, hx5, h⟩ := Option.bind_eq_some_iff.mp h
        by_cases c13 : x5 = true
        · rw [if_pos c13] at h
          by_cases c14 : x4 ≤ (a1.f1.length : Int)
          · rw [if_pos c14] at h
            obtain ⟨x6, hx6, h⟩ := Option.bind_eq_some_iff.mp h
            refine .reg' [2, 3, 61, 62, 63, 81] [.no, .no, .no, .no, .c ⟨57, [(I (at_ a1.f1 x4)), (I 0), (I (wrap64 (a0.f1 - 1)))], [], (B x5), [], [], [], [], (B x5), []⟩, .no, .v (B false), .no, .no, .no, .v (.sl true ((a1.f1.drop (0 : Int).toNat).take (x4.toNat - (0 : Int).toNat)).length 1 (((a1.f1.drop (0 : Int).toNat).take (x4.toNat - (0 : Int).toNat)).flatMap encI)), .no, .c ⟨100, [(.sl true ((a1.f1.drop (0 : Int).toNat).take (x4.toNat - (0 : Int).toNat)).length 1 (((a1.f1.drop (0 : Int).toNat).take (x4.toNat - (0 : Int).toNat)).flatMap encI)), (I (at_ a1.f1 x4))], [], (B x6), [], [], [], [], (B x6), []⟩] ⟨[(2, (.pt 256 0 3)), (3, (.pt 257 0 2)), (61, (.sl true a1.f1.length 1 (a1.f1.flatMap encI))), (62, (I (a1.f1.length : Int))), (63, (I x4)), (81, (B x6))], [(256, [(.sl true a0.f0.length 1 (a0.f0.flatMap encI)), (I a0.f1), (.sl true a0.f2.length 2 (a0.f2.flatMap (e83 true)))]), (257, [(.sl true a1.f0.length 2 (a1.f0.flatMap e93)), (.sl true a1.f1.length 1 (a1.f1.flatMap encI))])], [3 = 3 ∧ 1 + 1 ≤ 3, COK (hget [(256, [(.sl true a0.f0.length 1 (a0.f0.flatMap encI)), (I a0.f1), (.sl true a0.f2.length 2 (a0.f2.flatMap (e83 true)))]), (257, [(.sl true a1.f0.length 2 (a1.f0.flatMap e93)), (.sl true a1.f1.length 1 (a1.f1.flatMap encI))])]) [(I (at_ a1.f1 x4)), (I 0), (I (wrap64 (a0.f1 - 1)))] ⟨57, [(I (at_ a1.f1 x4)), (I 0), (I (wrap64 (a0.f1 - 1)))], [], (B x5), [], [], [], [], (B x5), []⟩, (B (!x5) : V) = B false, 2 = 2 ∧ 1 + 1 ≤ 2, V.sl true (x4.toNat - (0 : Int).toNat) 1 (((a1.f1.flatMap encI).drop ((0 : Int).toNat * 1)).take ((x4.toNat - (0 : Int).toNat) * 1)) = (.sl true ((a1.f1.drop (0 : Int).toNat).take (x4.toNat - (0 : Int).toNat)).length 1 (((a1.f1.drop (0 : Int).toNat).take (x4.toNat - (0 : Int).toNat)).flatMap encI)), 0 ≤ (0 : Int) ∧ 0 ≤ x4 ∧ x4 ≤ (a1.f1.length : Int), COK (hget [(256, [(.sl true a0.f0.length 1 (a0.f0.flatMap encI)), (I a0.f1), (.sl true a0.f2.length 2 (a0.f2.flatMap (e83 true)))]), (257, [(.sl true a1.f0.length 2 (a1.f0.flatMap e93)), (.sl true a1.f1.length 1 (a1.f1.flatMap encI))])]) [(.sl true ((a1.f1.drop (0 : Int).toNat).take (x4.toNat - (0 : Int).toNat)).length 1 (((a1.f1.drop (0 : Int).toNat).take (x4.toNat - (0 : Int).toNat)).flatMap encI)), (I (at_ a1.f1 x4))] ⟨100, [(.sl true ((a1.f1.drop (0 : Int).toNat).take (x4.toNat - (0 : Int).toNat)).length 1 (((a1.f1.drop (0 : Int).toNat).take (x4.toNat - (0 : Int).toNat)).flatMap encI)), (I (at_ a1.f1 x4))], [], (B x6), [], [], [], [], (B x6), []⟩], [⟨57, [(I (at_ a1.f1 x4)), (I 0), (I (wrap64 (a0.f1 - 1)))], [], (B x5), [], [], [], [], (B x5), []⟩, ⟨100, [(.sl true ((a1.f1.drop (0 : Int).toNat).take (x4.toNat - (0 : Int).toNat)).length 1 (((a1.f1.drop (0 : Int).toNat).take (x4.toNat - (0 : Int).toNat)).flatMap encI)), (I (at_ a1.f1 x4))], [], (B x6), [], [], [], [], (B x6), []⟩]⟩ [c_ 15667, b_ 3, c_ 1959, l_ 122, b_ 2, c_ 31] (alc ⟨rfl, by decide⟩ (alc (cok0 false (a2c (.z .s) (a2c (.z .s) (a2c (.z .s) a2n))) (.z .s) (fun h => absurd h (by decide))) (alc (bF (nF c13)) (alc ⟨rfl, by decide⟩ (alc (slS encI_ok (by omega) (by omega)) (alc ⟨(by decide), c12, c14⟩ (alc (cok0 false (a2c (.z (frz_sl encI_ok (fun h => h))) (a2c (.z .s) a2n)) (.z .s) (fun h => absurd h (by decide))) aln))))))) (acal (impl_between.J (at_ a1.f1 x4) 0 (wrap64 (a0.f1 - 1)) _ hx5) (acal (impl_has.J k ((a1.f1.drop (0 : Int).toNat).take (x4.toNat - (0 : Int).toNat)) (at_ a1.f1 x4) _ hx6) nocal)) ?_
            by_cases c15 : x6 = true
            · rw [if_pos c15] at h
              refine .cond' (.tmp 81) true [c_ 62668, c_ 62669, b_ 3, c_ 1959, l_ 122, b_ 2, c_ 31] (bT c15) ?_
              refine .reg' [4] [] ⟨[(4, (B false))], [(256, [(.sl true a0.f0.length 1 (a0.f0.flatMap encI)), (I a0.f1), (.sl true a0.f2.length 2 (a0.f2.flatMap (e83 true)))]), (257, [(.sl true a1.f0.length 2 (a1.f0.flatMap e93)), (.sl true a1.f1.length 1 (a1.f1.flatMap encI))])], [], []⟩ [c_ 62669, b_ 3, c_ 1959, l_ 122, b_ 2, c_ 31] aln nocal ?_
              have h := Option.some.inj h
              subst h
              exact .fin0 [] (B false) [] aln (.z .s)
            · rw [if_neg c15] at h
              refine .cond' (.tmp 81) false [c_ 1959, l_ 122, b_ 2, c_ 31] (bF (vF c15)) ?_
              refine .reg' [2, 3, 61, 62, 63] [] ⟨[(2, (.pt 256 0 3)), (3, (.pt 257 0 2)), (61, (.sl true a1.f1.length 1 (a1.f1.flatMap encI))), (62, (I (a1.f1.length : Int))), (63, (I (wrap64 (x4 + 1))))], [(256, [(.sl true a0.f0.length 1 (a0.f0.flatMap encI)), (I a0.f1), (.sl true a0.f2.length 2 (a0.f2.flatMap (e83 true)))]), (257, [(.sl true a1.f0.length 2 (a1.f0.flatMap e93)), (.sl true a1.f1.length 1 (a1.f1.flatMap encI))])], [], []⟩ [l_ 122, b_ 2, c_ 31] aln nocal ?_
              exact ih1 a0 a1 (wrap64 (x4 + 1)) _ h
          · rw [if_neg c14] at h
            cases h
        · rw [if_neg c13] at h
          refine .reg' [2, 3, 61, 62, 63, 81] [.no, .no, .no, .no, .c ⟨57, [(I (at_ a1.f1 x4)), (I 0), (I (wrap64 (a0.f1 - 1)))], [], (B x5), [], [], [], [], (B x5), []⟩, .no, .v (B true)] ⟨[(2, (.pt 256 0 3)), (3, (.pt 257 0 2)), (61, (.sl true a1.f1.length 1 (a1.f1.flatMap encI))), (62, (I (a1.f1.length : Int))), (63, (I x4)), (81, (B true))], [(256, [(.sl true a0.f0.length 1 (a0.f0.flatMap encI)), (I a0.f1), (.sl true a0.f2.length 2 (a0.f2.flatMap (e83 true)))]), (257, [(.sl true a1.f0.length 2 (a1.f0.flatMap e93)), (.sl true a1.f1.length 1 (a1.f1.flatMap encI))])], [3 = 3 ∧ 1 + 1 ≤ 3, COK (hget [(256, [(.sl true a0.f0.length 1 (a0.f0.flatMap encI)), (I a0.f1), (.sl true a0.f2.length 2 (a0.f2.flatMap (e83 true)))]), (257, [(.sl true a1.f0.length 2 (a1.f0.flatMap e93)), (.sl true a1.f1.length 1 (a1.f1.flatMap encI))])]) [(I (at_ a1.f1 x4)), (I 0), (I (wrap64 (a0.f1 - 1)))] ⟨57, [(I (at_ a1.f1 x4)), (I 0), (I (wrap64 (a0.f1 - 1)))], [], (B x5), [], [], [], [], (B x5), []⟩, (B (!x5) : V) = B true], [⟨57, [(I (at_ a1.f1 x4)), (I 0), (I (wrap64 (a0.f1 - 1)))], [], (B x5), [], [], [], [], (B x5), []⟩]⟩ [c_ 15667, b_ 3, c_ 1959, l_ 122, b_ 2, c_ 31] (alc ⟨rfl, by decide⟩ (alc (cok0 false (a2c (.z .s) (a2c (.z .s) (a2c (.z .s) a2n))) (.z .s) (fun h => absurd h (by decide))) (alc (bT (nT (vF c13))) aln))) (acal (impl_between.J (at_ a1.f1 x4) 0 (wrap64 (a0.f1 - 1)) _ hx5) nocal) ?_
          refine .cond' (.tmp 81) true [c_ 62668, c_ 62669, b_ 3, c_ 1959, l_ 122, b_ 2, c_ 31] (rfl) ?_
          refine .reg' [4] [] ⟨[(4, (B false))], [(256, [(.sl true a0.f0.length 1 (a0.f0.flatMap encI)), (I a0.f1), (.sl true a0.f2.length 2 (a0.f2.flatMap (e83 true)))]), (257, [(.sl true a1.f0.length 2 (a1.f0.flatMap e93)), (.sl true a1.f1.length 1 (a1.f1.flatMap encI))])], [], []⟩ [c_ 62669, b_ 3, c_ 1959, l_ 122, b_ 2, c_ 31] aln nocal ?_
          have h := Option.some.inj h
          subst h
          exact .fin0 [] (B false) [] aln (.z .s)
      · rw [if_neg c12] at h
        cases h
    · rw [if_neg c11] at h
      refine .cond' (.tmp 64) false [c_ 62, c_ 63] (bF (dF c11)) ?_
      refine .reg' [4] [] ⟨[(4, (B true))], [(256, [(.sl true a0.f0.length 1 (a0.f0.flatMap encI)), (I a0.f1), (.sl true a0.f2.length 2 (a0.f2.flatMap (e83 true)))]), (257, [(.sl true a1.f0.length 2 (a1.f0.flatMap e93)), (.sl true a1.f1.length 1 (a1.f1.flatMap encI))])], [], []⟩ [c_ 63] aln nocal ?_
      have h := Option.some.inj h
      subst h
      exact .fin0 [] (B true) [] aln (.z .s)
theorem impl_routeOk.J (k : Nat) (a0 : S29) (a1 : S83) (r : Bool) (h : impl_routeOk.f k a0 a1 = some r) : J prog (.call 58 [(.ag [(.sl true a0.f0.length 1 (a0.f0.flatMap encI)), (I a0.f1), (.sl true a0.f2.length 2 (a0.f2.flatMap (e83 true)))]), (.ag [(.sl true a1.f0.length 2 (a1.f0.flatMap e93)), (.sl true a1.f1.length 1 (a1.f1.flatMap encI))])] [] (B r) []) := by
  unfold impl_routeOk.f at h
  obtain ⟨ih0, ih1⟩ := impl_routeOk.lab k
  refine .call' [c_ 2, c_ 3] ?_
  refine .reg' [2, 3] [] ⟨[(2, (.pt 256 0 3)), (3, (.pt 257 0 2))], [(256, [(.sl true a0.f0.length 1 (a0.f0.flatMap encI)), (I a0.f1), (.sl true a0.f2.length 2 (a0.f2.flatMap (e83 true)))]), (257, [(.sl true a1.f0.length 2 (a1.f0.flatMap e93)), (.sl true a1.f1.length 1 (a1.f1.flatMap encI))])], [], []⟩ [c_ 12, c_ 13, c_ 7] aln nocal ?_
  refine .reg' [2, 3, 10, 11, 12] [] ⟨[(2, (.pt 256 0 3)), (3, (.pt 257 0 2)), (10, (.sl true a1.f0.length 2 (a1.f0.flatMap e93))), (11, (I (a1.f0.length : Int))), (12, (I 0))], [(256, [(.sl true a0.f0.length 1 (a0.f0.flatMap encI)), (I a0.f1), (.sl true a0.f2.length 2 (a0.f2.flatMap (e83 true)))]), (257, [(.sl true a1.f0.length 2 (a1.f0.flatMap e93)), (.sl true a1.f1.length 1 (a1.f1.flatMap encI))])], [2 = 2 ∧ 0 + 1 ≤ 2], []⟩ [l_ 26, b_ 0, c_ 7] (alc ⟨rfl, by decide⟩ aln) nocal ?_
  exact ih0 a0 a1 0 _ h
/-! impl_PlantOk: function 13 -/
mutual
def impl_PlantOk.l0 : Nat → S29 → Int → Option Bool
 | 0, _, _ => none
 | k + 1, a0, x2 => (if x2 < (a0.f0.length : Int) then (if 0 ≤ x2 then ((impl_between.f (at_ a0.f0 x2) 0 (wrap64 (a0.f1 - 1))).bind fun x3 => (if x3 = true then (impl_PlantOk.l0 k a0 (wrap64 (x2 + 1))) else (some false))) else none) else (impl_PlantOk.l1 k a0 0))
def impl_PlantOk.l1 : Nat → S29 → Int → Option Bool
 | 0, _, _ => none
 | k + 1, a0, x4 => (if x4 < (a0.f2.length : Int) then (if 0 ≤ x4 then ((impl_routeOk.f k a0 (at_ a0.f2 x4)).bind fun x5 => (if x5 = true then (impl_PlantOk.l1 k a0 (wrap64 (x4 + 1))) else (some false))) else none) else (some true))
end
def impl_PlantOk.f (k : Nat) (a0 : S29) : Option Bool := ((impl_between.f a0.f1 1 24).bind fun x1 => (if x1 = true then (if (a0.f0.length : Int) > 16 then (some false) else (if (a0.f2.length : Int) > 12 then (some false) else (impl_PlantOk.l0 k a0 0))) else (some false)))
theorem impl_PlantOk.lab : ∀ k, (∀ (a0 : S29) (x2 : Int) (r : Bool), impl_PlantOk.l0 k a0 x2 = some r → J prog (.run 13 [] [l_ 58, b_ 0, c_ 15] [(1, (.pt 256 0 3)), (24, (.sl true a0.f0.length 1 (a0.f0.flatMap encI))), (25, (I (a0.f0.length : Int))), (26, (I x2))] [(256, [(.sl true a0.f0.length 1 (a0.f0.flatMap encI)), (I a0.f1), (.sl true a0.f2.length 2 (a0.f2.flatMap (e83 true)))])] (B r) [])) ∧ (∀ (a0 : S29) (x4 : Int) (r : Bool), impl_PlantOk.l1 k a0 x4 = some r → J prog (.run 13 [] [l_ 122, b_ 2, c_ 31] [(1, (.pt 256 0 3)), (38, (.sl true a0.f2.length 2 (a0.f2.flatMap (e83 true)))), (39, (I (a0.f2.length : Int))), (40, (I x4))] [(256, [(.sl true a0.f0.length 1 (a0.f0.flatMap encI)), (I a0.f1), (.sl true a0.f2.length 2 (a0.f2.flatMap (e83 true)))])] (B r) []))
 | 0 => ⟨(by intro a0 x2 r h; unfold impl_PlantOk.l0 at h; cases h), (by intro a0 x4 r h; unfold impl_PlantOk.l1 at h; cases h)⟩
 | k + 1 => by
  obtain ⟨ih0, ih1⟩ := impl_PlantOk.lab k
  refine ⟨?_, ?_⟩
  · intro a0 x2 r h
    unfold impl_PlantOk.l0 at h
    refine .loop' [c_ 232, c_ 233, l_ 58, b_ 0, c_ 15] ?_
    refine .reg' [1, 24, 25, 26, 27] [] ⟨[(1, (.pt 256 0 3)), (24, (.sl true a0.f0.length 1 (a0.f0.flatMap encI))), (25, (I (a0.f0.length : Int))), (26, (I x2)), (27, (B (decide (x2 < (a0.f0.length : Int)))))], [(256, [(.sl true a0.f0.length 1 (a0.f0.flatMap encI)), (I a0.f1), (.sl true a0.f2.length 2 (a0.f2.flatMap (e83 true)))])], [], []⟩ [c_ 466, c_ 467, l_ 58, b_ 0, c_ 15] aln nocal ?_
    by_cases c4 : x2 < (a0.f0.length : Int)
    · rw [if_pos c4] at h
      refine .cond' (.tmp 27) true [c_ 3736, c_ 3737, b_ 1, c_ 935, l_ 58, b_ 0, c_ 15] (bT (dT c4)) ?_
      by_cases c5 : 0 ≤ x2
      · rw [if_pos c5] at h
        refine .reg' [1, 4, 24, 25, 26] [.no, .v (I (at_ a0.f0 x2))] ⟨[(1, (.pt 256 0 3)), (4, (I (at_ a0.f0 x2))), (24, (.sl true a0.f0.length 1 (a0.f0.flatMap encI))), (25, (I (a0.f0.length : Int))), (26, (I x2))], [(256, [(.sl true a0.f0.length 1 (a0.f0.flatMap encI)), (I a0.f1), (.sl true a0.f2.length 2 (a0.f2.flatMap (e83 true)))])], [(0 : Int) ≤ x2 ∧ x2 < (a0.f0.length : Int), rdC prog 3 ((a0.f0.flatMap encI).drop (x2.toNat * 1)) = (I (at_ a0.f0 x2)), 1 ≤ ((a0.f0.flatMap encI).drop (x2.toNat * 1)).length], []⟩ [c_ 7474, c_ 7475, b_ 1, c_ 935, l_ 58, b_ 0, c_ 15] (alc ⟨c5, c4⟩ (alc (ldC1 encI_ok rfl c5 c4) (alc (okI encI_ok c5 c4 (by decide)) aln))) nocal ?_
        obtain ⟨x3, hx3, h⟩ := Option.bind_eq_some_iff.mp h
        refine .reg' [1, 24, 25, 26, 35] [.no, .no, .no, .no, .c ⟨57, [(I (at_ a0.f0 x2)), (I 0), (I (wrap64 (a0.f1 - 1)))], [], (B x3), [], [], [], [], (B x3), []⟩] ⟨[(1, (.pt 256 0 3)), (24, (.sl true a0.f0.length 1 (a0.f0.flatMap encI))), (25, (I (a0.f0.length : Int))), (26, (I x2)), (35, (B (!x3)))], [(256, [(.sl true a0.f0.length 1 (a0.f0.flatMap encI)), (I a0.f1), (.sl true a0.f2.length 2 (a0.f2.flatMap (e83 true)))])], [3 = 3 ∧ 1 + 1 ≤ 3, COK (hget [(256, [(.sl true a0.f0.length 1 (a0.f0.flatMap encI)), (I a0.f1), (.sl true a0.f2.length 2 (a0.f2.flatMap (e83 true)))])]) [(I (at_ a0.f0 x2)), (I 0), (I (wrap64 (a0.f1 - 1)))] ⟨57, [(I (at_ a0.f0 x2)), (I 0), (I (wrap64 (a0.f1 - 1)))], [], (B x3), [], [], [], [], (B x3), []⟩], [⟨57, [(I (at_ a0.f0 x2)), (I 0), (I (wrap64 (a0.f1 - 1)))], [], (B x3), [], [], [], [], (B x3), []⟩]⟩ [c_ 7475, b_ 1, c_ 935, l_ 58, b_ 0, c_ 15] (alc ⟨rfl, by decide⟩ (alc (cok0 false (a2c (.z .s) (a2c (.z .s) (a2c (.z .s) a2n))) (.z .s) (fun h => absurd h (by decide))) aln)) (acal (impl_between.J (at_ a0.f0 x2) 0 (wrap64 (a0.f1 - 1)) _ hx3) nocal) ?_
        by_cases c6 : x3 = true
        · rw [if_pos c6] at h
          refine .cond' (.tmp 35) false [c_ 935, l_ 58, b_ 0, c_ 15] (bF (nF c6)) ?_
          refine .reg' [1, 24, 25, 26] [] ⟨[(1, (.pt 256 0 3)), (24, (.sl true a0.f0.length 1 (a0.f0.flatMap encI))), (25, (I (a0.f0.length : Int))), (26, (I (wrap64 (x2 + 1))))], [(256, [(.sl true a0.f0.length 1 (a0.f0.flatMap encI)), (I a0.f1), (.sl true a0.f2.length 2 (a0.f2.flatMap (e83 true)))])], [], []⟩ [l_ 58, b_ 0, c_ 15] aln nocal ?_
          exact ih0 a0 (wrap64 (x2 + 1)) _ h
        · rw [if_neg c6] at h
          refine .cond' (.tmp 35) true [c_ 29900, c_ 29901, b_ 1, c_ 935, l_ 58, b_ 0, c_ 15] (bT (nT (vF c6))) ?_
          refine .reg' [2] [] ⟨[(2, (B false))], [(256, [(.sl true a0.f0.length 1 (a0.f0.flatMap encI)), (I a0.f1), (.sl true a0.f2.length 2 (a0.f2.flatMap (e83 true)))])], [], []⟩ [c_ 29901, b_ 1, c_ 935, l_ 58, b_ 0, c_ 15] aln nocal ?_
          have h := Option.some.inj h
          subst h
          exact .fin0 [] (B false) [] aln (.z .s)
      · rw [if_neg c5] at h
        cases h
    · rw [if_neg c4] at h
      refine .cond' (.tmp 27) false [c_ 60, c_ 61, c_ 31] (bF (dF c4)) ?_
      refine .reg' [1, 38, 39, 40] [] ⟨[(1, (.pt 256 0 3)), (38, (.sl true a0.f2.length 2 (a0.f2.flatMap (e83 true)))), (39, (I (a0.f2.length : Int))), (40, (I 0))], [(256, [(.sl true a0.f0.length 1 (a0.f0.flatMap encI)), (I a0.f1), (.sl true a0.f2.length 2 (a0.f2.flatMap (e83 true)))])], [3 = 3 ∧ 2 + 1 ≤ 3], []⟩ [l_ 122, b_ 2, c_ 31] (alc ⟨rfl, by decide⟩ aln) nocal ?_
      exact ih1 a0 0 _ h
  · intro a0 x4 r h
    unfold impl_PlantOk.l1 at h
    refine .loop' [c_ 488, c_ 489, l_ 122, b_ 2, c_ 31] ?_
    refine .reg' [1, 38, 39, 40, 41] [] ⟨[(1, (.pt 256 0 3)), (38, (.sl true a0.f2.length 2 (a0.f2.flatMap (e83 true)))), (39, (I (a0.f2.length : Int))), (40, (I x4)), (41, (B (decide (x4 < (a0.f2.length : Int)))))], [(256, [(.sl true a0.f0.length 1 (a0.f0.flatMap encI)), (I a0.f1), (.sl true a0.f2.length 2 (a0.f2.flatMap (e83 true)))])], [], []⟩ [c_ 978, c_ 979, l_ 122, b_ 2, c_ 31] aln nocal ?_
    by_cases c7 : x4 < (a0.f2.length : Int)
    · rw [if_pos c7] at h
      refine .cond' (.tmp 41) true [c_ 7832, c_ 7833, b_ 3, c_ 1959, l_ 122, b_ 2, c_ 31] (bT (dT c7)) ?_
      by_cases c8 : 0 ≤ x4
      · rw [if_pos c8] at h
        refine .reg' [1, 6, 38, 39, 40] [.no, .v (.ag [(.sl true (at_ a0.f2 x4).f0.length 2 ((at_ a0.f2 x4).f0.flatMap e93)), (.sl true (at_ a0.f2 x4).f1.length 1 ((at_ a0.f2 x4).f1.flatMap encI))])] ⟨[(1, (.pt 256 0 3)), (6, (.pt 3074 0 2)), (38, (.sl true a0.f2.length 2 (a0.f2.flatMap (e83 true)))), (39, (I (a0.f2.length : Int))), (40, (I x4))], [(256, [(.sl true a0.f0.length 1 (a0.f0.flatMap encI)), (I a0.f1), (.sl true a0.f2.length 2 (a0.f2.flatMap (e83 true)))]), (3074, [(.sl true (at_ a0.f2 x4).f0.length 2 ((at_ a0.f2 x4).f0.flatMap e93)), (.sl true (at_ a0.f2 x4).f1.length 1 ((at_ a0.f2 x4).f1.flatMap encI))])], [(0 : Int) ≤ x4 ∧ x4 < (a0.f2.length : Int), rdC prog 84 ((a0.f2.flatMap (e83 true)).drop (x4.toNat * 2)) = (.ag [(.sl true (at_ a0.f2 x4).f0.length 2 ((at_ a0.f2 x4).f0.flatMap e93)), (.sl true (at_ a0.f2 x4).f1.length 1 ((at_ a0.f2 x4).f1.flatMap encI))]), 2 ≤ ((a0.f2.flatMap (e83 true)).drop (x4.toNat * 2)).length, 2 = 2 ∧ 0 + 2 ≤ 2], []⟩ [c_ 15666, c_ 15667, b_ 3, c_ 1959, l_ 122, b_ 2, c_ 31] (alc ⟨c8, c7⟩ (alc (ldA (e83_ok true) rfl rfl c8 c7) (alc (okI (e83_ok true) c8 c7 (by decide)) (alc ⟨rfl, by decide⟩ aln)))) nocal ?_
        obtain ⟨x5, hx5, h⟩ := Option.bind_eq_some_iff.mp h
        refine .reg' [1, 38, 39, 40, 47] [.no, .no, .c ⟨58, [(.ag [(.sl true a0.f0.length 1 (a0.f0.flatMap encI)), (I a0.f1), (.sl true a0.f2.length 2 (a0.f2.flatMap (e83 true)))]), (.ag [(.sl true (at_ a0.f2 x4).f0.length 2 ((at_ a0.f2 x4).f0.flatMap e93)), (.sl true (at_ a0.f2 x4).f1.length 1 ((at_ a0.f2 x4).f1.flatMap encI))])], [], (B x5), [], [], [], [], (B x5), []⟩] ⟨[(1, (.pt 256 0 3)), (38, (.sl true a0.f2.length 2 (a0.f2.flatMap (e83 true)))), (39, (I (a0.f2.length : Int))), (40, (I x4)), (47, (B (!x5)))], [(256, [(.sl true a0.f0.length 1 (a0.f0.flatMap encI)), (I a0.f1), (.sl true a0.f2.length 2 (a0.f2.flatMap (e83 true)))]), (3074, [(.sl true (at_ a0.f2 x4).f0.length 2 ((at_ a0.f2 x4).f0.flatMap e93)), (.sl true (at_ a0.f2 x4).f1.length 1 ((at_ a0.f2 x4).f1.flatMap encI))])], [3 = 3 ∧ 0 + 3 ≤ 3, 2 = 2 ∧ 0 + 2 ≤ 2, COK (hget [(256, [(.sl true a0.f0.length 1 (a0.f0.flatMap encI)), (I a0.f1), (.sl true a0.f2.length 2 (a0.f2.flatMap (e83 true)))]), (3074, [(.sl true (at_ a0.f2 x4).f0.length 2 ((at_ a0.f2 x4).f0.flatMap e93)), (.sl true (at_ a0.f2 x4).f1.length 1 ((at_ a0.f2 x4).f1.flatMap encI))])]) [(.ag [(.sl true a0.f0.length 1 (a0.f0.flatMap encI)), (I a0.f1), (.sl true a0.f2.length 2 (a0.f2.flatMap (e83 true)))]), (.ag [(.sl true (at_ a0.f2 x4).f0.length 2 ((at_ a0.f2 x4).f0.flatMap e93)), (.sl true (at_ a0.f2 x4).f1.length 1 ((at_ a0.f2 x4).f1.flatMap encI))])] ⟨58, [(.ag [(.sl true a0.f0.length 1 (a0.f0.flatMap encI)), (I a0.f1), (.sl true a0.f2.length 2 (a0.f2.flatMap (e83 true)))]), (.ag [(.sl true (at_ a0.f2 x4).f0.length 2 ((at_ a0.f2 x4).f0.flatMap e93)), (.sl true (at_ a0.f2 x4).f1.length 1 ((at_ a0.f2 x4).f1.flatMap encI))])], [], (B x5), [], [], [], [], (B x5), []⟩], [⟨58, [(.ag [(.sl true a0.f0.length 1 (a0.f0.flatMap encI)), (I a0.f1), (.sl true a0.f2.length 2 (a0.f2.flatMap (e83 true)))]), (.ag [(.sl true (at_ a0.f2 x4).f0.length 2 ((at_ a0.f2 x4).f0.flatMap e93)), (.sl true (at_ a0.f2 x4).f1.length 1 ((at_ a0.f2 x4).f1.flatMap encI))])], [], (B x5), [], [], [], [], (B x5), []⟩]⟩ [c_ 15667, b_ 3, c_ 1959, l_ 122, b_ 2, c_ 31] (alc ⟨rfl, by decide⟩ (alc ⟨rfl, by decide⟩ (alc (cok0 false (a2c (.z (frz_ag (a2c (frz_sl encI_ok (fun h => h)) (a2c .s (a2c (frz_sl (e83_ok true) (fun h => h)) a2n))))) (a2c (.z (frz_ag (a2c (frz_sl e93_ok (fun h => h)) (a2c (frz_sl encI_ok (fun h => h)) a2n)))) a2n)) (.z .s) (fun h => absurd h (by decide))) aln))) (acal (impl_routeOk.J k a0 (at_ a0.f2 x4) _ hx5) nocal) ?_
        by_cases c9 : x5 = true
        · rw [if_pos c9] at h
          refine .cond' (.tmp 47) false [c_ 1959, l_ 122, b_ 2, c_ 31] (bF (nF c9)) ?_
          refine .reg' [1, 38, 39, 40] [] ⟨[(1, (.pt 256 0 3)), (38, (.sl true a0.f2.length 2 (a0.f2.flatMap (e83 true)))), (39, (I (a0.f2.length : Int))), (40, (I (wrap64 (x4 + 1))))], [(256, [(.sl true a0.f0.length 1 (a0.f0.flatMap encI)), (I a0.f1), (.sl true a0.f2.length 2 (a0.f2.flatMap (e83 true)))]), (3074, [(.sl true (at_ a0.f2 x4).f0.length 2 ((at_ a0.f2 x4).f0.flatMap e93)), (.sl true (at_ a0.f2 x4).f1.length 1 ((at_ a0.f2 x4).f1.flatMap encI))])], [], []⟩ [l_ 122, b_ 2, c_ 31] aln nocal ?_
          refine .wk' [] [(256, 256)] [(1, (.pt 256 0 3)), (38, (.sl true a0.f2.length 2 (a0.f2.flatMap (e83 true)))), (39, (I (a0.f2.length : Int))), (40, (I (wrap64 (x4 + 1))))] [(256, [(.sl true a0.f0.length 1 (a0.f0.flatMap encI)), (I a0.f1), (.sl true a0.f2.length 2 (a0.f2.flatMap (e83 true)))])] (shc 256 (a2c (.z (frz_sl encI_ok (fun h => h))) (a2c (.z .s) (a2c (.z (frz_sl (e83_ok true) (fun h => h))) a2n))) shn) (enc_ (.pt (memP_mem (p := (256, 256)) rfl)) (enc_ (.z (frz_sl (e83_ok true) (fun h => h))) (enc_ (.z .s) (enc_ (.z .s) enn)))) ?_
          exact ih1 a0 (wrap64 (x4 + 1)) _ h
        · rw [if_neg c9] at h
          refine .cond' (.tmp 47) true [c_ 62668, c_ 62669, b_ 3, c_ 1959, l_ 122, b_ 2, c_ 31] (bT (nT (vF c9))) ?_
          refine .reg' [2] [] ⟨[(2, (B false))], [(256, [(.sl true a0.f0.length 1 (a0.f0.flatMap encI)), (I a0.f1), (.sl true a0.f2.length 2 (a0.f2.flatMap (e83 true)))]), (3074, [(.sl true (at_ a0.f2 x4).f0.length 2 ((at_ a0.f2 x4).f0.flatMap e93)), (.sl true (at_ a0.f2 x4).f1.length 1 ((at_ a0.f2 x4).f1.flatMap encI))])], [], []⟩ [c_ 62669, b_ 3, c_ 1959, l_ 122, b_ 2, c_ 31] aln nocal ?_
          have h := Option.some.inj h
          subst h
          exact .fin0 [] (B false) [] aln (.z .s)
      · rw [if_neg c8] at h
        cases h
    · rw [if_neg c7] at h
      refine .cond' (.tmp 41) false [c_ 62, c_ 63] (bF (dF c7)) ?_
      refine .reg' [2] [] ⟨[(2, (B true))], [(256, [(.sl true a0.f0.length 1 (a0.f0.flatMap encI)), (I a0.f1), (.sl true a0.f2.length 2 (a0.f2.flatMap (e83 true)))])], [], []⟩ [c_ 63] aln nocal ?_
      have h := Option.some.inj h
      subst h
      exact .fin0 [] (B true) [] aln (.z .s)
theorem impl_PlantOk.J (k : Nat) (a0 : S29) (r : Bool) (h : impl_PlantOk.f k a0 = some r) : J prog (.call 13 [(.ag [(.sl true a0.f0.length 1 (a0.f0.flatMap encI)), (I a0.f1), (.sl true a0.f2.length 2 (a0.f2.flatMap (e83 true)))])] [] (B r) []) := by
  unfold impl_PlantOk.f at h
  obtain ⟨ih0, ih1⟩ := impl_PlantOk.lab k
  refine .call' [c_ 2, c_ 3] ?_
  refine .reg' [1] [] ⟨[(1, (.pt 256 0 3))], [(256, [(.sl true a0.f0.length 1 (a0.f0.flatMap encI)), (I a0.f1), (.sl true a0.f2.length 2 (a0.f2.flatMap (e83 true)))])], [], []⟩ [c_ 12, c_ 13, c_ 7] aln nocal ?_
  obtain ⟨x1, hx1, h⟩ := Option.bind_eq_some_iff.mp h
  by_cases c1 : x1 = true
  · rw [if_pos c1] at h
    by_cases c2 : (a0.f0.length : Int) > 16
    · rw [if_pos c2] at h
      refine .reg' [1, 22] [.no, .no, .c ⟨57, [(I a0.f1), (I 1), (I 24)], [], (B x1), [], [], [], [], (B x1), []⟩, .no, .v (B false), .no, .no, .no, .no, .no, .v (B true)] ⟨[(1, (.pt 256 0 3)), (22, (B true))], [(256, [(.sl true a0.f0.length 1 (a0.f0.flatMap encI)), (I a0.f1), (.sl true a0.f2.length 2 (a0.f2.flatMap (e83 true)))])], [3 = 3 ∧ 1 + 1 ≤ 3, COK (hget [(256, [(.sl true a0.f0.length 1 (a0.f0.flatMap encI)), (I a0.f1), (.sl true a0.f2.length 2 (a0.f2.flatMap (e83 true)))])]) [(I a0.f1), (I 1), (I 24)] ⟨57, [(I a0.f1), (I 1), (I 24)], [], (B x1), [], [], [], [], (B x1), []⟩, (B (!x1) : V) = B false, 3 = 3 ∧ 0 + 1 ≤ 3, (B (decide ((a0.f0.length : Int) > 16)) : V) = B true], [⟨57, [(I a0.f1), (I 1), (I 24)], [], (B x1), [], [], [], [], (B x1), []⟩]⟩ [c_ 13, c_ 7] (alc ⟨rfl, by decide⟩ (alc (cok0 false (a2c (.z .s) (a2c (.z .s) (a2c (.z .s) a2n))) (.z .s) (fun h => absurd h (by decide))) (alc (bF (nF c1)) (alc ⟨rfl, by decide⟩ (alc (bT (dT c2)) aln))))) (acal (impl_between.J a0.f1 1 24 _ hx1) nocal) ?_
      refine .cond' (.tmp 22) true [c_ 52, c_ 53, c_ 7] (rfl) ?_
      refine .reg' [2] [] ⟨[(2, (B false))], [(256, [(.sl true a0.f0.length 1 (a0.f0.flatMap encI)), (I a0.f1), (.sl true a0.f2.length 2 (a0.f2.flatMap (e83 true)))])], [], []⟩ [c_ 53, c_ 7] aln nocal ?_
      have h := Option.some.inj h
      subst h
      exact .fin0 [] (B false) [] aln (.z .s)
    · rw [if_neg c2] at h
      refine .reg' [1, 22] [.no, .no, .c ⟨57, [(I a0.f1), (I 1), (I 24)], [], (B x1), [], [], [], [], (B x1), []⟩, .no, .v (B false), .no, .no, .no, .no, .no, .v (B false)] ⟨[(1, (.pt 256 0 3)), (22, (B (decide ((a0.f2.length : Int) > 12))))], [(256, [(.sl true a0.f0.length 1 (a0.f0.flatMap encI)), (I a0.f1), (.sl true a0.f2.length 2 (a0.f2.flatMap (e83 true)))])], [3 = 3 ∧ 1 + 1 ≤ 3, COK (hget [(256, [(.sl true a0.f0.length 1 (a0.f0.flatMap encI)), (I a0.f1), (.sl true a0.f2.length 2 (a0.f2.flatMap (e83 true)))])]) [(I a0.f1), (I 1), (I 24)] ⟨57, [(I a0.f1), (I 1), (I 24)], [], (B x1), [], [], [], [], (B x1), []⟩, (B (!x1) : V) = B false, 3 = 3 ∧ 0 + 1 ≤ 3, (B (decide ((a0.f0.length : Int) > 16)) : V) = B false, 3 = 3 ∧ 2 + 1 ≤ 3], [⟨57, [(I a0.f1), (I 1), (I 24)], [], (B x1), [], [], [], [], (B x1), []⟩]⟩ [c_ 13, c_ 7] (alc ⟨rfl, by decide⟩ (alc (cok0 false (a2c (.z .s) (a2c (.z .s) (a2c (.z .s) a2n))) (.z .s) (fun h => absurd h (by decide))) (alc (bF (nF c1)) (alc ⟨rfl, by decide⟩ (alc (bF (dF c2)) (alc ⟨rfl, by decide⟩ aln)))))) (acal (impl_between.J a0.f1 1 24 _ hx1) nocal) ?_
      by_cases c3 : (a0.f2.length : Int) > 12
      · rw [if_pos c3] at h
        refine .cond' (.tmp 22) true [c_ 52, c_ 53, c_ 7] (bT (dT c3)) ?_
        refine .reg' [2] [] ⟨[(2, (B false))], [(256, [(.sl true a0.f0.length 1 (a0.f0.flatMap encI)), (I a0.f1), (.sl true a0.f2.length 2 (a0.f2.flatMap (e83 true)))])], [], []⟩ [c_ 53, c_ 7] aln nocal ?_
        have h := Option.some.inj h
        subst h
        exact .fin0 [] (B false) [] aln (.z .s)
      · rw [if_neg c3] at h
        refine .cond' (.tmp 22) false [c_ 28, c_ 29, c_ 15] (bF (dF c3)) ?_
        refine .reg' [1, 24, 25, 26] [] ⟨[(1, (.pt 256 0 3)), (24, (.sl true a0.f0.length 1 (a0.f0.flatMap encI))), (25, (I (a0.f0.length : Int))), (26, (I 0))], [(256, [(.sl true a0.f0.length 1 (a0.f0.flatMap encI)), (I a0.f1), (.sl true a0.f2.length 2 (a0.f2.flatMap (e83 true)))])], [3 = 3 ∧ 0 + 1 ≤ 3], []⟩ [l_ 58, b_ 0, c_ 15] (alc ⟨rfl, by decide⟩ aln) nocal ?_
        exact ih0 a0 0 _ h
  · rw [if_neg c1] at h
    refine .reg' [1, 22] [.no, .no, .c ⟨57, [(I a0.f1), (I 1), (I 24)], [], (B x1), [], [], [], [], (B x1), []⟩, .no, .v (B true)] ⟨[(1, (.pt 256 0 3)), (22, (B true))], [(256, [(.sl true a0.f0.length 1 (a0.f0.flatMap encI)), (I a0.f1), (.sl true a0.f2.length 2 (a0.f2.flatMap (e83 true)))])], [3 = 3 ∧ 1 + 1 ≤ 3, COK (hget [(256, [(.sl true a0.f0.length 1 (a0.f0.flatMap encI)), (I a0.f1), (.sl true a0.f2.length 2 (a0.f2.flatMap (e83 true)))])]) [(I a0.f1), (I 1), (I 24)] ⟨57, [(I a0.f1), (I 1), (I 24)], [], (B x1), [], [], [], [], (B x1), []⟩, (B (!x1) : V) = B true], [⟨57, [(I a0.f1), (I 1), (I 24)], [], (B x1), [], [], [], [], (B x1), []⟩]⟩ [c_ 13, c_ 7] (alc ⟨rfl, by decide⟩ (alc (cok0 false (a2c (.z .s) (a2c (.z .s) (a2c (.z .s) a2n))) (.z .s) (fun h => absurd h (by decide))) (alc (bT (nT (vF c1))) aln))) (acal (impl_between.J a0.f1 1 24 _ hx1) nocal) ?_
    refine .cond' (.tmp 22) true [c_ 52, c_ 53, c_ 7] (rfl) ?_
    refine .reg' [2] [] ⟨[(2, (B false))], [(256, [(.sl true a0.f0.length 1 (a0.f0.flatMap encI)), (I a0.f1), (.sl true a0.f2.length 2 (a0.f2.flatMap (e83 true)))])], [], []⟩ [c_ 53, c_ 7] aln nocal ?_
    have h := Option.some.inj h
    subst h
    exact .fin0 [] (B false) [] aln (.z .s)
/-! impl_Bare: function 18 -/
def impl_Bare.f (k : Nat) (a0 : S29) : Option S37 := ((impl_PlantOk.f k a0).bind fun x1 => (if x1 = true then (if 0 ≤ (a0.f0.length : Int) then (if (a0.f0.length : Int) * 8 ≤ 281474976710656 then (if 0 ≤ (a0.f2.length : Int) then (if (a0.f2.length : Int) * 1 ≤ 281474976710656 then (if 0 ≤ a0.f1 then (if a0.f1 * 1 ≤ 281474976710656 then (some (⟨(List.replicate (a0.f0.length : Int).toNat (0 : Int)), (List.replicate (a0.f2.length : Int).toNat (false : Bool)), (List.replicate a0.f1.toNat (false : Bool))⟩ : S37)) else none) else none) else none) else none) else none) else none) else (some (⟨([] : List Int), ([] : List Bool), ([] : List Bool)⟩ : S37))))
theorem impl_Bare.J (k : Nat) (a0 : S29) (r : S37) (h : impl_Bare.f k a0 = some r) : J prog (.call 18 [(.ag [(.sl true a0.f0.length 1 (a0.f0.flatMap encI)), (I a0.f1), (.sl true a0.f2.length 2 (a0.f2.flatMap (e83 true)))])] [] (.ag [(.rf 1027 0 r.f0.length 1 (r.f0.length * 1)), (.rf 1031 0 r.f1.length 1 (r.f1.length * 1)), (.rf 1034 0 r.f2.length 1 (r.f2.length * 1))]) [(1027, (r.f0.flatMap encI)), (1031, (r.f1.flatMap encB)), (1034, (r.f2.flatMap encB))]) := by
  unfold impl_Bare.f at h
  refine .call' [c_ 2, c_ 3] ?_
  refine .reg' [1, 2] [] ⟨[(1, (.pt 256 0 3)), (2, (.pt 257 0 3))], [(256, [(.sl true a0.f0.length 1 (a0.f0.flatMap encI)), (I a0.f1), (.sl true a0.f2.length 2 (a0.f2.flatMap (e83 true)))]), (257, [nilS, nilS, nilS])], [], []⟩ [c_ 12, c_ 13, c_ 7] aln nocal ?_
  obtain ⟨x1, hx1, h⟩ := Option.bind_eq_some_iff.mp h
  refine .reg' [1, 2, 5] [.no, .c ⟨13, [(.ag [(.sl true a0.f0.length 1 (a0.f0.flatMap encI)), (I a0.f1), (.sl true a0.f2.length 2 (a0.f2.flatMap (e83 true)))])], [], (B x1), [], [], [], [], (B x1), []⟩] ⟨[(1, (.pt 256 0 3)), (2, (.pt 257 0 3)), (5, (B (!x1)))], [(256, [(.sl true a0.f0.length 1 (a0.f0.flatMap encI)), (I a0.f1), (.sl true a0.f2.length 2 (a0.f2.flatMap (e83 true)))]), (257, [nilS, nilS, nilS])], [3 = 3 ∧ 0 + 3 ≤ 3, COK (hget [(256, [(.sl true a0.f0.length 1 (a0.f0.flatMap encI)), (I a0.f1), (.sl true a0.f2.length 2 (a0.f2.flatMap (e83 true)))]), (257, [nilS, nilS, nilS])]) [(.ag [(.sl true a0.f0.length 1 (a0.f0.flatMap encI)), (I a0.f1), (.sl true a0.f2.length 2 (a0.f2.flatMap (e83 true)))])] ⟨13, [(.ag [(.sl true a0.f0.length 1 (a0.f0.flatMap encI)), (I a0.f1), (.sl true a0.f2.length 2 (a0.f2.flatMap (e83 true)))])], [], (B x1), [], [], [], [], (B x1), []⟩], [⟨13, [(.ag [(.sl true a0.f0.length 1 (a0.f0.flatMap encI)), (I a0.f1), (.sl true a0.f2.length 2 (a0.f2.flatMap (e83 true)))])], [], (B x1), [], [], [], [], (B x1), []⟩]⟩ [c_ 13, c_ 7] (alc ⟨rfl, by decide⟩ (alc (cok0 false (a2c (.z (frz_ag (a2c (frz_sl encI_ok (fun h => h)) (a2c .s (a2c (frz_sl (e83_ok true) (fun h => h)) a2n))))) a2n) (.z .s) (fun h => absurd h (by decide))) aln)) (acal (impl_PlantOk.J k a0 _ hx1) nocal) ?_
  by_cases c1 : x1 = true
  · rw [if_pos c1] at h
    refine .cond' (.tmp 5) false [c_ 14, c_ 15] (bF (nF c1)) ?_
    by_cases c2 : 0 ≤ (a0.f0.length : Int)
    · rw [if_pos c2] at h
      by_cases c3 : (a0.f0.length : Int) * 8 ≤ 281474976710656
      · rw [if_pos c3] at h
        by_cases c4 : 0 ≤ (a0.f2.length : Int)
        · rw [if_pos c4] at h
          by_cases c5 : (a0.f2.length : Int) * 1 ≤ 281474976710656
          · rw [if_pos c5] at h
            by_cases c6 : 0 ≤ a0.f1
            · rw [if_pos c6] at h
              by_cases c7 : a0.f1 * 1 ≤ 281474976710656
              · rw [if_pos c7] at h
                refine .reg' [2] [.no, .no, .no, .w (.rf 1027 0 ((List.replicate (a0.f0.length : Int).toNat (0 : Int)).length) 1 ((List.replicate (a0.f0.length : Int).toNat (0 : Int)).length * 1)) ((List.replicate (a0.f0.length : Int).toNat (0 : Int)).flatMap encI), .no, .no, .no, .w (.rf 1031 0 ((List.replicate (a0.f2.length : Int).toNat (false : Bool)).length) 1 ((List.replicate (a0.f2.length : Int).toNat (false : Bool)).length * 1)) ((List.replicate (a0.f2.length : Int).toNat (false : Bool)).flatMap encB), .no, .no, .w (.rf 1034 0 ((List.replicate a0.f1.toNat (false : Bool)).length) 1 ((List.replicate a0.f1.toNat (false : Bool)).length * 1)) ((List.replicate a0.f1.toNat (false : Bool)).flatMap encB)] ⟨[(2, (.pt 257 0 3))], [(256, [(.sl true a0.f0.length 1 (a0.f0.flatMap encI)), (I a0.f1), (.sl true a0.f2.length 2 (a0.f2.flatMap (e83 true)))]), (257, [(.rf 1027 0 ((List.replicate (a0.f0.length : Int).toNat (0 : Int)).length) 1 ((List.replicate (a0.f0.length : Int).toNat (0 : Int)).length * 1)), (.rf 1031 0 ((List.replicate (a0.f2.length : Int).toNat (false : Bool)).length) 1 ((List.replicate (a0.f2.length : Int).toNat (false : Bool)).length * 1)), (.rf 1034 0 ((List.replicate a0.f1.toNat (false : Bool)).length) 1 ((List.replicate a0.f1.toNat (false : Bool)).length * 1))]), (1027, ((List.replicate (a0.f0.length : Int).toNat (0 : Int)).flatMap encI)), (1031, ((List.replicate (a0.f2.length : Int).toNat (false : Bool)).flatMap encB)), (1034, ((List.replicate a0.f1.toNat (false : Bool)).flatMap encB))], [3 = 3 ∧ 0 + 1 ≤ 3, V.rf 1027 0 (a0.f0.length : Int).toNat 1 ((a0.f0.length : Int).toNat * 1) = (.rf 1027 0 ((List.replicate (a0.f0.length : Int).toNat (0 : Int)).length) 1 ((List.replicate (a0.f0.length : Int).toNat (0 : Int)).length * 1)), rept (a0.f0.length : Int).toNat [(I 0)] = (List.replicate (a0.f0.length : Int).toNat (0 : Int)).flatMap encI, (a0.f0.length : Int) = (a0.f0.length : Int) ∧ 0 ≤ (a0.f0.length : Int) ∧ (a0.f0.length : Int) * 8 ≤ 281474976710656 ∧ (a0.f0.length : Int) ≤ 9223372036854775807, 3 = 3 ∧ 2 + 1 ≤ 3, V.rf 1031 0 (a0.f2.length : Int).toNat 1 ((a0.f2.length : Int).toNat * 1) = (.rf 1031 0 ((List.replicate (a0.f2.length : Int).toNat (false : Bool)).length) 1 ((List.replicate (a0.f2.length : Int).toNat (false : Bool)).length * 1)), rept (a0.f2.length : Int).toNat [(B false)] = (List.replicate (a0.f2.length : Int).toNat (false : Bool)).flatMap encB, (a0.f2.length : Int) = (a0.f2.length : Int) ∧ 0 ≤ (a0.f2.length : Int) ∧ (a0.f2.length : Int) * 1 ≤ 281474976710656 ∧ (a0.f2.length : Int) ≤ 9223372036854775807, 3 = 3 ∧ 1 + 1 ≤ 3, V.rf 1034 0 a0.f1.toNat 1 (a0.f1.toNat * 1) = (.rf 1034 0 ((List.replicate a0.f1.toNat (false : Bool)).length) 1 ((List.replicate a0.f1.toNat (false : Bool)).length * 1)), rept a0.f1.toNat [(B false)] = (List.replicate a0.f1.toNat (false : Bool)).flatMap encB, a0.f1 = a0.f1 ∧ 0 ≤ a0.f1 ∧ a0.f1 * 1 ≤ 281474976710656 ∧ a0.f1 ≤ 9223372036854775807, 3 = 3 ∧ 0 + 3 ≤ 3], []⟩ [c_ 15] (alc ⟨rfl, by decide⟩ (alc mkV (alc (row_rept1 (enc := encI) (x := 0) (v := (I 0)) rfl _) (alc ⟨rfl, c2, c3, by omega⟩ (alc ⟨rfl, by decide⟩ (alc mkV (alc (row_rept1 (enc := encB) (x := false) (v := (B false)) rfl _) (alc ⟨rfl, c4, c5, by omega⟩ (alc ⟨rfl, by decide⟩ (alc mkV (alc (row_rept1 (enc := encB) (x := false) (v := (B false)) rfl _) (alc ⟨rfl, c6, c7, by omega⟩ (alc ⟨rfl, by decide⟩ aln))))))))))))) nocal ?_
                have h := Option.some.inj h
                subst h
                exact .fin' [] [(1027, 1027), (1031, 1031), (1034, 1034)] (.ag [(.rf 1027 0 ((List.replicate (a0.f0.length : Int).toNat (0 : Int)).length) 1 ((List.replicate (a0.f0.length : Int).toNat (0 : Int)).length * 1)), (.rf 1031 0 ((List.replicate (a0.f2.length : Int).toNat (false : Bool)).length) 1 ((List.replicate (a0.f2.length : Int).toNat (false : Bool)).length * 1)), (.rf 1034 0 ((List.replicate a0.f1.toNat (false : Bool)).length) 1 ((List.replicate a0.f1.toNat (false : Bool)).length * 1))]) [3 = 3 ∧ 0 + 3 ≤ 3] (alc ⟨rfl, by decide⟩ aln) (shc 1027 (rowF encI_ok _) (shc 1031 (rowF encB_ok _) (shc 1034 (rowF encB_ok _) shn))) (cnv_ag (a2c (.rf (memP_mem (p := (1027, 1027)) rfl)) (a2c (.rf (memP_mem (p := (1031, 1031)) rfl)) (a2c (.rf (memP_mem (p := (1034, 1034)) rfl)) a2n))))
              · rw [if_neg c7] at h
                cases h
            · rw [if_neg c6] at h
              cases h
          · rw [if_neg c5] at h
            cases h
        · rw [if_neg c4] at h
          cases h
      · rw [if_neg c3] at h
        cases h
    · rw [if_neg c2] at h
      cases h
  · rw [if_neg c1] at h
    refine .cond' (.tmp 5) true [c_ 52, c_ 53, c_ 7] (bT (nT (vF c1))) ?_
    refine .reg' [2] [] ⟨[(2, (.pt 257 0 3))], [(256, [(.sl true a0.f0.length 1 (a0.f0.flatMap encI)), (I a0.f1), (.sl true a0.f2.length 2 (a0.f2.flatMap (e83 true)))]), (257, [nilS, nilS, nilS])], [3 = 3 ∧ 0 + 3 ≤ 3], []⟩ [c_ 53, c_ 7] (alc ⟨rfl, by decide⟩ aln) nocal ?_
    have h := Option.some.inj h
    subst h
    refine .nl' 1027 ?_
    refine .nl' 1031 ?_
    refine .nl' 1034 ?_
    exact .fin' [] [(1027, 1027), (1031, 1031), (1034, 1034)] (.ag [nilS, nilS, nilS]) [3 = 3 ∧ 0 + 3 ≤ 3] (alc ⟨rfl, by decide⟩ aln) (shc 1027 (rowF encI_ok _) (shc 1031 (rowF encB_ok _) (shc 1034 (rowF encB_ok _) shn))) (cnv_ag (a2c (.nl (memP_mem (p := (1027, 1027)) rfl) rfl) (a2c (.nl (memP_mem (p := (1031, 1031)) rfl) rfl) (a2c (.nl (memP_mem (p := (1034, 1034)) rfl) rfl) a2n))))
/-! laws_eqIntS: function 41 -/
def laws_eqIntS.l0 : Nat → (List Int) → (List Int) → Int → Option Bool
 | 0, _, _, _ => none
 | k + 1, a0, a1, x1 => (if x1 < (a0.length : Int) then (if 0 ≤ x1 then (if x1 < (a1.length : Int) then (if (at_ a0 x1) = (at_ a1 x1) then (laws_eqIntS.l0 k a0 a1 (wrap64 (x1 + 1))) else (some false)) else none) else none) else (some true))
def laws_eqIntS.f (k : Nat) (a0 : (List Int)) (a1 : (List Int)) : Option Bool := (if (a0.length : Int) = (a1.length : Int) then (laws_eqIntS.l0 k a0 a1 0) else (some false))
theorem laws_eqIntS.lab : ∀ k, (∀ (a0 : (List Int)) (a1 : (List Int)) (x1 : Int) (r : Bool), laws_eqIntS.l0 k a0 a1 x1 = some r → J prog (.run 41 [] [l_ 58, b_ 0, c_ 15] [(0, (.sl true a0.length 1 (a0.flatMap encI))), (1, (.sl true a1.length 1 (a1.flatMap encI))), (5, (I x1))] [] (B r) []))
 | 0 => (by intro a0 a1 x1 r h; unfold laws_eqIntS.l0 at h; cases h)
 | k + 1 => by
  have ih0 := laws_eqIntS.lab k
  · intro a0 a1 x1 r h
    unfold laws_eqIntS.l0 at h
    refine .loop' [c_ 464, c_ 465, c_ 233, l_ 58, b_ 0, c_ 15] ?_
    refine .reg' [0, 1, 5, 14] [] ⟨[(0, (.sl true a0.length 1 (a0.flatMap encI))), (1, (.sl true a1.length 1 (a1.flatMap encI))), (5, (I x1)), (14, (B (decide (x1 < (a0.length : Int)))))], [], [], []⟩ [c_ 465, c_ 233, l_ 58, b_ 0, c_ 15] aln nocal ?_
    by_cases c2 : x1 < (a0.length : Int)
    · rw [if_pos c2] at h
      refine .cond' (.tmp 14) true [c_ 1864, c_ 1865, b_ 1, c_ 467, l_ 58, b_ 0, c_ 15] (bT (dT c2)) ?_
      by_cases c3 : 0 ≤ x1
      · rw [if_pos c3] at h
        by_cases c4 : x1 < (a1.length : Int)
        · rw [if_pos c4] at h
          refine .reg' [0, 1, 5, 25] [.no, .no, .no, .v (I (at_ a0 x1)), .no, .no, .no, .v (I (at_ a1 x1))] ⟨[(0, (.sl true a0.length 1 (a0.flatMap encI))), (1, (.sl true a1.length 1 (a1.flatMap encI))), (5, (I x1)), (25, (B (!((at_ a0 x1) == (at_ a1 x1)))))], [], [(0 : Int) ≤ x1 ∧ x1 < (a0.length : Int), rdC prog 3 ((a0.flatMap encI).drop (x1.toNat * 1)) = (I (at_ a0 x1)), 1 ≤ ((a0.flatMap encI).drop (x1.toNat * 1)).length, (0 : Int) ≤ x1 ∧ x1 < (a1.length : Int), rdC prog 3 ((a1.flatMap encI).drop (x1.toNat * 1)) = (I (at_ a1 x1)), 1 ≤ ((a1.flatMap encI).drop (x1.toNat * 1)).length], []⟩ [c_ 1865, b_ 1, c_ 467, l_ 58, b_ 0, c_ 15] (alc ⟨c3, c2⟩ (alc (ldC1 encI_ok rfl c3 c2) (alc (okI encI_ok c3 c2 (by decide)) (alc ⟨c3, c4⟩ (alc (ldC1 encI_ok rfl c3 c4) (alc (okI encI_ok c3 c4 (by decide)) aln)))))) nocal ?_
          by_cases c5 : (at_ a0 x1) = (at_ a1 x1)
          · rw [if_pos c5] at h
            refine .cond' (.tmp 25) false [c_ 467, l_ 58, b_ 0, c_ 15] (bF (nF (qT c5))) ?_
            refine .reg' [0, 1, 5] [] ⟨[(0, (.sl true a0.length 1 (a0.flatMap encI))), (1, (.sl true a1.length 1 (a1.flatMap encI))), (5, (I (wrap64 (x1 + 1))))], [], [], []⟩ [l_ 58, b_ 0, c_ 15] aln nocal ?_
            exact ih0 a0 a1 (wrap64 (x1 + 1)) _ h
          · rw [if_neg c5] at h
            refine .cond' (.tmp 25) true [c_ 7460, c_ 7461, b_ 1, c_ 467, l_ 58, b_ 0, c_ 15] (bT (nT (qF c5))) ?_
            refine .reg' [4] [] ⟨[(4, (B false))], [], [], []⟩ [c_ 7461, b_ 1, c_ 467, l_ 58, b_ 0, c_ 15] aln nocal ?_
            have h := Option.some.inj h
            subst h
            exact .fin0 [] (B false) [] aln (.z .s)
        · rw [if_neg c4] at h
          cases h
      · rw [if_neg c3] at h
        cases h
    · rw [if_neg c2] at h
      refine .cond' (.tmp 14) false [c_ 30, c_ 31] (bF (dF c2)) ?_
      refine .reg' [4] [] ⟨[(4, (B true))], [], [], []⟩ [c_ 31] aln nocal ?_
      have h := Option.some.inj h
      subst h
      exact .fin0 [] (B true) [] aln (.z .s)
theorem laws_eqIntS.J (k : Nat) (a0 : (List Int)) (a1 : (List Int)) (r : Bool) (h : laws_eqIntS.f k a0 a1 = some r) : J prog (.call 41 [(.sl true a0.length 1 (a0.flatMap encI)), (.sl true a1.length 1 (a1.flatMap encI))] [] (B r) []) := by
  unfold laws_eqIntS.f at h
  have ih0 := laws_eqIntS.lab k
  refine .call' [c_ 2, c_ 3] ?_
  refine .reg' [0, 1] [] ⟨[(0, (.sl true a0.length 1 (a0.flatMap encI))), (1, (.sl true a1.length 1 (a1.flatMap encI)))], [], [], []⟩ [c_ 12, c_ 13, c_ 7] aln nocal ?_
  refine .reg' [0, 1, 10] [] ⟨[(0, (.sl true a0.length 1 (a0.flatMap encI))), (1, (.sl true a1.length 1 (a1.flatMap encI))), (10, (B (!((a0.length : Int) == (a1.length : Int)))))], [], [], []⟩ [c_ 13, c_ 7] aln nocal ?_
  by_cases c1 : (a0.length : Int) = (a1.length : Int)
  · rw [if_pos c1] at h
    refine .cond' (.tmp 10) false [c_ 28, c_ 29, c_ 15] (bF (nF (qT c1))) ?_
    refine .reg' [0, 1, 5] [] ⟨[(0, (.sl true a0.length 1 (a0.flatMap encI))), (1, (.sl true a1.length 1 (a1.flatMap encI))), (5, (I 0))], [], [], []⟩ [l_ 58, b_ 0, c_ 15] aln nocal ?_
    exact ih0 a0 a1 0 _ h
  · rw [if_neg c1] at h
    refine .cond' (.tmp 10) true [c_ 52, c_ 53, c_ 7] (bT (nT (qF c1))) ?_
    refine .reg' [4] [] ⟨[(4, (B false))], [], [], []⟩ [c_ 53, c_ 7] aln nocal ?_
    have h := Option.some.inj h
    subst h
    exact .fin0 [] (B false) [] aln (.z .s)
/-! laws_eqBoolS: function 62 -/
def laws_eqBoolS.l0 : Nat → (List Bool) → (List Bool) → Int → Option Bool
 | 0, _, _, _ => none
 | k + 1, a0, a1, x1 => (if x1 < (a0.length : Int) then (if 0 ≤ x1 then (if x1 < (a1.length : Int) then (if ((at_ a0 x1) == (at_ a1 x1)) = true then (laws_eqBoolS.l0 k a0 a1 (wrap64 (x1 + 1))) else (some false)) else none) else none) else (some true))
def laws_eqBoolS.f (k : Nat) (a0 : (List Bool)) (a1 : (List Bool)) : Option Bool := (if (a0.length : Int) = (a1.length : Int) then (laws_eqBoolS.l0 k a0 a1 0) else (some false))
theorem laws_eqBoolS.lab : ∀ k, (∀ (a0 : (List Bool)) (a1 : (List Bool)) (x1 : Int) (r : Bool), laws_eqBoolS.l0 k a0 a1 x1 = some r → J prog (.run 62 [] [l_ 58, b_ 0, c_ 15] [(0, (.sl true a0.length 1 (a0.flatMap encB))), (1, (.sl true a1.length 1 (a1.flatMap encB))), (5, (I x1))] [] (B r) []))
 | 0 => (by intro a0 a1 x1 r h; unfold laws_eqBoolS.l0 at h; cases h)
 | k + 1 => by
  have ih0 := laws_eqBoolS.lab k
  · intro a0 a1 x1 r h
    unfold laws_eqBoolS.l0 at h
    refine .loop' [c_ 464, c_ 465, c_ 233, l_ 58, b_ 0, c_ 15] ?_
    refine .reg' [0, 1, 5, 14] [] ⟨[(0, (.sl true a0.length 1 (a0.flatMap encB))), (1, (.sl true a1.length 1 (a1.flatMap encB))), (5, (I x1)), (14, (B (decide (x1 < (a0.length : Int)))))], [], [], []⟩ [c_ 465, c_ 233, l_ 58, b_ 0, c_ 15] aln nocal ?_
    by_cases c2 : x1 < (a0.length : Int)
    · rw [if_pos c2] at h
      refine .cond' (.tmp 14) true [c_ 1864, c_ 1865, b_ 1, c_ 467, l_ 58, b_ 0, c_ 15] (bT (dT c2)) ?_
      by_cases c3 : 0 ≤ x1
      · rw [if_pos c3] at h
        by_cases c4 : x1 < (a1.length : Int)
        · rw [if_pos c4] at h
          refine .reg' [0, 1, 5, 25] [.no, .no, .no, .v (B (at_ a0 x1)), .no, .no, .no, .v (B (at_ a1 x1))] ⟨[(0, (.sl true a0.length 1 (a0.flatMap encB))), (1, (.sl true a1.length 1 (a1.flatMap encB))), (5, (I x1)), (25, (B (!((at_ a0 x1) == (at_ a1 x1)))))], [], [(0 : Int) ≤ x1 ∧ x1 < (a0.length : Int), rdC prog 4 ((a0.flatMap encB).drop (x1.toNat * 1)) = (B (at_ a0 x1)), 1 ≤ ((a0.flatMap encB).drop (x1.toNat * 1)).length, (0 : Int) ≤ x1 ∧ x1 < (a1.length : Int), rdC prog 4 ((a1.flatMap encB).drop (x1.toNat * 1)) = (B (at_ a1 x1)), 1 ≤ ((a1.flatMap encB).drop (x1.toNat * 1)).length], []⟩ [c_ 1865, b_ 1, c_ 467, l_ 58, b_ 0, c_ 15] (alc ⟨c3, c2⟩ (alc (ldC1 encB_ok rfl c3 c2) (alc (okI encB_ok c3 c2 (by decide)) (alc ⟨c3, c4⟩ (alc (ldC1 encB_ok rfl c3 c4) (alc (okI encB_ok c3 c4 (by decide)) aln)))))) nocal ?_
          by_cases c5 : ((at_ a0 x1) == (at_ a1 x1)) = true
          · rw [if_pos c5] at h
            refine .cond' (.tmp 25) false [c_ 467, l_ 58, b_ 0, c_ 15] (bF (nF c5)) ?_
            refine .reg' [0, 1, 5] [] ⟨[(0, (.sl true a0.length 1 (a0.flatMap encB))), (1, (.sl true a1.length 1 (a1.flatMap encB))), (5, (I (wrap64 (x1 + 1))))], [], [], []⟩ [l_ 58, b_ 0, c_ 15] aln nocal ?_
            exact ih0 a0 a1 (wrap64 (x1 + 1)) _ h
          · rw [if_neg c5] at h
            refine .cond' (.tmp 25) true [c_ 7460, c_ 7461, b_ 1, c_ 467, l_ 58, b_ 0, c_ 15] (bT (nT (vF c5))) ?_
            refine .reg' [4] [] ⟨[(4, (B false))], [], [], []⟩ [c_ 7461, b_ 1, c_ 467, l_ 58, b_ 0, c_ 15] aln nocal ?_
            have h := Option.some.inj h
            subst h
            exact .fin0 [] (B false) [] aln (.z .s)
        · rw [if_neg c4] at h
          cases h
      · rw [if_neg c3] at h
        cases h
    · rw [if_neg c2] at h
      refine .cond' (.tmp 14) false [c_ 30, c_ 31] (bF (dF c2)) ?_
      refine .reg' [4] [] ⟨[(4, (B true))], [], [], []⟩ [c_ 31] aln nocal ?_
      have h := Option.some.inj h
      subst h
      exact .fin0 [] (B true) [] aln (.z .s)
theorem laws_eqBoolS.J (k : Nat) (a0 : (List Bool)) (a1 : (List Bool)) (r : Bool) (h : laws_eqBoolS.f k a0 a1 = some r) : J prog (.call 62 [(.sl true a0.length 1 (a0.flatMap encB)), (.sl true a1.length 1 (a1.flatMap encB))] [] (B r) []) := by
  unfold laws_eqBoolS.f at h
  have ih0 := laws_eqBoolS.lab k
  refine .call' [c_ 2, c_ 3] ?_
  refine .reg' [0, 1] [] ⟨[(0, (.sl true a0.length 1 (a0.flatMap encB))), (1, (.sl true a1.length 1 (a1.flatMap encB)))], [], [], []⟩ [c_ 12, c_ 13, c_ 7] aln nocal ?_
  refine .reg' [0, 1, 10] [] ⟨[(0, (.sl true a0.length 1 (a0.flatMap encB))), (1, (.sl true a1.length 1 (a1.flatMap encB))), (10, (B (!((a0.length : Int) == (a1.length : Int)))))], [], [], []⟩ [c_ 13, c_ 7] aln nocal ?_
  by_cases c1 : (a0.length : Int) = (a1.length : Int)
  · rw [if_pos c1] at h
    refine .cond' (.tmp 10) false [c_ 28, c_ 29, c_ 15] (bF (nF (qT c1))) ?_
    refine .reg' [0, 1, 5] [] ⟨[(0, (.sl true a0.length 1 (a0.flatMap encB))), (1, (.sl true a1.length 1 (a1.flatMap encB))), (5, (I 0))], [], [], []⟩ [l_ 58, b_ 0, c_ 15] aln nocal ?_
    exact ih0 a0 a1 0 _ h
  · rw [if_neg c1] at h
    refine .cond' (.tmp 10) true [c_ 52, c_ 53, c_ 7] (bT (nT (qF c1))) ?_
    refine .reg' [4] [] ⟨[(4, (B false))], [], [], []⟩ [c_ 53, c_ 7] aln nocal ?_
    have h := Option.some.inj h
    subst h
    exact .fin0 [] (B false) [] aln (.z .s)
/-! laws_eqLocking: function 19 -/
def laws_eqLocking.f (k : Nat) (a0 : S37) (a1 : S37) : Option Bool := ((laws_eqIntS.f k a0.f0 a1.f0).bind fun x1 => (if x1 = true then ((laws_eqBoolS.f k a0.f1 a1.f1).bind fun x2 => (if x2 = true then ((laws_eqBoolS.f k a0.f2 a1.f2).bind fun x3 => (if x3 = true then (some true) else (some false))) else (some false))) else (some false)))
theorem laws_eqLocking.J (k : Nat) (a0 : S37) (a1 : S37) (r : Bool) (h : laws_eqLocking.f k a0 a1 = some r) : J prog (.call 19 [(.ag [(.sl true a0.f0.length 1 (a0.f0.flatMap encI)), (.sl true a0.f1.length 1 (a0.f1.flatMap encB)), (.sl true a0.f2.length 1 (a0.f2.flatMap encB))]), (.ag [(.sl true a1.f0.length 1 (a1.f0.flatMap encI)), (.sl true a1.f1.length 1 (a1.f1.flatMap encB)), (.sl true a1.f2.length 1 (a1.f2.flatMap encB))])] [] (B r) []) := by
  unfold laws_eqLocking.f at h
  refine .call' [c_ 2, c_ 3] ?_
  refine .reg' [2, 3] [] ⟨[(2, (.pt 256 0 3)), (3, (.pt 257 0 3))], [(256, [(.sl true a0.f0.length 1 (a0.f0.flatMap encI)), (.sl true a0.f1.length 1 (a0.f1.flatMap encB)), (.sl true a0.f2.length 1 (a0.f2.flatMap encB))]), (257, [(.sl true a1.f0.length 1 (a1.f0.flatMap encI)), (.sl true a1.f1.length 1 (a1.f1.flatMap encB)), (.sl true a1.f2.length 1 (a1.f2.flatMap encB))])], [], []⟩ [c_ 12, c_ 13, c_ 7] aln nocal ?_
  obtain ⟨x1, hx1, h⟩ := Option.bind_eq_some_iff.mp h
  refine .reg' [2, 3, 10] [.no, .no, .no, .no, .c ⟨41, [(.sl true a0.f0.length 1 (a0.f0.flatMap encI)), (.sl true a1.f0.length 1 (a1.f0.flatMap encI))], [], (B x1), [], [], [], [], (B x1), []⟩] ⟨[(2, (.pt 256 0 3)), (3, (.pt 257 0 3)), (10, (B (!x1)))], [(256, [(.sl true a0.f0.length 1 (a0.f0.flatMap encI)), (.sl true a0.f1.length 1 (a0.f1.flatMap encB)), (.sl true a0.f2.length 1 (a0.f2.flatMap encB))]), (257, [(.sl true a1.f0.length 1 (a1.f0.flatMap encI)), (.sl true a1.f1.length 1 (a1.f1.flatMap encB)), (.sl true a1.f2.length 1 (a1.f2.flatMap encB))])], [3 = 3 ∧ 0 + 1 ≤ 3, 3 = 3 ∧ 0 + 1 ≤ 3, COK (hget [(256, [(.sl true a0.f0.length 1 (a0.f0.flatMap encI)), (.sl true a0.f1.length 1 (a0.f1.flatMap encB)), (.sl true a0.f2.length 1 (a0.f2.flatMap encB))]), (257, [(.sl true a1.f0.length 1 (a1.f0.flatMap encI)), (.sl true a1.f1.length 1 (a1.f1.flatMap encB)), (.sl true a1.f2.length 1 (a1.f2.flatMap encB))])]) [(.sl true a0.f0.length 1 (a0.f0.flatMap encI)), (.sl true a1.f0.length 1 (a1.f0.flatMap encI))] ⟨41, [(.sl true a0.f0.length 1 (a0.f0.flatMap encI)), (.sl true a1.f0.length 1 (a1.f0.flatMap encI))], [], (B x1), [], [], [], [], (B x1), []⟩], [⟨41, [(.sl true a0.f0.length 1 (a0.f0.flatMap encI)), (.sl true a1.f0.length 1 (a1.f0.flatMap encI))], [], (B x1), [], [], [], [], (B x1), []⟩]⟩ [c_ 13, c_ 7] (alc ⟨rfl, by decide⟩ (alc ⟨rfl, by decide⟩ (alc (cok0 false (a2c (.z (frz_sl encI_ok (fun h => h))) (a2c (.z (frz_sl encI_ok (fun h => h))) a2n)) (.z .s) (fun h => absurd h (by decide))) aln))) (acal (laws_eqIntS.J k a0.f0 a1.f0 _ hx1) nocal) ?_
  by_cases c1 : x1 = true
  · rw [if_pos c1] at h
    refine .cond' (.tmp 10) false [c_ 28, c_ 29, c_ 15] (bF (nF c1)) ?_
    obtain ⟨x2, hx2, h⟩ := Option.bind_eq_some_iff.mp h
    refine .reg' [2, 3, 16] [.no, .no, .no, .no, .c ⟨62, [(.sl true a0.f1.length 1 (a0.f1.flatMap encB)), (.sl true a1.f1.length 1 (a1.f1.flatMap encB))], [], (B x2), [], [], [], [], (B x2), []⟩] ⟨[(2, (.pt 256 0 3)), (3, (.pt 257 0 3)), (16, (B (!x2)))], [(256, [(.sl true a0.f0.length 1 (a0.f0.flatMap encI)), (.sl true a0.f1.length 1 (a0.f1.flatMap encB)), (.sl true a0.f2.length 1 (a0.f2.flatMap encB))]), (257, [(.sl true a1.f0.length 1 (a1.f0.flatMap encI)), (.sl true a1.f1.length 1 (a1.f1.flatMap encB)), (.sl true a1.f2.length 1 (a1.f2.flatMap encB))])], [3 = 3 ∧ 1 + 1 ≤ 3, 3 = 3 ∧ 1 + 1 ≤ 3, COK (hget [(256, [(.sl true a0.f0.length 1 (a0.f0.flatMap encI)), (.sl true a0.f1.length 1 (a0.f1.flatMap encB)), (.sl true a0.f2.length 1 (a0.f2.flatMap encB))]), (257, [(.sl true a1.f0.length 1 (a1.f0.flatMap encI)), (.sl true a1.f1.length 1 (a1.f1.flatMap encB)), (.sl true a1.f2.length 1 (a1.f2.flatMap encB))])]) [(.sl true a0.f1.length 1 (a0.f1.flatMap encB)), (.sl true a1.f1.length 1 (a1.f1.flatMap encB))] ⟨62, [(.sl true a0.f1.length 1 (a0.f1.flatMap encB)), (.sl true a1.f1.length 1 (a1.f1.flatMap encB))], [], (B x2), [], [], [], [], (B x2), []⟩], [⟨62, [(.sl true a0.f1.length 1 (a0.f1.flatMap encB)), (.sl true a1.f1.length 1 (a1.f1.flatMap encB))], [], (B x2), [], [], [], [], (B x2), []⟩]⟩ [c_ 29, c_ 15] (alc ⟨rfl, by decide⟩ (alc ⟨rfl, by decide⟩ (alc (cok0 false (a2c (.z (frz_sl encB_ok (fun h => h))) (a2c (.z (frz_sl encB_ok (fun h => h))) a2n)) (.z .s) (fun h => absurd h (by decide))) aln))) (acal (laws_eqBoolS.J k a0.f1 a1.f1 _ hx2) nocal) ?_
    by_cases c2 : x2 = true
    · rw [if_pos c2] at h
      refine .cond' (.tmp 16) false [c_ 60, c_ 61, c_ 31] (bF (nF c2)) ?_
      obtain ⟨x3, hx3, h⟩ := Option.bind_eq_some_iff.mp h
      refine .reg' [22] [.no, .no, .no, .no, .c ⟨62, [(.sl true a0.f2.length 1 (a0.f2.flatMap encB)), (.sl true a1.f2.length 1 (a1.f2.flatMap encB))], [], (B x3), [], [], [], [], (B x3), []⟩] ⟨[(22, (B (!x3)))], [(256, [(.sl true a0.f0.length 1 (a0.f0.flatMap encI)), (.sl true a0.f1.length 1 (a0.f1.flatMap encB)), (.sl true a0.f2.length 1 (a0.f2.flatMap encB))]), (257, [(.sl true a1.f0.length 1 (a1.f0.flatMap encI)), (.sl true a1.f1.length 1 (a1.f1.flatMap encB)), (.sl true a1.f2.length 1 (a1.f2.flatMap encB))])], [3 = 3 ∧ 2 + 1 ≤ 3, 3 = 3 ∧ 2 + 1 ≤ 3, COK (hget [(256, [(.sl true a0.f0.length 1 (a0.f0.flatMap encI)), (.sl true a0.f1.length 1 (a0.f1.flatMap encB)), (.sl true a0.f2.length 1 (a0.f2.flatMap encB))]), (257, [(.sl true a1.f0.length 1 (a1.f0.flatMap encI)), (.sl true a1.f1.length 1 (a1.f1.flatMap encB)), (.sl true a1.f2.length 1 (a1.f2.flatMap encB))])]) [(.sl true a0.f2.length 1 (a0.f2.flatMap encB)), (.sl true a1.f2.length 1 (a1.f2.flatMap encB))] ⟨62, [(.sl true a0.f2.length 1 (a0.f2.flatMap encB)), (.sl true a1.f2.length 1 (a1.f2.flatMap encB))], [], (B x3), [], [], [], [], (B x3), []⟩], [⟨62, [(.sl true a0.f2.length 1 (a0.f2.flatMap encB)), (.sl true a1.f2.length 1 (a1.f2.flatMap encB))], [], (B x3), [], [], [], [], (B x3), []⟩]⟩ [c_ 61, c_ 31] (alc ⟨rfl, by decide⟩ (alc ⟨rfl, by decide⟩ (alc (cok0 false (a2c (.z (frz_sl encB_ok (fun h => h))) (a2c (.z (frz_sl encB_ok (fun h => h))) a2n)) (.z .s) (fun h => absurd h (by decide))) aln))) (acal (laws_eqBoolS.J k a0.f2 a1.f2 _ hx3) nocal) ?_
      by_cases c3 : x3 = true
      · rw [if_pos c3] at h
        refine .cond' (.tmp 22) false [c_ 62, c_ 63] (bF (nF c3)) ?_
        refine .reg' [4] [] ⟨[(4, (B true))], [(256, [(.sl true a0.f0.length 1 (a0.f0.flatMap encI)), (.sl true a0.f1.length 1 (a0.f1.flatMap encB)), (.sl true a0.f2.length 1 (a0.f2.flatMap encB))]), (257, [(.sl true a1.f0.length 1 (a1.f0.flatMap encI)), (.sl true a1.f1.length 1 (a1.f1.flatMap encB)), (.sl true a1.f2.length 1 (a1.f2.flatMap encB))])], [], []⟩ [c_ 63] aln nocal ?_
        have h := Option.some.inj h
        subst h
        exact .fin0 [] (B true) [] aln (.z .s)
      · rw [if_neg c3] at h
        refine .cond' (.tmp 22) true [c_ 244, c_ 245, c_ 31] (bT (nT (vF c3))) ?_
        refine .reg' [4] [] ⟨[(4, (B false))], [(256, [(.sl true a0.f0.length 1 (a0.f0.flatMap encI)), (.sl true a0.f1.length 1 (a0.f1.flatMap encB)), (.sl true a0.f2.length 1 (a0.f2.flatMap encB))]), (257, [(.sl true a1.f0.length 1 (a1.f0.flatMap encI)), (.sl true a1.f1.length 1 (a1.f1.flatMap encB)), (.sl true a1.f2.length 1 (a1.f2.flatMap encB))])], [], []⟩ [c_ 245, c_ 31] aln nocal ?_
        have h := Option.some.inj h
        subst h
        exact .fin0 [] (B false) [] aln (.z .s)
    · rw [if_neg c2] at h
      refine .cond' (.tmp 16) true [c_ 116, c_ 117, c_ 15] (bT (nT (vF c2))) ?_
      refine .reg' [4] [] ⟨[(4, (B false))], [(256, [(.sl true a0.f0.length 1 (a0.f0.flatMap encI)), (.sl true a0.f1.length 1 (a0.f1.flatMap encB)), (.sl true a0.f2.length 1 (a0.f2.flatMap encB))]), (257, [(.sl true a1.f0.length 1 (a1.f0.flatMap encI)), (.sl true a1.f1.length 1 (a1.f1.flatMap encB)), (.sl true a1.f2.length 1 (a1.f2.flatMap encB))])], [], []⟩ [c_ 117, c_ 15] aln nocal ?_
      have h := Option.some.inj h
      subst h
      exact .fin0 [] (B false) [] aln (.z .s)
  · rw [if_neg c1] at h
    refine .cond' (.tmp 10) true [c_ 52, c_ 53, c_ 7] (bT (nT (vF c1))) ?_
    refine .reg' [4] [] ⟨[(4, (B false))], [(256, [(.sl true a0.f0.length 1 (a0.f0.flatMap encI)), (.sl true a0.f1.length 1 (a0.f1.flatMap encB)), (.sl true a0.f2.length 1 (a0.f2.flatMap encB))]), (257, [(.sl true a1.f0.length 1 (a1.f0.flatMap encI)), (.sl true a1.f1.length 1 (a1.f1.flatMap encB)), (.sl true a1.f2.length 1 (a1.f2.flatMap encB))])], [], []⟩ [c_ 53, c_ 7] aln nocal ?_
    have h := Option.some.inj h
    subst h
    exact .fin0 [] (B false) [] aln (.z .s)
/-! laws_eqNeed: function 130 -/
def laws_eqNeed.f (a0 : S93) (a1 : S93) : Option Bool := (if a0.f0 = a1.f0 then (if a0.f1 = a1.f1 then (some true) else (some false)) else (some false))
theorem laws_eqNeed.J (a0 : S93) (a1 : S93) (r : Bool) (h : laws_eqNeed.f a0 a1 = some r) : J prog (.call 130 [(.ag [(I a0.f0), (I a0.f1)]), (.ag [(I a1.f0), (I a1.f1)])] [] (B r) []) := by
  unfold laws_eqNeed.f at h
  refine .call' [c_ 2, c_ 3] ?_
  refine .reg' [2, 3] [] ⟨[(2, (.pt 256 0 2)), (3, (.pt 257 0 2))], [(256, [(I a0.f0), (I a0.f1)]), (257, [(I a1.f0), (I a1.f1)])], [], []⟩ [c_ 12, c_ 13, c_ 7] aln nocal ?_
  refine .reg' [2, 3, 9] [] ⟨[(2, (.pt 256 0 2)), (3, (.pt 257 0 2)), (9, (B (!(a0.f0 == a1.f0))))], [(256, [(I a0.f0), (I a0.f1)]), (257, [(I a1.f0), (I a1.f1)])], [2 = 2 ∧ 0 + 1 ≤ 2, 2 = 2 ∧ 0 + 1 ≤ 2], []⟩ [c_ 13, c_ 7] (alc ⟨rfl, by decide⟩ (alc ⟨rfl, by decide⟩ aln)) nocal ?_
  by_cases c1 : a0.f0 = a1.f0
  · rw [if_pos c1] at h
    refine .cond' (.tmp 9) false [c_ 28, c_ 29, c_ 15] (bF (nF (qT c1))) ?_
    refine .reg' [14] [] ⟨[(14, (B (!(a0.f1 == a1.f1))))], [(256, [(I a0.f0), (I a0.f1)]), (257, [(I a1.f0), (I a1.f1)])], [2 = 2 ∧ 1 + 1 ≤ 2, 2 = 2 ∧ 1 + 1 ≤ 2], []⟩ [c_ 29, c_ 15] (alc ⟨rfl, by decide⟩ (alc ⟨rfl, by decide⟩ aln)) nocal ?_
    by_cases c2 : a0.f1 = a1.f1
    · rw [if_pos c2] at h
      refine .cond' (.tmp 14) false [c_ 30, c_ 31] (bF (nF (qT c2))) ?_
      refine .reg' [4] [] ⟨[(4, (B true))], [(256, [(I a0.f0), (I a0.f1)]), (257, [(I a1.f0), (I a1.f1)])], [], []⟩ [c_ 31] aln nocal ?_
      have h := Option.some.inj h
      subst h
      exact .fin0 [] (B true) [] aln (.z .s)
    · rw [if_neg c2] at h
      refine .cond' (.tmp 14) true [c_ 116, c_ 117, c_ 15] (bT (nT (qF c2))) ?_
      refine .reg' [4] [] ⟨[(4, (B false))], [(256, [(I a0.f0), (I a0.f1)]), (257, [(I a1.f0), (I a1.f1)])], [], []⟩ [c_ 117, c_ 15] aln nocal ?_
      have h := Option.some.inj h
      subst h
      exact .fin0 [] (B false) [] aln (.z .s)
  · rw [if_neg c1] at h
    refine .cond' (.tmp 9) true [c_ 52, c_ 53, c_ 7] (bT (nT (qF c1))) ?_
    refine .reg' [4] [] ⟨[(4, (B false))], [(256, [(I a0.f0), (I a0.f1)]), (257, [(I a1.f0), (I a1.f1)])], [], []⟩ [c_ 53, c_ 7] aln nocal ?_
    have h := Option.some.inj h
    subst h
    exact .fin0 [] (B false) [] aln (.z .s)
/-! laws_eqNeedS: function 118 -/
def laws_eqNeedS.l0 : Nat → (List S93) → (List S93) → Int → Option Bool
 | 0, _, _, _ => none
 | k + 1, a0, a1, x1 => (if x1 < (a0.length : Int) then (if 0 ≤ x1 then (if x1 < (a1.length : Int) then ((laws_eqNeed.f (at_ a0 x1) (at_ a1 x1)).bind fun x2 => (if x2 = true then (laws_eqNeedS.l0 k a0 a1 (wrap64 (x1 + 1))) else (some false))) else none) else none) else (some true))
def laws_eqNeedS.f (k : Nat) (a0 : (List S93)) (a1 : (List S93)) : Option Bool := (if (a0.length : Int) = (a1.length : Int) then (laws_eqNeedS.l0 k a0 a1 0) else (some false))
theorem laws_eqNeedS.lab : ∀ k, (∀ (a0 : (List S93)) (a1 : (List S93)) (x1 : Int) (r : Bool), laws_eqNeedS.l0 k a0 a1 x1 = some r → J prog (.run 118 [] [l_ 58, b_ 0, c_ 15] [(0, (.sl true a0.length 2 (a0.flatMap e93))), (1, (.sl true a1.length 2 (a1.flatMap e93))), (5, (I x1))] [] (B r) []))
 | 0 => (by intro a0 a1 x1 r h; unfold laws_eqNeedS.l0 at h; cases h)
 | k + 1 => by
  have ih0 := laws_eqNeedS.lab k
  · intro a0 a1 x1 r h
    unfold laws_eqNeedS.l0 at h
    refine .loop' [c_ 464, c_ 465, c_ 233, l_ 58, b_ 0, c_ 15] ?_
    refine .reg' [0, 1, 5, 14] [] ⟨[(0, (.sl true a0.length 2 (a0.flatMap e93))), (1, (.sl true a1.length 2 (a1.flatMap e93))), (5, (I x1)), (14, (B (decide (x1 < (a0.length : Int)))))], [], [], []⟩ [c_ 465, c_ 233, l_ 58, b_ 0, c_ 15] aln nocal ?_
    by_cases c2 : x1 < (a0.length : Int)
    · rw [if_pos c2] at h
      refine .cond' (.tmp 14) true [c_ 1864, c_ 1865, b_ 1, c_ 467, l_ 58, b_ 0, c_ 15] (bT (dT c2)) ?_
      by_cases c3 : 0 ≤ x1
      · rw [if_pos c3] at h
        by_cases c4 : x1 < (a1.length : Int)
        · rw [if_pos c4] at h
          obtain ⟨x2, hx2, h⟩ := Option.bind_eq_some_iff.mp h
          refine .reg' [0, 1, 5, 26] [.no, .no, .no, .v (.ag [(I (at_ a0 x1).f0), (I (at_ a0 x1).f1)]), .no, .no, .no, .v (.ag [(I (at_ a1 x1).f0), (I (at_ a1 x1).f1)]), .c ⟨130, [(.ag [(I (at_ a0 x1).f0), (I (at_ a0 x1).f1)]), (.ag [(I (at_ a1 x1).f0), (I (at_ a1 x1).f1)])], [], (B x2), [], [], [], [], (B x2), []⟩] ⟨[(0, (.sl true a0.length 2 (a0.flatMap e93))), (1, (.sl true a1.length 2 (a1.flatMap e93))), (5, (I x1)), (26, (B (!x2)))], [], [(0 : Int) ≤ x1 ∧ x1 < (a0.length : Int), rdC prog 94 ((a0.flatMap e93).drop (x1.toNat * 2)) = (.ag [(I (at_ a0 x1).f0), (I (at_ a0 x1).f1)]), 2 ≤ ((a0.flatMap e93).drop (x1.toNat * 2)).length, (0 : Int) ≤ x1 ∧ x1 < (a1.length : Int), rdC prog 94 ((a1.flatMap e93).drop (x1.toNat * 2)) = (.ag [(I (at_ a1 x1).f0), (I (at_ a1 x1).f1)]), 2 ≤ ((a1.flatMap e93).drop (x1.toNat * 2)).length, COK (hget []) [(.ag [(I (at_ a0 x1).f0), (I (at_ a0 x1).f1)]), (.ag [(I (at_ a1 x1).f0), (I (at_ a1 x1).f1)])] ⟨130, [(.ag [(I (at_ a0 x1).f0), (I (at_ a0 x1).f1)]), (.ag [(I (at_ a1 x1).f0), (I (at_ a1 x1).f1)])], [], (B x2), [], [], [], [], (B x2), []⟩], [⟨130, [(.ag [(I (at_ a0 x1).f0), (I (at_ a0 x1).f1)]), (.ag [(I (at_ a1 x1).f0), (I (at_ a1 x1).f1)])], [], (B x2), [], [], [], [], (B x2), []⟩]⟩ [c_ 1865, b_ 1, c_ 467, l_ 58, b_ 0, c_ 15] (alc ⟨c3, c2⟩ (alc (ldA e93_ok rfl rfl c3 c2) (alc (okI e93_ok c3 c2 (by decide)) (alc ⟨c3, c4⟩ (alc (ldA e93_ok rfl rfl c3 c4) (alc (okI e93_ok c3 c4 (by decide)) (alc (cok0 false (a2c (.z (frz_ag (a2c .s (a2c .s a2n)))) (a2c (.z (frz_ag (a2c .s (a2c .s a2n)))) a2n)) (.z .s) (fun h => absurd h (by decide))) aln))))))) (acal (laws_eqNeed.J (at_ a0 x1) (at_ a1 x1) _ hx2) nocal) ?_
          by_cases c5 : x2 = true
          · rw [if_pos c5] at h
            refine .cond' (.tmp 26) false [c_ 467, l_ 58, b_ 0, c_ 15] (bF (nF c5)) ?_
            refine .reg' [0, 1, 5] [] ⟨[(0, (.sl true a0.length 2 (a0.flatMap e93))), (1, (.sl true a1.length 2 (a1.flatMap e93))), (5, (I (wrap64 (x1 + 1))))], [], [], []⟩ [l_ 58, b_ 0, c_ 15] aln nocal ?_
            exact ih0 a0 a1 (wrap64 (x1 + 1)) _ h
          · rw [if_neg c5] at h
            refine .cond' (.tmp 26) true [c_ 7460, c_ 7461, b_ 1, c_ 467, l_ 58, b_ 0, c_ 15] (bT (nT (vF c5))) ?_
            refine .reg' [4] [] ⟨[(4, (B false))], [], [], []⟩ [c_ 7461, b_ 1, c_ 467, l_ 58, b_ 0, c_ 15] aln nocal ?_
            have h := Option.some.inj h
            subst h
            exact .fin0 [] (B false) [] aln (.z .s)
        · rw [if_neg c4] at h
          cases h
      · rw [if_neg c3] at h
        cases h
    · rw [if_neg c2] at h
      refine .cond' (.tmp 14) false [c_ 30, c_ 31] (bF (dF c2)) ?_
      refine .reg' [4] [] ⟨[(4, (B true))], [], [], []⟩ [c_ 31] aln nocal ?_
      have h := Option.some.inj h
      subst h
      exact .fin0 [] (B true) [] aln (.z .s)
theorem laws_eqNeedS.J (k : Nat) (a0 : (List S93)) (a1 : (List S93)) (r : Bool) (h : laws_eqNeedS.f k a0 a1 = some r) : J prog (.call 118 [(.sl true a0.length 2 (a0.flatMap e93)), (.sl true a1.length 2 (a1.flatMap e93))] [] (B r) []) := by
  unfold laws_eqNeedS.f at h
  have ih0 := laws_eqNeedS.lab k
  refine .call' [c_ 2, c_ 3] ?_
  refine .reg' [0, 1] [] ⟨[(0, (.sl true a0.length 2 (a0.flatMap e93))), (1, (.sl true a1.length 2 (a1.flatMap e93)))], [], [], []⟩ [c_ 12, c_ 13, c_ 7] aln nocal ?_
  refine .reg' [0, 1, 10] [] ⟨[(0, (.sl true a0.length 2 (a0.flatMap e93))), (1, (.sl true a1.length 2 (a1.flatMap e93))), (10, (B (!((a0.length : Int) == (a1.length : Int)))))], [], [], []⟩ [c_ 13, c_ 7] aln nocal ?_
  by_cases c1 : (a0.length : Int) = (a1.length : Int)
  · rw [if_pos c1] at h
    refine .cond' (.tmp 10) false [c_ 28, c_ 29, c_ 15] (bF (nF (qT c1))) ?_
    refine .reg' [0, 1, 5] [] ⟨[(0, (.sl true a0.length 2 (a0.flatMap e93))), (1, (.sl true a1.length 2 (a1.flatMap e93))), (5, (I 0))], [], [], []⟩ [l_ 58, b_ 0, c_ 15] aln nocal ?_
    exact ih0 a0 a1 0 _ h
  · rw [if_neg c1] at h
    refine .cond' (.tmp 10) true [c_ 52, c_ 53, c_ 7] (bT (nT (qF c1))) ?_
    refine .reg' [4] [] ⟨[(4, (B false))], [], [], []⟩ [c_ 53, c_ 7] aln nocal ?_
    have h := Option.some.inj h
    subst h
    exact .fin0 [] (B false) [] aln (.z .s)
/-! laws_eqRoute: function 101 -/
def laws_eqRoute.f (k : Nat) (a0 : S83) (a1 : S83) : Option Bool := ((laws_eqNeedS.f k a0.f0 a1.f0).bind fun x1 => (if x1 = true then ((laws_eqIntS.f k a0.f1 a1.f1).bind fun x2 => (if x2 = true then (some true) else (some false))) else (some false)))
end Go.Proofs.Ytjfjifnmfnlfoaa.Fns
