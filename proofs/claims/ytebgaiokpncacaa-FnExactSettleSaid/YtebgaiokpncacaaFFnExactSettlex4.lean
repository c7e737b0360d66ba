/- The functions that the law FnExactSettle reaches, by the engine. Printed by a program of this seat. -/
import Derived.Test.YtebgaiokpncacaaE5
import Derived.Test.YtebgaiokpncacaaProg
import Derived.Test.YtebgaiokpncacaaFFnExactSettlex3
namespace Go.Proofs.Ytebgaiokpncacaa.Fns
open Go.Proofs.Try Go.Proofs.Ytebgaiokpncacaa.Eng Go.RowKit
set_option maxRecDepth 100000
set_option linter.unusedVariables false
set_option linter.unusedSimpArgs false
theorem impl_TripOk.lab : ∀ k, (∀ (a0 : S66) (x3 : Int) (r : Bool), impl_TripOk.l0 k a0 x3 = some r → J prog (.run 76 [] [l_ 58, b_ 0, c_ 15] [(1, (.pt 256 0 2)), (17, (.sl true a0.f1.length 3 (a0.f1.flatMap e89))), (18, (I (a0.f1.length : Int))), (19, (I x3))] [(256, [(S a0.f0), (.sl true a0.f1.length 3 (a0.f1.flatMap e89))])] (B r) []))
 | 0 => (by intro a0 x3 r h; unfold impl_TripOk.l0 at h; cases h)
 | k + 1 => by
  have ih0 := impl_TripOk.lab k
  · intro a0 x3 r h
    unfold impl_TripOk.l0 at h
    refine .loop' [c_ 232, c_ 233, l_ 58, b_ 0, c_ 15] ?_
    refine .reg' [1, 17, 18, 19, 20] [] ⟨[(1, (.pt 256 0 2)), (17, (.sl true a0.f1.length 3 (a0.f1.flatMap e89))), (18, (I (a0.f1.length : Int))), (19, (I x3)), (20, (B (decide (x3 < (a0.f1.length : Int)))))], [(256, [(S a0.f0), (.sl true a0.f1.length 3 (a0.f1.flatMap e89))])], [], []⟩ [c_ 466, c_ 467, l_ 58, b_ 0, c_ 15] aln nocal ?_
    by_cases c3 : x3 < (a0.f1.length : Int)
    · rw [if_pos c3] at h
      refine .cond' (.tmp 20) true [c_ 3736, c_ 3737, b_ 1, c_ 935, l_ 58, b_ 0, c_ 15] (bT (dT c3)) ?_
      by_cases c4 : 0 ≤ x3
      · rw [if_pos c4] at h
        refine .reg' [1, 3, 4, 17, 18, 19] [.no, .no, .v (.ag [(I (at_ a0.f1 x3).f0), (I (at_ a0.f1 x3).f1), (I (at_ a0.f1 x3).f2)])] ⟨[(1, (.pt 256 0 2)), (3, (I x3)), (4, (.pt 1539 0 3)), (17, (.sl true a0.f1.length 3 (a0.f1.flatMap e89))), (18, (I (a0.f1.length : Int))), (19, (I x3))], [(256, [(S a0.f0), (.sl true a0.f1.length 3 (a0.f1.flatMap e89))]), (1539, [(I (at_ a0.f1 x3).f0), (I (at_ a0.f1 x3).f1), (I (at_ a0.f1 x3).f2)])], [(0 : Int) ≤ x3 ∧ x3 < (a0.f1.length : Int), rdC prog 90 ((a0.f1.flatMap e89).drop (x3.toNat * 3)) = (.ag [(I (at_ a0.f1 x3).f0), (I (at_ a0.f1 x3).f1), (I (at_ a0.f1 x3).f2)]), 3 ≤ ((a0.f1.flatMap e89).drop (x3.toNat * 3)).length, 3 = 3 ∧ 0 + 3 ≤ 3], []⟩ [c_ 14948, c_ 14949, c_ 7475, b_ 1, c_ 935, l_ 58, b_ 0, c_ 15] (alc ⟨c4, c3⟩ (alc (ldA e89_ok rfl rfl c4 c3) (alc (okI e89_ok c4 c3 (by decide)) (alc ⟨rfl, by decide⟩ aln)))) nocal ?_
        obtain ⟨x4, hx4, h⟩ := Option.bind_eq_some_iff.mp h
        by_cases c5 : x4 = true
        · rw [if_pos c5] at h
          obtain ⟨x5, hx5, h⟩ := Option.bind_eq_some_iff.mp h
          by_cases c6 : x5 = true
          · rw [if_pos c6] at h
            obtain ⟨x6, hx6, h⟩ := Option.bind_eq_some_iff.mp h
            by_cases c7 : x6 = true
            · rw [if_pos c7] at h
              refine .reg' [1, 3, 4, 17, 18, 19, 46] [.no, .no, .c ⟨58, [(I (at_ a0.f1 x3).f0), (I 0), (I 29)], [], (B x4), [], [], [], [], (B x4), []⟩, .no, .v (B false), .no, .no, .c ⟨93, [(I (at_ a0.f1 x3).f1)], [], (B x5), [], [], [], [], (B x5), []⟩, .no, .no, .v (B false), .no, .no, .c ⟨93, [(I (at_ a0.f1 x3).f2)], [], (B x6), [], [], [], [], (B x6), []⟩, .no, .no, .v (B false)] ⟨[(1, (.pt 256 0 2)), (3, (I x3)), (4, (.pt 1539 0 3)), (17, (.sl true a0.f1.length 3 (a0.f1.flatMap e89))), (18, (I (a0.f1.length : Int))), (19, (I x3)), (46, (B (decide ((at_ a0.f1 x3).f1 > (at_ a0.f1 x3).f2))))], [(256, [(S a0.f0), (.sl true a0.f1.length 3 (a0.f1.flatMap e89))]), (1539, [(I (at_ a0.f1 x3).f0), (I (at_ a0.f1 x3).f1), (I (at_ a0.f1 x3).f2)])], [3 = 3 ∧ 0 + 1 ≤ 3, COK (hget [(256, [(S a0.f0), (.sl true a0.f1.length 3 (a0.f1.flatMap e89))]), (1539, [(I (at_ a0.f1 x3).f0), (I (at_ a0.f1 x3).f1), (I (at_ a0.f1 x3).f2)])]) [(I (at_ a0.f1 x3).f0), (I 0), (I 29)] ⟨58, [(I (at_ a0.f1 x3).f0), (I 0), (I 29)], [], (B x4), [], [], [], [], (B x4), []⟩, (B (!x4) : V) = B false, 3 = 3 ∧ 1 + 1 ≤ 3, COK (hget [(256, [(S a0.f0), (.sl true a0.f1.length 3 (a0.f1.flatMap e89))]), (1539, [(I (at_ a0.f1 x3).f0), (I (at_ a0.f1 x3).f1), (I (at_ a0.f1 x3).f2)])]) [(I (at_ a0.f1 x3).f1)] ⟨93, [(I (at_ a0.f1 x3).f1)], [], (B x5), [], [], [], [], (B x5), []⟩, (B (!x5) : V) = B false, 3 = 3 ∧ 2 + 1 ≤ 3, COK (hget [(256, [(S a0.f0), (.sl true a0.f1.length 3 (a0.f1.flatMap e89))]), (1539, [(I (at_ a0.f1 x3).f0), (I (at_ a0.f1 x3).f1), (I (at_ a0.f1 x3).f2)])]) [(I (at_ a0.f1 x3).f2)] ⟨93, [(I (at_ a0.f1 x3).f2)], [], (B x6), [], [], [], [], (B x6), []⟩, (B (!x6) : V) = B false, 3 = 3 ∧ 1 + 1 ≤ 3, 3 = 3 ∧ 2 + 1 ≤ 3], [⟨58, [(I (at_ a0.f1 x3).f0), (I 0), (I 29)], [], (B x4), [], [], [], [], (B x4), []⟩, ⟨93, [(I (at_ a0.f1 x3).f1)], [], (B x5), [], [], [], [], (B x5), []⟩, ⟨93, [(I (at_ a0.f1 x3).f2)], [], (B x6), [], [], [], [], (B x6), []⟩]⟩ [c_ 14949, c_ 7475, b_ 1, c_ 935, l_ 58, b_ 0, c_ 15] (alc ⟨rfl, by decide⟩ (alc (cok0 false (a2c (.z .s) (a2c (.z .s) (a2c (.z .s) a2n))) (.z .s) (fun h => absurd h (by decide))) (alc (bF (nF c5)) (alc ⟨rfl, by decide⟩ (alc (cok0 false (a2c (.z .s) a2n) (.z .s) (fun h => absurd h (by decide))) (alc (bF (nF c6)) (alc ⟨rfl, by decide⟩ (alc (cok0 false (a2c (.z .s) a2n) (.z .s) (fun h => absurd h (by decide))) (alc (bF (nF c7)) (alc ⟨rfl, by decide⟩ (alc ⟨rfl, by decide⟩ aln))))))))))) (acal (impl_between.J ((at_ a0.f1 x3).f0) 0 29 _ hx4) (acal (impl_isMinute.J ((at_ a0.f1 x3).f1) _ hx5) (acal (impl_isMinute.J ((at_ a0.f1 x3).f2) _ hx6) nocal))) ?_
              by_cases c8 : (at_ a0.f1 x3).f1 > (at_ a0.f1 x3).f2
              · rw [if_pos c8] at h
                refine .cond' (.tmp 46) true [c_ 59796, c_ 59797, c_ 7475, b_ 1, c_ 935, l_ 58, b_ 0, c_ 15] (bT (dT c8)) ?_
                refine .reg' [2] [] ⟨[(2, (B false))], [(256, [(S a0.f0), (.sl true a0.f1.length 3 (a0.f1.flatMap e89))]), (1539, [(I (at_ a0.f1 x3).f0), (I (at_ a0.f1 x3).f1), (I (at_ a0.f1 x3).f2)])], [], []⟩ [c_ 59797, c_ 7475, b_ 1, c_ 935, l_ 58, b_ 0, c_ 15] aln nocal ?_
                have h := Option.some.inj h
                subst h
                exact .fin0 [] (B false) [] aln (.z .s)
              · rw [if_neg c8] at h
                refine .cond' (.tmp 46) false [c_ 14950, c_ 14951, b_ 1, c_ 935, l_ 58, b_ 0, c_ 15] (bF (dF c8)) ?_
                by_cases c9 : x3 > 0
                · rw [if_pos c9] at h
                  by_cases c10 : 0 ≤ (wrap64 (x3 - 1))
                  · rw [if_pos c10] at h
                    by_cases c11 : (wrap64 (x3 - 1)) < (a0.f1.length : Int)
                    · rw [if_pos c11] at h
                      by_cases c12 : (at_ a0.f1 x3).f1 ≤ (at_ a0.f1 (wrap64 (x3 - 1))).f2
                      · rw [if_pos c12] at h
                        refine .reg' [1, 17, 18, 19, 72] [.no, .no, .v (B true), .no, .no, .no, .no, .no, .no, .no, .no, .v (I (at_ a0.f1 (wrap64 (x3 - 1))).f2), .no, .v (B true)] ⟨[(1, (.pt 256 0 2)), (17, (.sl true a0.f1.length 3 (a0.f1.flatMap e89))), (18, (I (a0.f1.length : Int))), (19, (I x3)), (72, (B true))], [(256, [(S a0.f0), (.sl true a0.f1.length 3 (a0.f1.flatMap e89))]), (1539, [(I (at_ a0.f1 x3).f0), (I (at_ a0.f1 x3).f1), (I (at_ a0.f1 x3).f2)])], [(B (decide (x3 > 0)) : V) = B true, 3 = 3 ∧ 1 + 1 ≤ 3, 2 = 2 ∧ 1 + 1 ≤ 2, (0 : Int) ≤ (wrap64 (x3 - 1)) ∧ (wrap64 (x3 - 1)) < (a0.f1.length : Int), rdC prog 3 (((a0.f1.flatMap e89).drop ((wrap64 (x3 - 1)).toNat * 3)).drop 2) = (I (at_ a0.f1 (wrap64 (x3 - 1))).f2), 1 ≤ (((a0.f1.flatMap e89).drop ((wrap64 (x3 - 1)).toNat * 3)).drop 2).length, (B (decide ((at_ a0.f1 x3).f1 ≤ (at_ a0.f1 (wrap64 (x3 - 1))).f2)) : V) = B true], []⟩ [c_ 14951, b_ 1, c_ 935, l_ 58, b_ 0, c_ 15] (alc (bT (dT c9)) (alc ⟨rfl, by decide⟩ (alc ⟨rfl, by decide⟩ (alc ⟨c10, c11⟩ (alc (ldC e89_ok 2 (by decide) rfl c10 c11) (alc (okIj e89_ok c10 c11 (by decide)) (alc (bT (dT c12)) aln))))))) nocal ?_
                        refine .cond' (.tmp 72) true [c_ 59804, c_ 59805, b_ 1, c_ 935, l_ 58, b_ 0, c_ 15] (rfl) ?_
                        refine .reg' [2] [] ⟨[(2, (B false))], [(256, [(S a0.f0), (.sl true a0.f1.length 3 (a0.f1.flatMap e89))]), (1539, [(I (at_ a0.f1 x3).f0), (I (at_ a0.f1 x3).f1), (I (at_ a0.f1 x3).f2)])], [], []⟩ [c_ 59805, b_ 1, c_ 935, l_ 58, b_ 0, c_ 15] aln nocal ?_
                        have h := Option.some.inj h
                        subst h
                        exact .fin0 [] (B false) [] aln (.z .s)
                      · rw [if_neg c12] at h
                        refine .reg' [1, 17, 18, 19, 72] [.no, .no, .v (B true), .no, .no, .no, .no, .no, .no, .no, .no, .v (I (at_ a0.f1 (wrap64 (x3 - 1))).f2), .no, .v (B false), .no, .no, .no, .no, .no, .no, .no, .no, .v (I (at_ a0.f1 (wrap64 (x3 - 1))).f0)] ⟨[(1, (.pt 256 0 2)), (17, (.sl true a0.f1.length 3 (a0.f1.flatMap e89))), (18, (I (a0.f1.length : Int))), (19, (I x3)), (72, (B ((at_ a0.f1 x3).f0 == (at_ a0.f1 (wrap64 (x3 - 1))).f0)))], [(256, [(S a0.f0), (.sl true a0.f1.length 3 (a0.f1.flatMap e89))]), (1539, [(I (at_ a0.f1 x3).f0), (I (at_ a0.f1 x3).f1), (I (at_ a0.f1 x3).f2)])], [(B (decide (x3 > 0)) : V) = B true, 3 = 3 ∧ 1 + 1 ≤ 3, 2 = 2 ∧ 1 + 1 ≤ 2, (0 : Int) ≤ (wrap64 (x3 - 1)) ∧ (wrap64 (x3 - 1)) < (a0.f1.length : Int), rdC prog 3 (((a0.f1.flatMap e89).drop ((wrap64 (x3 - 1)).toNat * 3)).drop 2) = (I (at_ a0.f1 (wrap64 (x3 - 1))).f2), 1 ≤ (((a0.f1.flatMap e89).drop ((wrap64 (x3 - 1)).toNat * 3)).drop 2).length, (B (decide ((at_ a0.f1 x3).f1 ≤ (at_ a0.f1 (wrap64 (x3 - 1))).f2)) : V) = B false, 3 = 3 ∧ 0 + 1 ≤ 3, 2 = 2 ∧ 1 + 1 ≤ 2, (0 : Int) ≤ (wrap64 (x3 - 1)) ∧ (wrap64 (x3 - 1)) < (a0.f1.length : Int), rdC prog 3 (((a0.f1.flatMap e89).drop ((wrap64 (x3 - 1)).toNat * 3)).drop 0) = (I (at_ a0.f1 (wrap64 (x3 - 1))).f0), 1 ≤ (((a0.f1.flatMap e89).drop ((wrap64 (x3 - 1)).toNat * 3)).drop 0).length], []⟩ [c_ 14951, b_ 1, c_ 935, l_ 58, b_ 0, c_ 15] (alc (bT (dT c9)) (alc ⟨rfl, by decide⟩ (alc ⟨rfl, by decide⟩ (alc ⟨c10, c11⟩ (alc (ldC e89_ok 2 (by decide) rfl c10 c11) (alc (okIj e89_ok c10 c11 (by decide)) (alc (bF (dF c12)) (alc ⟨rfl, by decide⟩ (alc ⟨rfl, by decide⟩ (alc ⟨c10, c11⟩ (alc (ldC e89_ok 0 (by decide) rfl c10 c11) (alc (okIj e89_ok c10 c11 (by decide)) aln)))))))))))) nocal ?_
                        by_cases c13 : (at_ a0.f1 x3).f0 = (at_ a0.f1 (wrap64 (x3 - 1))).f0
                        · rw [if_pos c13] at h
                          refine .cond' (.tmp 72) true [c_ 59804, c_ 59805, b_ 1, c_ 935, l_ 58, b_ 0, c_ 15] (bT (qT c13)) ?_
                          refine .reg' [2] [] ⟨[(2, (B false))], [(256, [(S a0.f0), (.sl true a0.f1.length 3 (a0.f1.flatMap e89))]), (1539, [(I (at_ a0.f1 x3).f0), (I (at_ a0.f1 x3).f1), (I (at_ a0.f1 x3).f2)])], [], []⟩ [c_ 59805, b_ 1, c_ 935, l_ 58, b_ 0, c_ 15] aln nocal ?_
                          have h := Option.some.inj h
                          subst h
                          exact .fin0 [] (B false) [] aln (.z .s)
                        · rw [if_neg c13] at h
                          refine .cond' (.tmp 72) false [c_ 935, l_ 58, b_ 0, c_ 15] (bF (qF c13)) ?_
                          refine .reg' [1, 17, 18, 19] [] ⟨[(1, (.pt 256 0 2)), (17, (.sl true a0.f1.length 3 (a0.f1.flatMap e89))), (18, (I (a0.f1.length : Int))), (19, (I (wrap64 (x3 + 1))))], [(256, [(S a0.f0), (.sl true a0.f1.length 3 (a0.f1.flatMap e89))]), (1539, [(I (at_ a0.f1 x3).f0), (I (at_ a0.f1 x3).f1), (I (at_ a0.f1 x3).f2)])], [], []⟩ [l_ 58, b_ 0, c_ 15] aln nocal ?_
                          refine .wk' [] [(256, 256)] [(1, (.pt 256 0 2)), (17, (.sl true a0.f1.length 3 (a0.f1.flatMap e89))), (18, (I (a0.f1.length : Int))), (19, (I (wrap64 (x3 + 1))))] [(256, [(S a0.f0), (.sl true a0.f1.length 3 (a0.f1.flatMap e89))])] (shc 256 (a2c (.z .s) (a2c (.z (frz_sl e89_ok (fun h => h))) a2n)) shn) (enc_ (.pt (memP_mem (p := (256, 256)) rfl)) (enc_ (.z (frz_sl e89_ok (fun h => h))) (enc_ (.z .s) (enc_ (.z .s) enn)))) ?_
                          exact ih0 a0 (wrap64 (x3 + 1)) _ h
                    · rw [if_neg c11] at h
                      cases h
                  · rw [if_neg c10] at h
                    cases h
                · rw [if_neg c9] at h
                  refine .reg' [1, 17, 18, 19, 72] [.no, .no, .v (B false)] ⟨[(1, (.pt 256 0 2)), (17, (.sl true a0.f1.length 3 (a0.f1.flatMap e89))), (18, (I (a0.f1.length : Int))), (19, (I x3)), (72, (B false))], [(256, [(S a0.f0), (.sl true a0.f1.length 3 (a0.f1.flatMap e89))]), (1539, [(I (at_ a0.f1 x3).f0), (I (at_ a0.f1 x3).f1), (I (at_ a0.f1 x3).f2)])], [(B (decide (x3 > 0)) : V) = B false], []⟩ [c_ 14951, b_ 1, c_ 935, l_ 58, b_ 0, c_ 15] (alc (bF (dF c9)) aln) nocal ?_
                  refine .cond' (.tmp 72) false [c_ 935, l_ 58, b_ 0, c_ 15] (rfl) ?_
                  refine .reg' [1, 17, 18, 19] [] ⟨[(1, (.pt 256 0 2)), (17, (.sl true a0.f1.length 3 (a0.f1.flatMap e89))), (18, (I (a0.f1.length : Int))), (19, (I (wrap64 (x3 + 1))))], [(256, [(S a0.f0), (.sl true a0.f1.length 3 (a0.f1.flatMap e89))]), (1539, [(I (at_ a0.f1 x3).f0), (I (at_ a0.f1 x3).f1), (I (at_ a0.f1 x3).f2)])], [], []⟩ [l_ 58, b_ 0, c_ 15] aln nocal ?_
                  refine .wk' [] [(256, 256)] [(1, (.pt 256 0 2)), (17, (.sl true a0.f1.length 3 (a0.f1.flatMap e89))), (18, (I (a0.f1.length : Int))), (19, (I (wrap64 (x3 + 1))))] [(256, [(S a0.f0), (.sl true a0.f1.length 3 (a0.f1.flatMap e89))])] (shc 256 (a2c (.z .s) (a2c (.z (frz_sl e89_ok (fun h => h))) a2n)) shn) (enc_ (.pt (memP_mem (p := (256, 256)) rfl)) (enc_ (.z (frz_sl e89_ok (fun h => h))) (enc_ (.z .s) (enc_ (.z .s) enn)))) ?_
                  exact ih0 a0 (wrap64 (x3 + 1)) _ h
            · rw [if_neg c7] at h
              refine .reg' [1, 3, 4, 17, 18, 19, 46] [.no, .no, .c ⟨58, [(I (at_ a0.f1 x3).f0), (I 0), (I 29)], [], (B x4), [], [], [], [], (B x4), []⟩, .no, .v (B false), .no, .no, .c ⟨93, [(I (at_ a0.f1 x3).f1)], [], (B x5), [], [], [], [], (B x5), []⟩, .no, .no, .v (B false), .no, .no, .c ⟨93, [(I (at_ a0.f1 x3).f2)], [], (B x6), [], [], [], [], (B x6), []⟩, .no, .no, .v (B true)] ⟨[(1, (.pt 256 0 2)), (3, (I x3)), (4, (.pt 1539 0 3)), (17, (.sl true a0.f1.length 3 (a0.f1.flatMap e89))), (18, (I (a0.f1.length : Int))), (19, (I x3)), (46, (B true))], [(256, [(S a0.f0), (.sl true a0.f1.length 3 (a0.f1.flatMap e89))]), (1539, [(I (at_ a0.f1 x3).f0), (I (at_ a0.f1 x3).f1), (I (at_ a0.f1 x3).f2)])], [3 = 3 ∧ 0 + 1 ≤ 3, COK (hget [(256, [(S a0.f0), (.sl true a0.f1.length 3 (a0.f1.flatMap e89))]), (1539, [(I (at_ a0.f1 x3).f0), (I (at_ a0.f1 x3).f1), (I (at_ a0.f1 x3).f2)])]) [(I (at_ a0.f1 x3).f0), (I 0), (I 29)] ⟨58, [(I (at_ a0.f1 x3).f0), (I 0), (I 29)], [], (B x4), [], [], [], [], (B x4), []⟩, (B (!x4) : V) = B false, 3 = 3 ∧ 1 + 1 ≤ 3, COK (hget [(256, [(S a0.f0), (.sl true a0.f1.length 3 (a0.f1.flatMap e89))]), (1539, [(I (at_ a0.f1 x3).f0), (I (at_ a0.f1 x3).f1), (I (at_ a0.f1 x3).f2)])]) [(I (at_ a0.f1 x3).f1)] ⟨93, [(I (at_ a0.f1 x3).f1)], [], (B x5), [], [], [], [], (B x5), []⟩, (B (!x5) : V) = B false, 3 = 3 ∧ 2 + 1 ≤ 3, COK (hget [(256, [(S a0.f0), (.sl true a0.f1.length 3 (a0.f1.flatMap e89))]), (1539, [(I (at_ a0.f1 x3).f0), (I (at_ a0.f1 x3).f1), (I (at_ a0.f1 x3).f2)])]) [(I (at_ a0.f1 x3).f2)] ⟨93, [(I (at_ a0.f1 x3).f2)], [], (B x6), [], [], [], [], (B x6), []⟩, (B (!x6) : V) = B true], [⟨58, [(I (at_ a0.f1 x3).f0), (I 0), (I 29)], [], (B x4), [], [], [], [], (B x4), []⟩, ⟨93, [(I (at_ a0.f1 x3).f1)], [], (B x5), [], [], [], [], (B x5), []⟩, ⟨93, [(I (at_ a0.f1 x3).f2)], [], (B x6), [], [], [], [], (B x6), []⟩]⟩ [c_ 14949, c_ 7475, b_ 1, c_ 935, l_ 58, b_ 0, c_ 15] (alc ⟨rfl, by decide⟩ (alc (cok0 false (a2c (.z .s) (a2c (.z .s) (a2c (.z .s) a2n))) (.z .s) (fun h => absurd h (by decide))) (alc (bF (nF c5)) (alc ⟨rfl, by decide⟩ (alc (cok0 false (a2c (.z .s) a2n) (.z .s) (fun h => absurd h (by decide))) (alc (bF (nF c6)) (alc ⟨rfl, by decide⟩ (alc (cok0 false (a2c (.z .s) a2n) (.z .s) (fun h => absurd h (by decide))) (alc (bT (nT (vF c7))) aln))))))))) (acal (impl_between.J ((at_ a0.f1 x3).f0) 0 29 _ hx4) (acal (impl_isMinute.J ((at_ a0.f1 x3).f1) _ hx5) (acal (impl_isMinute.J ((at_ a0.f1 x3).f2) _ hx6) nocal))) ?_
              refine .cond' (.tmp 46) true [c_ 59796, c_ 59797, c_ 7475, b_ 1, c_ 935, l_ 58, b_ 0, c_ 15] (rfl) ?_
              refine .reg' [2] [] ⟨[(2, (B false))], [(256, [(S a0.f0), (.sl true a0.f1.length 3 (a0.f1.flatMap e89))]), (1539, [(I (at_ a0.f1 x3).f0), (I (at_ a0.f1 x3).f1), (I (at_ a0.f1 x3).f2)])], [], []⟩ [c_ 59797, c_ 7475, b_ 1, c_ 935, l_ 58, b_ 0, c_ 15] aln nocal ?_
              have h := Option.some.inj h
              subst h
              exact .fin0 [] (B false) [] aln (.z .s)
          · rw [if_neg c6] at h
            refine .reg' [1, 3, 4, 17, 18, 19, 46] [.no, .no, .c ⟨58, [(I (at_ a0.f1 x3).f0), (I 0), (I 29)], [], (B x4), [], [], [], [], (B x4), []⟩, .no, .v (B false), .no, .no, .c ⟨93, [(I (at_ a0.f1 x3).f1)], [], (B x5), [], [], [], [], (B x5), []⟩, .no, .no, .v (B true)] ⟨[(1, (.pt 256 0 2)), (3, (I x3)), (4, (.pt 1539 0 3)), (17, (.sl true a0.f1.length 3 (a0.f1.flatMap e89))), (18, (I (a0.f1.length : Int))), (19, (I x3)), (46, (B true))], [(256, [(S a0.f0), (.sl true a0.f1.length 3 (a0.f1.flatMap e89))]), (1539, [(I (at_ a0.f1 x3).f0), (I (at_ a0.f1 x3).f1), (I (at_ a0.f1 x3).f2)])], [3 = 3 ∧ 0 + 1 ≤ 3, COK (hget [(256, [(S a0.f0), (.sl true a0.f1.length 3 (a0.f1.flatMap e89))]), (1539, [(I (at_ a0.f1 x3).f0), (I (at_ a0.f1 x3).f1), (I (at_ a0.f1 x3).f2)])]) [(I (at_ a0.f1 x3).f0), (I 0), (I 29)] ⟨58, [(I (at_ a0.f1 x3).f0), (I 0), (I 29)], [], (B x4), [], [], [], [], (B x4), []⟩, (B (!x4) : V) = B false, 3 = 3 ∧ 1 + 1 ≤ 3, COK (hget [(256, [(S a0.f0), (.sl true a0.f1.length 3 (a0.f1.flatMap e89))]), (1539, [(I (at_ a0.f1 x3).f0), (I (at_ a0.f1 x3).f1), (I (at_ a0.f1 x3).f2)])]) [(I (at_ a0.f1 x3).f1)] ⟨93, [(I (at_ a0.f1 x3).f1)], [], (B x5), [], [], [], [], (B x5), []⟩, (B (!x5) : V) = B true], [⟨58, [(I (at_ a0.f1 x3).f0), (I 0), (I 29)], [], (B x4), [], [], [], [], (B x4), []⟩, ⟨93, [(I (at_ a0.f1 x3).f1)], [], (B x5), [], [], [], [], (B x5), []⟩]⟩ [c_ 14949, c_ 7475, b_ 1, c_ 935, l_ 58, b_ 0, c_ 15] (alc ⟨rfl, by decide⟩ (alc (cok0 false (a2c (.z .s) (a2c (.z .s) (a2c (.z .s) a2n))) (.z .s) (fun h => absurd h (by decide))) (alc (bF (nF c5)) (alc ⟨rfl, by decide⟩ (alc (cok0 false (a2c (.z .s) a2n) (.z .s) (fun h => absurd h (by decide))) (alc (bT (nT (vF c6))) aln)))))) (acal (impl_between.J ((at_ a0.f1 x3).f0) 0 29 _ hx4) (acal (impl_isMinute.J ((at_ a0.f1 x3).f1) _ hx5) nocal)) ?_
            refine .cond' (.tmp 46) true [c_ 59796, c_ 59797, c_ 7475, b_ 1, c_ 935, l_ 58, b_ 0, c_ 15] (rfl) ?_
            refine .reg' [2] [] ⟨[(2, (B false))], [(256, [(S a0.f0), (.sl true a0.f1.length 3 (a0.f1.flatMap e89))]), (1539, [(I (at_ a0.f1 x3).f0), (I (at_ a0.f1 x3).f1), (I (at_ a0.f1 x3).f2)])], [], []⟩ [c_ 59797, c_ 7475, b_ 1, c_ 935, l_ 58, b_ 0, c_ 15] aln nocal ?_
            have h := Option.some.inj h
            subst h
            exact .fin0 [] (B false) [] aln (.z .s)
        · rw [if_neg c5] at h
          refine .reg' [1, 3, 4, 17, 18, 19, 46] [.no, .no, .c ⟨58, [(I (at_ a0.f1 x3).f0), (I 0), (I 29)], [], (B x4), [], [], [], [], (B x4), []⟩, .no, .v (B true)] ⟨[(1, (.pt 256 0 2)), (3, (I x3)), (4, (.pt 1539 0 3)), (17, (.sl true a0.f1.length 3 (a0.f1.flatMap e89))), (18, (I (a0.f1.length : Int))), (19, (I x3)), (46, (B true))], [(256, [(S a0.f0), (.sl true a0.f1.length 3 (a0.f1.flatMap e89))]), (1539, [(I (at_ a0.f1 x3).f0), (I (at_ a0.f1 x3).f1), (I (at_ a0.f1 x3).f2)])], [3 = 3 ∧ 0 + 1 ≤ 3, COK (hget [(256, [(S a0.f0), (.sl true a0.f1.length 3 (a0.f1.flatMap e89))]), (1539, [(I (at_ a0.f1 x3).f0), (I (at_ a0.f1 x3).f1), (I (at_ a0.f1 x3).f2)])]) [(I (at_ a0.f1 x3).f0), (I 0), (I 29)] ⟨58, [(I (at_ a0.f1 x3).f0), (I 0), (I 29)], [], (B x4), [], [], [], [], (B x4), []⟩, (B (!x4) : V) = B true], [⟨58, [(I (at_ a0.f1 x3).f0), (I 0), (I 29)], [], (B x4), [], [], [], [], (B x4), []⟩]⟩ [c_ 14949, c_ 7475, b_ 1, c_ 935, l_ 58, b_ 0, c_ 15] (alc ⟨rfl, by decide⟩ (alc (cok0 false (a2c (.z .s) (a2c (.z .s) (a2c (.z .s) a2n))) (.z .s) (fun h => absurd h (by decide))) (alc (bT (nT (vF c5))) aln))) (acal (impl_between.J ((at_ a0.f1 x3).f0) 0 29 _ hx4) nocal) ?_
          refine .cond' (.tmp 46) true [c_ 59796, c_ 59797, c_ 7475, b_ 1, c_ 935, l_ 58, b_ 0, c_ 15] (rfl) ?_
          refine .reg' [2] [] ⟨[(2, (B false))], [(256, [(S a0.f0), (.sl true a0.f1.length 3 (a0.f1.flatMap e89))]), (1539, [(I (at_ a0.f1 x3).f0), (I (at_ a0.f1 x3).f1), (I (at_ a0.f1 x3).f2)])], [], []⟩ [c_ 59797, c_ 7475, b_ 1, c_ 935, l_ 58, b_ 0, c_ 15] aln nocal ?_
          have h := Option.some.inj h
          subst h
          exact .fin0 [] (B false) [] aln (.z .s)
      · rw [if_neg c4] at h
        cases h
    · rw [if_neg c3] at h
      refine .cond' (.tmp 20) false [c_ 30, c_ 31] (bF (dF c3)) ?_
      refine .reg' [2] [] ⟨[(2, (B true))], [(256, [(S a0.f0), (.sl true a0.f1.length 3 (a0.f1.flatMap e89))])], [], []⟩ [c_ 31] aln nocal ?_
      have h := Option.some.inj h
      subst h
      exact .fin0 [] (B true) [] aln (.z .s)
theorem impl_TripOk.J (k : Nat) (a0 : S66) (r : Bool) (h : impl_TripOk.f k a0 = some r) : J prog (.call 76 [(.ag [(S a0.f0), (.sl true a0.f1.length 3 (a0.f1.flatMap e89))])] [] (B r) []) := by
  unfold impl_TripOk.f at h
  have ih0 := impl_TripOk.lab k
  refine .call' [c_ 2, c_ 3] ?_
  refine .reg' [1] [] ⟨[(1, (.pt 256 0 2))], [(256, [(S a0.f0), (.sl true a0.f1.length 3 (a0.f1.flatMap e89))])], [], []⟩ [c_ 12, c_ 13, c_ 7] aln nocal ?_
  obtain ⟨x1, hx1, h⟩ := Option.bind_eq_some_iff.mp h
  by_cases c1 : x1 = true
  · rw [if_pos c1] at h
    obtain ⟨x2, hx2, h⟩ := Option.bind_eq_some_iff.mp h
    refine .reg' [1, 15] [.no, .no, .c ⟨92, [(S a0.f0)], [], (B x1), [], [], [], [], (B x1), []⟩, .no, .v (B false), .no, .no, .no, .c ⟨58, [(I (a0.f1.length : Int)), (I 2), (I 12)], [], (B x2), [], [], [], [], (B x2), []⟩] ⟨[(1, (.pt 256 0 2)), (15, (B (!x2)))], [(256, [(S a0.f0), (.sl true a0.f1.length 3 (a0.f1.flatMap e89))])], [2 = 2 ∧ 0 + 1 ≤ 2, COK (hget [(256, [(S a0.f0), (.sl true a0.f1.length 3 (a0.f1.flatMap e89))])]) [(S a0.f0)] ⟨92, [(S a0.f0)], [], (B x1), [], [], [], [], (B x1), []⟩, (B (!x1) : V) = B false, 2 = 2 ∧ 1 + 1 ≤ 2, COK (hget [(256, [(S a0.f0), (.sl true a0.f1.length 3 (a0.f1.flatMap e89))])]) [(I (a0.f1.length : Int)), (I 2), (I 12)] ⟨58, [(I (a0.f1.length : Int)), (I 2), (I 12)], [], (B x2), [], [], [], [], (B x2), []⟩], [⟨92, [(S a0.f0)], [], (B x1), [], [], [], [], (B x1), []⟩, ⟨58, [(I (a0.f1.length : Int)), (I 2), (I 12)], [], (B x2), [], [], [], [], (B x2), []⟩]⟩ [c_ 13, c_ 7] (alc ⟨rfl, by decide⟩ (alc (cok0 false (a2c (.z .s) a2n) (.z .s) (fun h => absurd h (by decide))) (alc (bF (nF c1)) (alc ⟨rfl, by decide⟩ (alc (cok0 false (a2c (.z .s) (a2c (.z .s) (a2c (.z .s) a2n))) (.z .s) (fun h => absurd h (by decide))) aln))))) (acal (impl_nameOk.J k a0.f0 _ hx1) (acal (impl_between.J (a0.f1.length : Int) 2 12 _ hx2) nocal)) ?_
    by_cases c2 : x2 = true
    · rw [if_pos c2] at h
      refine .cond' (.tmp 15) false [c_ 28, c_ 29, c_ 15] (bF (nF c2)) ?_
      refine .reg' [1, 17, 18, 19] [] ⟨[(1, (.pt 256 0 2)), (17, (.sl true a0.f1.length 3 (a0.f1.flatMap e89))), (18, (I (a0.f1.length : Int))), (19, (I 0))], [(256, [(S a0.f0), (.sl true a0.f1.length 3 (a0.f1.flatMap e89))])], [2 = 2 ∧ 1 + 1 ≤ 2], []⟩ [l_ 58, b_ 0, c_ 15] (alc ⟨rfl, by decide⟩ aln) nocal ?_
      exact ih0 a0 0 _ h
    · rw [if_neg c2] at h
      refine .cond' (.tmp 15) true [c_ 52, c_ 53, c_ 7] (bT (nT (vF c2))) ?_
      refine .reg' [2] [] ⟨[(2, (B false))], [(256, [(S a0.f0), (.sl true a0.f1.length 3 (a0.f1.flatMap e89))])], [], []⟩ [c_ 53, c_ 7] aln nocal ?_
      have h := Option.some.inj h
      subst h
      exact .fin0 [] (B false) [] aln (.z .s)
  · rw [if_neg c1] at h
    refine .reg' [1, 15] [.no, .no, .c ⟨92, [(S a0.f0)], [], (B x1), [], [], [], [], (B x1), []⟩, .no, .v (B true)] ⟨[(1, (.pt 256 0 2)), (15, (B true))], [(256, [(S a0.f0), (.sl true a0.f1.length 3 (a0.f1.flatMap e89))])], [2 = 2 ∧ 0 + 1 ≤ 2, COK (hget [(256, [(S a0.f0), (.sl true a0.f1.length 3 (a0.f1.flatMap e89))])]) [(S a0.f0)] ⟨92, [(S a0.f0)], [], (B x1), [], [], [], [], (B x1), []⟩, (B (!x1) : V) = B true], [⟨92, [(S a0.f0)], [], (B x1), [], [], [], [], (B x1), []⟩]⟩ [c_ 13, c_ 7] (alc ⟨rfl, by decide⟩ (alc (cok0 false (a2c (.z .s) a2n) (.z .s) (fun h => absurd h (by decide))) (alc (bT (nT (vF c1))) aln))) (acal (impl_nameOk.J k a0.f0 _ hx1) nocal) ?_
    refine .cond' (.tmp 15) true [c_ 52, c_ 53, c_ 7] (rfl) ?_
    refine .reg' [2] [] ⟨[(2, (B false))], [(256, [(S a0.f0), (.sl true a0.f1.length 3 (a0.f1.flatMap e89))])], [], []⟩ [c_ 53, c_ 7] aln nocal ?_
    have h := Option.some.inj h
    subst h
    exact .fin0 [] (B false) [] aln (.z .s)
/-! impl_tripNamed_1: function 95 -/
def impl_tripNamed_1.f (a0 : S66) (a1c0 : ByteArray) : Option (Bool × ByteArray) := (some ((sEq a0.f0 a1c0), a1c0))
theorem impl_tripNamed_1.J (a0 : S66) (a1c0 : ByteArray) (r : (Bool × ByteArray)) (h : impl_tripNamed_1.f a0 a1c0 = some r) : J prog (.call 95 [(.ag [(S a0.f0), (.sl true a0.f1.length 3 (a0.f1.flatMap e89))]), (.pt 24 0 1)] [(24, [(S a1c0)])] (B r.1) [(24, [(S r.2)])]) := by
  unfold impl_tripNamed_1.f at h
  refine .call' [c_ 2, c_ 3] ?_
  refine .reg' [1, 2] [] ⟨[(1, (.pt 24 0 1)), (2, (.pt 256 0 2))], [(24, [(S a1c0)]), (256, [(S a0.f0), (.sl true a0.f1.length 3 (a0.f1.flatMap e89))])], [], []⟩ [c_ 6, c_ 7] aln nocal ?_
  refine .reg' [3] [] ⟨[(3, (B (sEq a0.f0 a1c0)))], [(24, [(S a1c0)]), (256, [(S a0.f0), (.sl true a0.f1.length 3 (a0.f1.flatMap e89))])], [2 = 2 ∧ 0 + 1 ≤ 2, 1 = 1 ∧ 0 + 1 ≤ 1], []⟩ [c_ 7] (alc ⟨rfl, by decide⟩ (alc ⟨rfl, by decide⟩ aln)) nocal ?_
  have h := Option.some.inj h
  subst h
  exact .fin' [] [(24, 24)] (B (sEq a0.f0 a1c0)) [] aln (shc 24 (a2c (.z .s) a2n) shn) (.z .s)
/-! slices_IndexFunc_1: function 94 -/
def slices_IndexFunc_1.l0 : Nat → (List S66) → ByteArray → Int → Option (Int × ByteArray)
 | 0, _, _, _ => none
 | k + 1, a0, x1, x2 => (if x2 < (a0.length : Int) then (if 0 ≤ x2 then ((impl_tripNamed_1.f (at_ a0 x2) x1).bind fun x3 => (if x3.1 = true then (some (x2, x3.2)) else (slices_IndexFunc_1.l0 k a0 x3.2 (wrap64 (x2 + 1))))) else none) else (some ((-1), x1)))
def slices_IndexFunc_1.f (k : Nat) (a0 : (List S66)) (a1c0 : ByteArray) : Option (Int × ByteArray) := (slices_IndexFunc_1.l0 k a0 a1c0 0)
theorem slices_IndexFunc_1.lab : ∀ k, (∀ (a0 : (List S66)) (x1 : ByteArray) (x2 : Int) (r : (Int × ByteArray)), slices_IndexFunc_1.l0 k a0 x1 x2 = some r → J prog (.run 94 [24] [l_ 26, b_ 0, c_ 7] [(0, (.sl true a0.length 2 (a0.flatMap (e66 true)))), (1, (.fn (.func 95) [] [(.pt 24 0 1)])), (7, (I (a0.length : Int))), (8, (I x2))] [(24, [(S x1)])] (I r.1) [(24, [(S r.2)])]))
 | 0 => (by intro a0 x1 x2 r h; unfold slices_IndexFunc_1.l0 at h; cases h)
 | k + 1 => by
  have ih0 := slices_IndexFunc_1.lab k
  · intro a0 x1 x2 r h
    unfold slices_IndexFunc_1.l0 at h
    refine .loop' [c_ 104, c_ 105, l_ 26, b_ 0, c_ 7] ?_
    refine .reg' [0, 1, 7, 8, 9] [] ⟨[(0, (.sl true a0.length 2 (a0.flatMap (e66 true)))), (1, (.fn (.func 95) [] [(.pt 24 0 1)])), (7, (I (a0.length : Int))), (8, (I x2)), (9, (B (decide (x2 < (a0.length : Int)))))], [(24, [(S x1)])], [], []⟩ [c_ 210, c_ 211, l_ 26, b_ 0, c_ 7] aln nocal ?_
    by_cases c1 : x2 < (a0.length : Int)
    · rw [if_pos c1] at h
      refine .cond' (.tmp 9) true [c_ 1688, c_ 1689, b_ 1, c_ 423, l_ 26, b_ 0, c_ 7] (bT (dT c1)) ?_
      refine .reg' [0, 1, 5, 7, 8] [] ⟨[(0, (.sl true a0.length 2 (a0.flatMap (e66 true)))), (1, (.fn (.func 95) [] [(.pt 24 0 1)])), (5, (I x2)), (7, (I (a0.length : Int))), (8, (I x2))], [(24, [(S x1)])], [], []⟩ [c_ 3378, c_ 3379, b_ 1, c_ 423, l_ 26, b_ 0, c_ 7] aln nocal ?_
      by_cases c2 : 0 ≤ x2
      · rw [if_pos c2] at h
        obtain ⟨x3, hx3, h⟩ := Option.bind_eq_some_iff.mp h
        refine .reg' [0, 1, 5, 7, 8, 16] [.no, .no, .no, .no, .v (.ag [(S (at_ a0 x2).f0), (.sl true (at_ a0 x2).f1.length 3 ((at_ a0 x2).f1.flatMap e89))]), .c ⟨95, [(.ag [(S (at_ a0 x2).f0), (.sl true (at_ a0 x2).f1.length 3 ((at_ a0 x2).f1.flatMap e89))]), (.pt 24 0 1)], [(24, [(S x1)])], (B x3.1), [(24, [(S x3.2)])], [], [(24, 24)], [(24, 24)], (B x3.1), [(24, [(S x3.2)])]⟩] ⟨[(0, (.sl true a0.length 2 (a0.flatMap (e66 true)))), (1, (.fn (.func 95) [] [(.pt 24 0 1)])), (5, (I x2)), (7, (I (a0.length : Int))), (8, (I x2)), (16, (B x3.1))], [(24, [(S x3.2)])], [(0 : Int) ≤ x2 ∧ x2 < (a0.length : Int), rdC prog 67 ((a0.flatMap (e66 true)).drop (x2.toNat * 2)) = (.ag [(S (at_ a0 x2).f0), (.sl true (at_ a0 x2).f1.length 3 ((at_ a0 x2).f1.flatMap e89))]), 2 ≤ ((a0.flatMap (e66 true)).drop (x2.toNat * 2)).length, COK (hget [(24, [(S x1)])]) [(.ag [(S (at_ a0 x2).f0), (.sl true (at_ a0 x2).f1.length 3 ((at_ a0 x2).f1.flatMap e89))]), (.pt 24 0 1)] ⟨95, [(.ag [(S (at_ a0 x2).f0), (.sl true (at_ a0 x2).f1.length 3 ((at_ a0 x2).f1.flatMap e89))]), (.pt 24 0 1)], [(24, [(S x1)])], (B x3.1), [(24, [(S x3.2)])], [], [(24, 24)], [(24, 24)], (B x3.1), [(24, [(S x3.2)])]⟩], [⟨95, [(.ag [(S (at_ a0 x2).f0), (.sl true (at_ a0 x2).f1.length 3 ((at_ a0 x2).f1.flatMap e89))]), (.pt 24 0 1)], [(24, [(S x1)])], (B x3.1), [(24, [(S x3.2)])], [], [(24, 24)], [(24, 24)], (B x3.1), [(24, [(S x3.2)])]⟩]⟩ [c_ 3379, b_ 1, c_ 423, l_ 26, b_ 0, c_ 7] (alc ⟨c2, c1⟩ (alc (ldA (e66_ok true) rfl rfl c2 c1) (alc (okI (e66_ok true) c2 c1 (by decide)) (alc (cokW false (a2c (.z (frz_ag (a2c .s (a2c (frz_sl e89_ok (fun h => h)) a2n)))) (a2c (.pt (memP_mem (p := (24, 24)) rfl)) a2n)) (akc ⟨_, _, rfl, rfl, (a2c (.z .s) a2n)⟩ akn) (akc (.inl rfl) akn) (.z .s) (akc ⟨_, _, rfl, rfl, (a2c (.z .s) a2n)⟩ akn) (fun h => absurd h (by decide))) aln)))) (acal (impl_tripNamed_1.J (at_ a0 x2) x1 _ hx3) nocal) ?_
        by_cases c3 : x3.1 = true
        · rw [if_pos c3] at h
          refine .cond' (.tmp 16) true [c_ 13516, c_ 13517, b_ 1, c_ 423, l_ 26, b_ 0, c_ 7] (bT c3) ?_
          refine .reg' [4] [] ⟨[(4, (I x2))], [(24, [(S x3.2)])], [], []⟩ [c_ 13517, b_ 1, c_ 423, l_ 26, b_ 0, c_ 7] aln nocal ?_
          have h := Option.some.inj h
          subst h
          exact .fin' [] [(24, 24)] (I x2) [] aln (shc 24 (a2c (.z .s) a2n) shn) (.z .s)
        · rw [if_neg c3] at h
          refine .cond' (.tmp 16) false [c_ 423, l_ 26, b_ 0, c_ 7] (bF (vF c3)) ?_
          refine .reg' [0, 1, 7, 8] [] ⟨[(0, (.sl true a0.length 2 (a0.flatMap (e66 true)))), (1, (.fn (.func 95) [] [(.pt 24 0 1)])), (7, (I (a0.length : Int))), (8, (I (wrap64 (x2 + 1))))], [(24, [(S x3.2)])], [], []⟩ [l_ 26, b_ 0, c_ 7] aln nocal ?_
          exact ih0 a0 x3.2 (wrap64 (x2 + 1)) _ h
      · rw [if_neg c2] at h
        cases h
    · rw [if_neg c1] at h
      refine .cond' (.tmp 9) false [c_ 14, c_ 15] (bF (dF c1)) ?_
      refine .reg' [4] [] ⟨[(4, (I (-1)))], [(24, [(S x1)])], [], []⟩ [c_ 15] aln nocal ?_
      have h := Option.some.inj h
      subst h
      exact .fin' [] [(24, 24)] (I (-1)) [] aln (shc 24 (a2c (.z .s) a2n) shn) (.z .s)
theorem slices_IndexFunc_1.J (k : Nat) (a0 : (List S66)) (a1c0 : ByteArray) (r : (Int × ByteArray)) (h : slices_IndexFunc_1.f k a0 a1c0 = some r) : J prog (.call 94 [(.sl true a0.length 2 (a0.flatMap (e66 true))), (.fn (.func 95) [] [(.pt 24 0 1)])] [(24, [(S a1c0)])] (I r.1) [(24, [(S r.2)])]) := by
  unfold slices_IndexFunc_1.f at h
  have ih0 := slices_IndexFunc_1.lab k
  refine .call' [c_ 2, c_ 3] ?_
  refine .reg' [0, 1] [] ⟨[(0, (.sl true a0.length 2 (a0.flatMap (e66 true)))), (1, (.fn (.func 95) [] [(.pt 24 0 1)]))], [(24, [(S a1c0)])], [], []⟩ [c_ 12, c_ 13, c_ 7] aln nocal ?_
  refine .reg' [0, 1, 7, 8] [] ⟨[(0, (.sl true a0.length 2 (a0.flatMap (e66 true)))), (1, (.fn (.func 95) [] [(.pt 24 0 1)])), (7, (I (a0.length : Int))), (8, (I 0))], [(24, [(S a1c0)])], [], []⟩ [l_ 26, b_ 0, c_ 7] aln nocal ?_
  exact ih0 a0 a1c0 0 _ h
/-! impl_tripNamed: function 77 -/
def impl_tripNamed.f (k : Nat) (a0 : (List S66)) (a1 : ByteArray) : Option Int := ((slices_IndexFunc_1.f k a0 a1).bind fun x1 => (some x1.1))
theorem impl_tripNamed.J (k : Nat) (a0 : (List S66)) (a1 : ByteArray) (r : Int) (h : impl_tripNamed.f k a0 a1 = some r) : J prog (.call 77 [(.sl true a0.length 2 (a0.flatMap (e66 true))), (S a1)] [] (I r) []) := by
  unfold impl_tripNamed.f at h
  refine .call' [c_ 2, c_ 3] ?_
  refine .reg' [0, 3] [] ⟨[(0, (.sl true a0.length 2 (a0.flatMap (e66 true)))), (3, (.pt 256 0 1))], [(256, [(S a1)])], [], []⟩ [c_ 6, c_ 7] aln nocal ?_
  obtain ⟨x1, hx1, h⟩ := Option.bind_eq_some_iff.mp h
  refine .reg' [4] [.no, .no, .c ⟨94, [(.sl true a0.length 2 (a0.flatMap (e66 true))), (.fn (.func 95) [] [(.pt 24 0 1)])], [(24, [(S a1)])], (I x1.1), [(24, [(S x1.2)])], [], [(256, 24)], [(256, 24)], (I x1.1), [(256, [(S x1.2)])]⟩] ⟨[(4, (I x1.1))], [(256, [(S x1.2)])], [COK (hget [(256, [(S a1)])]) [(.sl true a0.length 2 (a0.flatMap (e66 true))), (.fn (.func 95) [] [(.pt 256 0 1)])] ⟨94, [(.sl true a0.length 2 (a0.flatMap (e66 true))), (.fn (.func 95) [] [(.pt 24 0 1)])], [(24, [(S a1)])], (I x1.1), [(24, [(S x1.2)])], [], [(256, 24)], [(256, 24)], (I x1.1), [(256, [(S x1.2)])]⟩], [⟨94, [(.sl true a0.length 2 (a0.flatMap (e66 true))), (.fn (.func 95) [] [(.pt 24 0 1)])], [(24, [(S a1)])], (I x1.1), [(24, [(S x1.2)])], [], [(256, 24)], [(256, 24)], (I x1.1), [(256, [(S x1.2)])]⟩]⟩ [c_ 7] (alc (cokW false (a2c (.z (frz_sl (e66_ok true) (fun h => h))) (a2c (cnv_fn a2n (a2c (.pt (memP_mem (p := (256, 24)) rfl)) a2n)) a2n)) (akc ⟨_, _, rfl, rfl, (a2c (.z .s) a2n)⟩ akn) (akc (.inl rfl) akn) (.z .s) (akc ⟨_, _, rfl, rfl, (a2c (.z .s) a2n)⟩ akn) (fun h => absurd h (by decide))) aln) (acal (slices_IndexFunc_1.J k a0 a1 _ hx1) nocal) ?_
  have h := Option.some.inj h
  subst h
  exact .fin0 [] (I x1.1) [] aln (.z .s)
/-! impl_TableOk: function 88 -/
def impl_TableOk.l0 : Nat → (List S66) → Int → Option Bool
 | 0, _, _ => none
 | k + 1, a0, x1 => (if x1 < (a0.length : Int) then (if 0 ≤ x1 then ((impl_TripOk.f k (at_ a0 x1)).bind fun x2 => (if x2 = true then (if x1 ≤ (a0.length : Int) then ((impl_tripNamed.f k ((a0.drop (0 : Int).toNat).take (x1.toNat - (0 : Int).toNat)) ((at_ a0 x1).f0)).bind fun x3 => (if x3 ≥ 0 then (some false) else (impl_TableOk.l0 k a0 (wrap64 (x1 + 1))))) else none) else (some false))) else none) else (some true))
def impl_TableOk.f (k : Nat) (a0 : (List S66)) : Option Bool := (if (a0.length : Int) > 24 then (some false) else (impl_TableOk.l0 k a0 0))
theorem impl_TableOk.lab : ∀ k, (∀ (a0 : (List S66)) (x1 : Int) (r : Bool), impl_TableOk.l0 k a0 x1 = some r → J prog (.run 88 [] [l_ 58, b_ 0, c_ 15] [(0, (.sl true a0.length 2 (a0.flatMap (e66 true)))), (8, (.sl true a0.length 2 (a0.flatMap (e66 true)))), (9, (I (a0.length : Int))), (10, (I x1))] [] (B r) []))
 | 0 => (by intro a0 x1 r h; unfold impl_TableOk.l0 at h; cases h)
 | k + 1 => by
  have ih0 := impl_TableOk.lab k
  · intro a0 x1 r h
    unfold impl_TableOk.l0 at h
    refine .loop' [c_ 232, c_ 233, l_ 58, b_ 0, c_ 15] ?_
    refine .reg' [0, 8, 9, 10, 11] [] ⟨[(0, (.sl true a0.length 2 (a0.flatMap (e66 true)))), (8, (.sl true a0.length 2 (a0.flatMap (e66 true)))), (9, (I (a0.length : Int))), (10, (I x1)), (11, (B (decide (x1 < (a0.length : Int)))))], [], [], []⟩ [c_ 466, c_ 467, l_ 58, b_ 0, c_ 15] aln nocal ?_
    by_cases c2 : x1 < (a0.length : Int)
    · rw [if_pos c2] at h
      refine .cond' (.tmp 11) true [c_ 3736, c_ 3737, b_ 1, c_ 935, l_ 58, b_ 0, c_ 15] (bT (dT c2)) ?_
      by_cases c3 : 0 ≤ x1
      · rw [if_pos c3] at h
        refine .reg' [0, 3, 4, 8, 9, 10] [.no, .no, .v (.ag [(S (at_ a0 x1).f0), (.sl true (at_ a0 x1).f1.length 3 ((at_ a0 x1).f1.flatMap e89))])] ⟨[(0, (.sl true a0.length 2 (a0.flatMap (e66 true)))), (3, (I x1)), (4, (.pt 1539 0 2)), (8, (.sl true a0.length 2 (a0.flatMap (e66 true)))), (9, (I (a0.length : Int))), (10, (I x1))], [(1539, [(S (at_ a0 x1).f0), (.sl true (at_ a0 x1).f1.length 3 ((at_ a0 x1).f1.flatMap e89))])], [(0 : Int) ≤ x1 ∧ x1 < (a0.length : Int), rdC prog 67 ((a0.flatMap (e66 true)).drop (x1.toNat * 2)) = (.ag [(S (at_ a0 x1).f0), (.sl true (at_ a0 x1).f1.length 3 ((at_ a0 x1).f1.flatMap e89))]), 2 ≤ ((a0.flatMap (e66 true)).drop (x1.toNat * 2)).length, 2 = 2 ∧ 0 + 2 ≤ 2], []⟩ [c_ 7474, c_ 7475, b_ 1, c_ 935, l_ 58, b_ 0, c_ 15] (alc ⟨c3, c2⟩ (alc (ldA (e66_ok true) rfl rfl c3 c2) (alc (okI (e66_ok true) c3 c2 (by decide)) (alc ⟨rfl, by decide⟩ aln)))) nocal ?_
        obtain ⟨x2, hx2, h⟩ := Option.bind_eq_some_iff.mp h
        by_cases c4 : x2 = true
        · rw [if_pos c4] at h
          by_cases c5 : x1 ≤ (a0.length : Int)
          · rw [if_pos c5] at h
            obtain ⟨x3, hx3, h⟩ := Option.bind_eq_some_iff.mp h
            refine .reg' [0, 8, 9, 10, 26] [.no, .c ⟨76, [(.ag [(S (at_ a0 x1).f0), (.sl true (at_ a0 x1).f1.length 3 ((at_ a0 x1).f1.flatMap e89))])], [], (B x2), [], [], [], [], (B x2), []⟩, .no, .v (B false), .no, .no, .v (.sl true ((a0.drop (0 : Int).toNat).take (x1.toNat - (0 : Int).toNat)).length 2 (((a0.drop (0 : Int).toNat).take (x1.toNat - (0 : Int).toNat)).flatMap (e66 true))), .no, .no, .c ⟨77, [(.sl true ((a0.drop (0 : Int).toNat).take (x1.toNat - (0 : Int).toNat)).length 2 (((a0.drop (0 : Int).toNat).take (x1.toNat - (0 : Int).toNat)).flatMap (e66 true))), (S (at_ a0 x1).f0)], [], (I x3), [], [], [], [], (I x3), []⟩] ⟨[(0, (.sl true a0.length 2 (a0.flatMap (e66 true)))), (8, (.sl true a0.length 2 (a0.flatMap (e66 true)))), (9, (I (a0.length : Int))), (10, (I x1)), (26, (B (decide (x3 ≥ 0))))], [(1539, [(S (at_ a0 x1).f0), (.sl true (at_ a0 x1).f1.length 3 ((at_ a0 x1).f1.flatMap e89))])], [2 = 2 ∧ 0 + 2 ≤ 2, COK (hget [(1539, [(S (at_ a0 x1).f0), (.sl true (at_ a0 x1).f1.length 3 ((at_ a0 x1).f1.flatMap e89))])]) [(.ag [(S (at_ a0 x1).f0), (.sl true (at_ a0 x1).f1.length 3 ((at_ a0 x1).f1.flatMap e89))])] ⟨76, [(.ag [(S (at_ a0 x1).f0), (.sl true (at_ a0 x1).f1.length 3 ((at_ a0 x1).f1.flatMap e89))])], [], (B x2), [], [], [], [], (B x2), []⟩, (B (!x2) : V) = B false, V.sl true (x1.toNat - (0 : Int).toNat) 2 (((a0.flatMap (e66 true)).drop ((0 : Int).toNat * 2)).take ((x1.toNat - (0 : Int).toNat) * 2)) = (.sl true ((a0.drop (0 : Int).toNat).take (x1.toNat - (0 : Int).toNat)).length 2 (((a0.drop (0 : Int).toNat).take (x1.toNat - (0 : Int).toNat)).flatMap (e66 true))), 0 ≤ (0 : Int) ∧ 0 ≤ x1 ∧ x1 ≤ (a0.length : Int), 2 = 2 ∧ 0 + 1 ≤ 2, COK (hget [(1539, [(S (at_ a0 x1).f0), (.sl true (at_ a0 x1).f1.length 3 ((at_ a0 x1).f1.flatMap e89))])]) [(.sl true ((a0.drop (0 : Int).toNat).take (x1.toNat - (0 : Int).toNat)).length 2 (((a0.drop (0 : Int).toNat).take (x1.toNat - (0 : Int).toNat)).flatMap (e66 true))), (S (at_ a0 x1).f0)] ⟨77, [(.sl true ((a0.drop (0 : Int).toNat).take (x1.toNat - (0 : Int).toNat)).length 2 (((a0.drop (0 : Int).toNat).take (x1.toNat - (0 : Int).toNat)).flatMap (e66 true))), (S (at_ a0 x1).f0)], [], (I x3), [], [], [], [], (I x3), []⟩], [⟨76, [(.ag [(S (at_ a0 x1).f0), (.sl true (at_ a0 x1).f1.length 3 ((at_ a0 x1).f1.flatMap e89))])], [], (B x2), [], [], [], [], (B x2), []⟩, ⟨77, [(.sl true ((a0.drop (0 : Int).toNat).take (x1.toNat - (0 : Int).toNat)).length 2 (((a0.drop (0 : Int).toNat).take (x1.toNat - (0 : Int).toNat)).flatMap (e66 true))), (S (at_ a0 x1).f0)], [], (I x3), [], [], [], [], (I x3), []⟩]⟩ [c_ 7475, b_ 1, c_ 935, l_ 58, b_ 0, c_ 15] (alc ⟨rfl, by decide⟩ (alc (cok0 false (a2c (.z (frz_ag (a2c .s (a2c (frz_sl e89_ok (fun h => h)) a2n)))) a2n) (.z .s) (fun h => absurd h (by decide))) (alc (bF (nF c4)) (alc (slS (e66_ok true) (by omega) (by omega)) (alc ⟨(by decide), c3, c5⟩ (alc ⟨rfl, by decide⟩ (alc (cok0 false (a2c (.z (frz_sl (e66_ok true) (fun h => h))) (a2c (.z .s) a2n)) (.z .s) (fun h => absurd h (by decide))) aln))))))) (acal (impl_TripOk.J k (at_ a0 x1) _ hx2) (acal (impl_tripNamed.J k ((a0.drop (0 : Int).toNat).take (x1.toNat - (0 : Int).toNat)) ((at_ a0 x1).f0) _ hx3) nocal)) ?_
            by_cases c6 : x3 ≥ 0
            · rw [if_pos c6] at h
              refine .cond' (.tmp 26) true [c_ 29900, c_ 29901, b_ 1, c_ 935, l_ 58, b_ 0, c_ 15] (bT (dT c6)) ?_
              refine .reg' [2] [] ⟨[(2, (B false))], [(1539, [(S (at_ a0 x1).f0), (.sl true (at_ a0 x1).f1.length 3 ((at_ a0 x1).f1.flatMap e89))])], [], []⟩ [c_ 29901, b_ 1, c_ 935, l_ 58, b_ 0, c_ 15] aln nocal ?_
              have h := Option.some.inj h
              subst h
              exact .fin0 [] (B false) [] aln (.z .s)
            · rw [if_neg c6] at h
              refine .cond' (.tmp 26) false [c_ 935, l_ 58, b_ 0, c_ 15] (bF (dF c6)) ?_
              refine .reg' [0, 8, 9, 10] [] ⟨[(0, (.sl true a0.length 2 (a0.flatMap (e66 true)))), (8, (.sl true a0.length 2 (a0.flatMap (e66 true)))), (9, (I (a0.length : Int))), (10, (I (wrap64 (x1 + 1))))], [(1539, [(S (at_ a0 x1).f0), (.sl true (at_ a0 x1).f1.length 3 ((at_ a0 x1).f1.flatMap e89))])], [], []⟩ [l_ 58, b_ 0, c_ 15] aln nocal ?_
              refine .wk' [] [] [(0, (.sl true a0.length 2 (a0.flatMap (e66 true)))), (8, (.sl true a0.length 2 (a0.flatMap (e66 true)))), (9, (I (a0.length : Int))), (10, (I (wrap64 (x1 + 1))))] [] shn (enc_ (.z (frz_sl (e66_ok true) (fun h => h))) (enc_ (.z (frz_sl (e66_ok true) (fun h => h))) (enc_ (.z .s) (enc_ (.z .s) enn)))) ?_
              exact ih0 a0 (wrap64 (x1 + 1)) _ h
          · rw [if_neg c5] at h
            cases h
        · rw [if_neg c4] at h
          refine .reg' [0, 8, 9, 10, 26] [.no, .c ⟨76, [(.ag [(S (at_ a0 x1).f0), (.sl true (at_ a0 x1).f1.length 3 ((at_ a0 x1).f1.flatMap e89))])], [], (B x2), [], [], [], [], (B x2), []⟩, .no, .v (B true)] ⟨[(0, (.sl true a0.length 2 (a0.flatMap (e66 true)))), (8, (.sl true a0.length 2 (a0.flatMap (e66 true)))), (9, (I (a0.length : Int))), (10, (I x1)), (26, (B true))], [(1539, [(S (at_ a0 x1).f0), (.sl true (at_ a0 x1).f1.length 3 ((at_ a0 x1).f1.flatMap e89))])], [2 = 2 ∧ 0 + 2 ≤ 2, COK (hget [(1539, [(S (at_ a0 x1).f0), (.sl true (at_ a0 x1).f1.length 3 ((at_ a0 x1).f1.flatMap e89))])]) [(.ag [(S (at_ a0 x1).f0), (.sl true (at_ a0 x1).f1.length 3 ((at_ a0 x1).f1.flatMap e89))])] ⟨76, [(.ag [(S (at_ a0 x1).f0), (.sl true (at_ a0 x1).f1.length 3 ((at_ a0 x1).f1.flatMap e89))])], [], (B x2), [], [], [], [], (B x2), []⟩, (B (!x2) : V) = B true], [⟨76, [(.ag [(S (at_ a0 x1).f0), (.sl true (at_ a0 x1).f1.length 3 ((at_ a0 x1).f1.flatMap e89))])], [], (B x2), [], [], [], [], (B x2), []⟩]⟩ [c_ 7475, b_ 1, c_ 935, l_ 58, b_ 0, c_ 15] (alc ⟨rfl, by decide⟩ (alc (cok0 false (a2c (.z (frz_ag (a2c .s (a2c (frz_sl e89_ok (fun h => h)) a2n)))) a2n) (.z .s) (fun h => absurd h (by decide))) (alc (bT (nT (vF c4))) aln))) (acal (impl_TripOk.J k (at_ a0 x1) _ hx2) nocal) ?_
          refine .cond' (.tmp 26) true [c_ 29900, c_ 29901, b_ 1, c_ 935, l_ 58, b_ 0, c_ 15] (rfl) ?_
          refine .reg' [2] [] ⟨[(2, (B false))], [(1539, [(S (at_ a0 x1).f0), (.sl true (at_ a0 x1).f1.length 3 ((at_ a0 x1).f1.flatMap e89))])], [], []⟩ [c_ 29901, b_ 1, c_ 935, l_ 58, b_ 0, c_ 15] aln nocal ?_
          have h := Option.some.inj h
          subst h
          exact .fin0 [] (B false) [] aln (.z .s)
      · rw [if_neg c3] at h
        cases h
    · rw [if_neg c2] at h
      refine .cond' (.tmp 11) false [c_ 30, c_ 31] (bF (dF c2)) ?_
      refine .reg' [2] [] ⟨[(2, (B true))], [], [], []⟩ [c_ 31] aln nocal ?_
      have h := Option.some.inj h
      subst h
      exact .fin0 [] (B true) [] aln (.z .s)
theorem impl_TableOk.J (k : Nat) (a0 : (List S66)) (r : Bool) (h : impl_TableOk.f k a0 = some r) : J prog (.call 88 [(.sl true a0.length 2 (a0.flatMap (e66 true)))] [] (B r) []) := by
  unfold impl_TableOk.f at h
  have ih0 := impl_TableOk.lab k
  refine .call' [c_ 2, c_ 3] ?_
  refine .reg' [0] [] ⟨[(0, (.sl true a0.length 2 (a0.flatMap (e66 true))))], [], [], []⟩ [c_ 12, c_ 13, c_ 7] aln nocal ?_
  refine .reg' [0, 7] [] ⟨[(0, (.sl true a0.length 2 (a0.flatMap (e66 true)))), (7, (B (decide ((a0.length : Int) > 24))))], [], [], []⟩ [c_ 13, c_ 7] aln nocal ?_
  by_cases c1 : (a0.length : Int) > 24
  · rw [if_pos c1] at h
    refine .cond' (.tmp 7) true [c_ 52, c_ 53, c_ 7] (bT (dT c1)) ?_
    refine .reg' [2] [] ⟨[(2, (B false))], [], [], []⟩ [c_ 53, c_ 7] aln nocal ?_
    have h := Option.some.inj h
    subst h
    exact .fin0 [] (B false) [] aln (.z .s)
  · rw [if_neg c1] at h
    refine .cond' (.tmp 7) false [c_ 28, c_ 29, c_ 15] (bF (dF c1)) ?_
    refine .reg' [0, 8, 9, 10] [] ⟨[(0, (.sl true a0.length 2 (a0.flatMap (e66 true)))), (8, (.sl true a0.length 2 (a0.flatMap (e66 true)))), (9, (I (a0.length : Int))), (10, (I 0))], [], [], []⟩ [l_ 58, b_ 0, c_ 15] aln nocal ?_
    exact ih0 a0 0 _ h
/-! impl_Net_joining: function 96 -/
def impl_Net_joining.l0 : Nat → S46 → Int → Int → Int → Option (Int × Int)
 | 0, _, _, _, _ => none
 | k + 1, a0, a1, a2, x1 => (if x1 < (a0.f1.length : Int) then (if 0 ≤ x1 then (if (at_ a0.f1 x1).f0 = a1 then (if (at_ a0.f1 x1).f1 = a2 then (some (x1, 0)) else (if (at_ a0.f1 x1).f0 = a2 then (if (at_ a0.f1 x1).f1 = a1 then (some (x1, 1)) else (impl_Net_joining.l0 k a0 a1 a2 (wrap64 (x1 + 1)))) else (impl_Net_joining.l0 k a0 a1 a2 (wrap64 (x1 + 1))))) else (if (at_ a0.f1 x1).f0 = a2 then (if (at_ a0.f1 x1).f1 = a1 then (some (x1, 1)) else (impl_Net_joining.l0 k a0 a1 a2 (wrap64 (x1 + 1)))) else (impl_Net_joining.l0 k a0 a1 a2 (wrap64 (x1 + 1))))) else none) else (some ((-1), 0)))
def impl_Net_joining.f (k : Nat) (a0 : S46) (a1 : Int) (a2 : Int) : Option (Int × Int) := (impl_Net_joining.l0 k a0 a1 a2 0)
theorem impl_Net_joining.lab : ∀ k, (∀ (a0 : S46) (a1 : Int) (a2 : Int) (x1 : Int) (r : (Int × Int)), impl_Net_joining.l0 k a0 a1 a2 x1 = some r → J prog (.run 96 [] [l_ 26, b_ 0, c_ 7] [(1, (I a1)), (2, (I a2)), (11, (.sl true a0.f1.length 4 (a0.f1.flatMap e95))), (12, (I (a0.f1.length : Int))), (13, (I x1))] [] (.tp [(I r.1), (I r.2)]) []))
 | 0 => (by intro a0 a1 a2 x1 r h; unfold impl_Net_joining.l0 at h; cases h)
 | k + 1 => by
  have ih0 := impl_Net_joining.lab k
  · intro a0 a1 a2 x1 r h
    unfold impl_Net_joining.l0 at h
    refine .loop' [c_ 104, c_ 105, l_ 26, b_ 0, c_ 7] ?_
    refine .reg' [1, 2, 11, 12, 13, 14] [] ⟨[(1, (I a1)), (2, (I a2)), (11, (.sl true a0.f1.length 4 (a0.f1.flatMap e95))), (12, (I (a0.f1.length : Int))), (13, (I x1)), (14, (B (decide (x1 < (a0.f1.length : Int)))))], [], [], []⟩ [c_ 210, c_ 211, l_ 26, b_ 0, c_ 7] aln nocal ?_
    by_cases c1 : x1 < (a0.f1.length : Int)
    · rw [if_pos c1] at h
      refine .cond' (.tmp 14) true [c_ 1688, c_ 1689, b_ 1, c_ 423, l_ 26, b_ 0, c_ 7] (bT (dT c1)) ?_
      by_cases c2 : 0 ≤ x1
      · rw [if_pos c2] at h
        refine .reg' [1, 2, 8, 9, 11, 12, 13] [.no, .no, .v (.ag [(I (at_ a0.f1 x1).f0), (I (at_ a0.f1 x1).f1), (I (at_ a0.f1 x1).f2), (I (at_ a0.f1 x1).f3)])] ⟨[(1, (I a1)), (2, (I a2)), (8, (I x1)), (9, (.pt 1027 0 4)), (11, (.sl true a0.f1.length 4 (a0.f1.flatMap e95))), (12, (I (a0.f1.length : Int))), (13, (I x1))], [(1027, [(I (at_ a0.f1 x1).f0), (I (at_ a0.f1 x1).f1), (I (at_ a0.f1 x1).f2), (I (at_ a0.f1 x1).f3)])], [(0 : Int) ≤ x1 ∧ x1 < (a0.f1.length : Int), rdC prog 96 ((a0.f1.flatMap e95).drop (x1.toNat * 4)) = (.ag [(I (at_ a0.f1 x1).f0), (I (at_ a0.f1 x1).f1), (I (at_ a0.f1 x1).f2), (I (at_ a0.f1 x1).f3)]), 4 ≤ ((a0.f1.flatMap e95).drop (x1.toNat * 4)).length, 4 = 4 ∧ 0 + 4 ≤ 4], []⟩ [c_ 6756, c_ 6757, c_ 3379, b_ 1, c_ 423, l_ 26, b_ 0, c_ 7] (alc ⟨c2, c1⟩ (alc (ldA e95_ok rfl rfl c2 c1) (alc (okI e95_ok c2 c1 (by decide)) (alc ⟨rfl, by decide⟩ aln)))) nocal ?_
        by_cases c3 : (at_ a0.f1 x1).f0 = a1
        · rw [if_pos c3] at h
          refine .reg' [1, 2, 8, 9, 11, 12, 13, 27] [.no, .no, .no, .no, .v (B true)] ⟨[(1, (I a1)), (2, (I a2)), (8, (I x1)), (9, (.pt 1027 0 4)), (11, (.sl true a0.f1.length 4 (a0.f1.flatMap e95))), (12, (I (a0.f1.length : Int))), (13, (I x1)), (27, (B ((at_ a0.f1 x1).f1 == a2)))], [(1027, [(I (at_ a0.f1 x1).f0), (I (at_ a0.f1 x1).f1), (I (at_ a0.f1 x1).f2), (I (at_ a0.f1 x1).f3)])], [4 = 4 ∧ 0 + 1 ≤ 4, (B ((at_ a0.f1 x1).f0 == a1) : V) = B true, 4 = 4 ∧ 1 + 1 ≤ 4], []⟩ [c_ 6757, c_ 3379, b_ 1, c_ 423, l_ 26, b_ 0, c_ 7] (alc ⟨rfl, by decide⟩ (alc (bT (qT c3)) (alc ⟨rfl, by decide⟩ aln))) nocal ?_
          by_cases c4 : (at_ a0.f1 x1).f1 = a2
          · rw [if_pos c4] at h
            refine .cond' (.tmp 27) true [c_ 27028, c_ 27029, c_ 3379, b_ 1, c_ 423, l_ 26, b_ 0, c_ 7] (bT (qT c4)) ?_
            refine .reg' [6, 7] [] ⟨[(6, (I x1)), (7, (I 0))], [(1027, [(I (at_ a0.f1 x1).f0), (I (at_ a0.f1 x1).f1), (I (at_ a0.f1 x1).f2), (I (at_ a0.f1 x1).f3)])], [], []⟩ [c_ 27029, c_ 3379, b_ 1, c_ 423, l_ 26, b_ 0, c_ 7] aln nocal ?_
            have h := Option.some.inj h
            subst h
            exact .fin0 [] (.tp [(I x1), (I 0)]) [] aln (cnv_tp (a2c (.z .s) (a2c (.z .s) a2n)))
          · rw [if_neg c4] at h
            refine .cond' (.tmp 27) false [c_ 6758, c_ 6759, b_ 1, c_ 423, l_ 26, b_ 0, c_ 7] (bF (qF c4)) ?_
            by_cases c5 : (at_ a0.f1 x1).f0 = a2
            · rw [if_pos c5] at h
              refine .reg' [1, 2, 8, 11, 12, 13, 38] [.no, .no, .no, .no, .v (B true)] ⟨[(1, (I a1)), (2, (I a2)), (8, (I x1)), (11, (.sl true a0.f1.length 4 (a0.f1.flatMap e95))), (12, (I (a0.f1.length : Int))), (13, (I x1)), (38, (B ((at_ a0.f1 x1).f1 == a1)))], [(1027, [(I (at_ a0.f1 x1).f0), (I (at_ a0.f1 x1).f1), (I (at_ a0.f1 x1).f2), (I (at_ a0.f1 x1).f3)])], [4 = 4 ∧ 0 + 1 ≤ 4, (B ((at_ a0.f1 x1).f0 == a2) : V) = B true, 4 = 4 ∧ 1 + 1 ≤ 4], []⟩ [c_ 6759, b_ 1, c_ 423, l_ 26, b_ 0, c_ 7] (alc ⟨rfl, by decide⟩ (alc (bT (qT c5)) (alc ⟨rfl, by decide⟩ aln))) nocal ?_
              by_cases c6 : (at_ a0.f1 x1).f1 = a1
              · rw [if_pos c6] at h
                refine .cond' (.tmp 38) true [c_ 27036, c_ 27037, b_ 1, c_ 423, l_ 26, b_ 0, c_ 7] (bT (qT c6)) ?_
                refine .reg' [6, 7] [] ⟨[(6, (I x1)), (7, (I 1))], [(1027, [(I (at_ a0.f1 x1).f0), (I (at_ a0.f1 x1).f1), (I (at_ a0.f1 x1).f2), (I (at_ a0.f1 x1).f3)])], [], []⟩ [c_ 27037, b_ 1, c_ 423, l_ 26, b_ 0, c_ 7] aln nocal ?_
                have h := Option.some.inj h
                subst h
                exact .fin0 [] (.tp [(I x1), (I 1)]) [] aln (cnv_tp (a2c (.z .s) (a2c (.z .s) a2n)))
              · rw [if_neg c6] at h
                refine .cond' (.tmp 38) false [c_ 423, l_ 26, b_ 0, c_ 7] (bF (qF c6)) ?_
                refine .reg' [1, 2, 11, 12, 13] [] ⟨[(1, (I a1)), (2, (I a2)), (11, (.sl true a0.f1.length 4 (a0.f1.flatMap e95))), (12, (I (a0.f1.length : Int))), (13, (I (wrap64 (x1 + 1))))], [(1027, [(I (at_ a0.f1 x1).f0), (I (at_ a0.f1 x1).f1), (I (at_ a0.f1 x1).f2), (I (at_ a0.f1 x1).f3)])], [], []⟩ [l_ 26, b_ 0, c_ 7] aln nocal ?_
                refine .wk' [] [] [(1, (I a1)), (2, (I a2)), (11, (.sl true a0.f1.length 4 (a0.f1.flatMap e95))), (12, (I (a0.f1.length : Int))), (13, (I (wrap64 (x1 + 1))))] [] shn (enc_ (.z .s) (enc_ (.z .s) (enc_ (.z (frz_sl e95_ok (fun h => h))) (enc_ (.z .s) (enc_ (.z .s) enn))))) ?_
                exact ih0 a0 a1 a2 (wrap64 (x1 + 1)) _ h
            · rw [if_neg c5] at h
              refine .reg' [1, 2, 8, 11, 12, 13, 38] [.no, .no, .no, .no, .v (B false)] ⟨[(1, (I a1)), (2, (I a2)), (8, (I x1)), (11, (.sl true a0.f1.length 4 (a0.f1.flatMap e95))), (12, (I (a0.f1.length : Int))), (13, (I x1)), (38, (B false))], [(1027, [(I (at_ a0.f1 x1).f0), (I (at_ a0.f1 x1).f1), (I (at_ a0.f1 x1).f2), (I (at_ a0.f1 x1).f3)])], [4 = 4 ∧ 0 + 1 ≤ 4, (B ((at_ a0.f1 x1).f0 == a2) : V) = B false], []⟩ [c_ 6759, b_ 1, c_ 423, l_ 26, b_ 0, c_ 7] (alc ⟨rfl, by decide⟩ (alc (bF (qF c5)) aln)) nocal ?_
              refine .cond' (.tmp 38) false [c_ 423, l_ 26, b_ 0, c_ 7] (rfl) ?_
              refine .reg' [1, 2, 11, 12, 13] [] ⟨[(1, (I a1)), (2, (I a2)), (11, (.sl true a0.f1.length 4 (a0.f1.flatMap e95))), (12, (I (a0.f1.length : Int))), (13, (I (wrap64 (x1 + 1))))], [(1027, [(I (at_ a0.f1 x1).f0), (I (at_ a0.f1 x1).f1), (I (at_ a0.f1 x1).f2), (I (at_ a0.f1 x1).f3)])], [], []⟩ [l_ 26, b_ 0, c_ 7] aln nocal ?_
              refine .wk' [] [] [(1, (I a1)), (2, (I a2)), (11, (.sl true a0.f1.length 4 (a0.f1.flatMap e95))), (12, (I (a0.f1.length : Int))), (13, (I (wrap64 (x1 + 1))))] [] shn (enc_ (.z .s) (enc_ (.z .s) (enc_ (.z (frz_sl e95_ok (fun h => h))) (enc_ (.z .s) (enc_ (.z .s) enn))))) ?_
              exact ih0 a0 a1 a2 (wrap64 (x1 + 1)) _ h
        · rw [if_neg c3] at h
          refine .reg' [1, 2, 8, 9, 11, 12, 13, 27] [.no, .no, .no, .no, .v (B false)] ⟨[(1, (I a1)), (2, (I a2)), (8, (I x1)), (9, (.pt 1027 0 4)), (11, (.sl true a0.f1.length 4 (a0.f1.flatMap e95))), (12, (I (a0.f1.length : Int))), (13, (I x1)), (27, (B false))], [(1027, [(I (at_ a0.f1 x1).f0), (I (at_ a0.f1 x1).f1), (I (at_ a0.f1 x1).f2), (I (at_ a0.f1 x1).f3)])], [4 = 4 ∧ 0 + 1 ≤ 4, (B ((at_ a0.f1 x1).f0 == a1) : V) = B false], []⟩ [c_ 6757, c_ 3379, b_ 1, c_ 423, l_ 26, b_ 0, c_ 7] (alc ⟨rfl, by decide⟩ (alc (bF (qF c3)) aln)) nocal ?_
          refine .cond' (.tmp 27) false [c_ 6758, c_ 6759, b_ 1, c_ 423, l_ 26, b_ 0, c_ 7] (rfl) ?_
          by_cases c7 : (at_ a0.f1 x1).f0 = a2
          · rw [if_pos c7] at h
            refine .reg' [1, 2, 8, 11, 12, 13, 38] [.no, .no, .no, .no, .v (B true)] ⟨[(1, (I a1)), (2, (I a2)), (8, (I x1)), (11, (.sl true a0.f1.length 4 (a0.f1.flatMap e95))), (12, (I (a0.f1.length : Int))), (13, (I x1)), (38, (B ((at_ a0.f1 x1).f1 == a1)))], [(1027, [(I (at_ a0.f1 x1).f0), (I (at_ a0.f1 x1).f1), (I (at_ a0.f1 x1).f2), (I (at_ a0.f1 x1).f3)])], [4 = 4 ∧ 0 + 1 ≤ 4, (B ((at_ a0.f1 x1).f0 == a2) : V) = B true, 4 = 4 ∧ 1 + 1 ≤ 4], []⟩ [c_ 6759, b_ 1, c_ 423, l_ 26, b_ 0, c_ 7] (alc ⟨rfl, by decide⟩ (alc (bT (qT c7)) (alc ⟨rfl, by decide⟩ aln))) nocal ?_
            by_cases c8 : (at_ a0.f1 x1).f1 = a1
            · rw [if_pos c8] at h
              refine .cond' (.tmp 38) true [c_ 27036, c_ 27037, b_ 1, c_ 423, l_ 26, b_ 0, c_ 7] (bT (qT c8)) ?_
              refine .reg' [6, 7] [] ⟨[(6, (I x1)), (7, (I 1))], [(1027, [(I (at_ a0.f1 x1).f0), (I (at_ a0.f1 x1).f1), (I (at_ a0.f1 x1).f2), (I (at_ a0.f1 x1).f3)])], [], []⟩ [c_ 27037, b_ 1, c_ 423, l_ 26, b_ 0, c_ 7] aln nocal ?_
              have h := Option.some.inj h
              subst h
              exact .fin0 [] (.tp [(I x1), (I 1)]) [] aln (cnv_tp (a2c (.z .s) (a2c (.z .s) a2n)))
            · rw [if_neg c8] at h
              refine .cond' (.tmp 38) false [c_ 423, l_ 26, b_ 0, c_ 7] (bF (qF c8)) ?_
              refine .reg' [1, 2, 11, 12, 13] [] ⟨[(1, (I a1)), (2, (I a2)), (11, (.sl true a0.f1.length 4 (a0.f1.flatMap e95))), (12, (I (a0.f1.length : Int))), (13, (I (wrap64 (x1 + 1))))], [(1027, [(I (at_ a0.f1 x1).f0), (I (at_ a0.f1 x1).f1), (I (at_ a0.f1 x1).f2), (I (at_ a0.f1 x1).f3)])], [], []⟩ [l_ 26, b_ 0, c_ 7] aln nocal ?_
              refine .wk' [] [] [(1, (I a1)), (2, (I a2)), (11, (.sl true a0.f1.length 4 (a0.f1.flatMap e95))), (12, (I (a0.f1.length : Int))), (13, (I (wrap64 (x1 + 1))))] [] shn (enc_ (.z .s) (enc_ (.z .s) (enc_ (.z (frz_sl e95_ok (fun h => h))) (enc_ (.z .s) (enc_ (.z .s) enn))))) ?_
              exact ih0 a0 a1 a2 (wrap64 (x1 + 1)) _ h
          · rw [if_neg c7] at h
            refine .reg' [1, 2, 8, 11, 12, 13, 38] [.no, .no, .no, .no, .v (B false)] ⟨[(1, (I a1)), (2, (I a2)), (8, (I x1)), (11, (.sl true a0.f1.length 4 (a0.f1.flatMap e95))), (12, (I (a0.f1.length : Int))), (13, (I x1)), (38, (B false))], [(1027, [(I (at_ a0.f1 x1).f0), (I (at_ a0.f1 x1).f1), (I (at_ a0.f1 x1).f2), (I (at_ a0.f1 x1).f3)])], [4 = 4 ∧ 0 + 1 ≤ 4, (B ((at_ a0.f1 x1).f0 == a2) : V) = B false], []⟩ [c_ 6759, b_ 1, c_ 423, l_ 26, b_ 0, c_ 7] (alc ⟨rfl, by decide⟩ (alc (bF (qF c7)) aln)) nocal ?_
            refine .cond' (.tmp 38) false [c_ 423, l_ 26, b_ 0, c_ 7] (rfl) ?_
            refine .reg' [1, 2, 11, 12, 13] [] ⟨[(1, (I a1)), (2, (I a2)), (11, (.sl true a0.f1.length 4 (a0.f1.flatMap e95))), (12, (I (a0.f1.length : Int))), (13, (I (wrap64 (x1 + 1))))], [(1027, [(I (at_ a0.f1 x1).f0), (I (at_ a0.f1 x1).f1), (I (at_ a0.f1 x1).f2), (I (at_ a0.f1 x1).f3)])], [], []⟩ [l_ 26, b_ 0, c_ 7] aln nocal ?_
            refine .wk' [] [] [(1, (I a1)), (2, (I a2)), (11, (.sl true a0.f1.length 4 (a0.f1.flatMap e95))), (12, (I (a0.f1.length : Int))), (13, (I (wrap64 (x1 + 1))))] [] shn (enc_ (.z .s) (enc_ (.z .s) (enc_ (.z (frz_sl e95_ok (fun h => h))) (enc_ (.z .s) (enc_ (.z .s) enn))))) ?_
            exact ih0 a0 a1 a2 (wrap64 (x1 + 1)) _ h
      · rw [if_neg c2] at h
        cases h
    · rw [if_neg c1] at h
      refine .cond' (.tmp 14) false [c_ 14, c_ 15] (bF (dF c1)) ?_
      refine .reg' [6, 7] [] ⟨[(6, (I (-1))), (7, (I 0))], [], [], []⟩ [c_ 15] aln nocal ?_
      have h := Option.some.inj h
      subst h
      exact .fin0 [] (.tp [(I (-1)), (I 0)]) [] aln (cnv_tp (a2c (.z .s) (a2c (.z .s) a2n)))
theorem impl_Net_joining.J (k : Nat) (a0 : S46) (a1 : Int) (a2 : Int) (r : (Int × Int)) (h : impl_Net_joining.f k a0 a1 a2 = some r) : J prog (.call 96 [(.ag [(I a0.f0), (.sl true a0.f1.length 4 (a0.f1.flatMap e95))]), (I a1), (I a2)] [] (.tp [(I r.1), (I r.2)]) []) := by
  unfold impl_Net_joining.f at h
  have ih0 := impl_Net_joining.lab k
  refine .call' [c_ 2, c_ 3] ?_
  refine .reg' [1, 2, 3] [] ⟨[(1, (I a1)), (2, (I a2)), (3, (.pt 256 0 2))], [(256, [(I a0.f0), (.sl true a0.f1.length 4 (a0.f1.flatMap e95))])], [], []⟩ [c_ 12, c_ 13, c_ 7] aln nocal ?_
  refine .reg' [1, 2, 11, 12, 13] [] ⟨[(1, (I a1)), (2, (I a2)), (11, (.sl true a0.f1.length 4 (a0.f1.flatMap e95))), (12, (I (a0.f1.length : Int))), (13, (I 0))], [(256, [(I a0.f0), (.sl true a0.f1.length 4 (a0.f1.flatMap e95))])], [2 = 2 ∧ 1 + 1 ≤ 2], []⟩ [l_ 26, b_ 0, c_ 7] (alc ⟨rfl, by decide⟩ aln) nocal ?_
  refine .wk' [] [] [(1, (I a1)), (2, (I a2)), (11, (.sl true a0.f1.length 4 (a0.f1.flatMap e95))), (12, (I (a0.f1.length : Int))), (13, (I 0))] [] shn (enc_ (.z .s) (enc_ (.z .s) (enc_ (.z (frz_sl e95_ok (fun h => h))) (enc_ (.z .s) (enc_ (.z .s) enn))))) ?_
  exact ih0 a0 a1 a2 0 _ h
/-! impl_Net_usesOf: function 78 -/
def impl_Net_usesOf.l0 : Nat → S46 → S66 → Int → (List S22) → Int → Option ((List S22) × Bool)
 | 0, _, _, _, _, _ => none
 | k + 1, a0, a1, a2, x1, x2 => (if x2 < (a1.f1.length : Int) then (if 0 ≤ (wrap64 (x2 - 1)) then (if (wrap64 (x2 - 1)) < (a1.f1.length : Int) then (if 0 ≤ x2 then ((impl_Net_joining.f k a0 ((at_ a1.f1 (wrap64 (x2 - 1))).f0) ((at_ a1.f1 x2).f0)).bind fun x3 => (if x3.1 < 0 then (some (([] : List S22), false)) else (if (x1.length + ([(⟨x3.1, x3.2, (at_ a1.f1 (wrap64 (x2 - 1))).f2, (at_ a1.f1 x2).f1, a2⟩ : S22)] : List S22).length) * 40 ≤ 70368744177664 then (impl_Net_usesOf.l0 k a0 a1 a2 (x1 ++ ([(⟨x3.1, x3.2, (at_ a1.f1 (wrap64 (x2 - 1))).f2, (at_ a1.f1 x2).f1, a2⟩ : S22)] : List S22)) (wrap64 (x2 + 1))) else none))) else none) else none) else none) else (some (x1, true)))
def impl_Net_usesOf.f (k : Nat) (a0 : S46) (a1 : S66) (a2 : Int) : Option ((List S22) × Bool) := (impl_Net_usesOf.l0 k a0 a1 a2 ([] : List S22) 1)
theorem impl_Net_usesOf.lab : ∀ k, (∀ (a0 : S46) (a1 : S66) (a2 : Int) (x1 : (List S22)) (x2 : Int) (r : ((List S22) × Bool)), impl_Net_usesOf.l0 k a0 a1 a2 x1 x2 = some r → J prog (.run 78 [] [l_ 58, b_ 0, c_ 15] [(2, (I a2)), (3, (.pt 256 0 2)), (4, (.pt 257 0 2)), (8, (.rf 512 0 x1.length 5 (x1.length * 5))), (9, (I x2))] [(256, [(I a0.f0), (.sl true a0.f1.length 4 (a0.f1.flatMap e95))]), (257, [(S a1.f0), (.sl true a1.f1.length 3 (a1.f1.flatMap e89))]), (512, (x1.flatMap e22))] (.tp [(.rf 512 0 r.1.length 5 (r.1.length * 5)), (B r.2)]) [(512, (r.1.flatMap e22))]))
 | 0 => (by intro a0 a1 a2 x1 x2 r h; unfold impl_Net_usesOf.l0 at h; cases h)
 | k + 1 => by
  have ih0 := impl_Net_usesOf.lab k
  · intro a0 a1 a2 x1 x2 r h
    unfold impl_Net_usesOf.l0 at h
    refine .loop' [c_ 464, c_ 465, c_ 233, l_ 58, b_ 0, c_ 15] ?_
    refine .reg' [2, 3, 4, 8, 9, 19] [] ⟨[(2, (I a2)), (3, (.pt 256 0 2)), (4, (.pt 257 0 2)), (8, (.rf 512 0 x1.length 5 (x1.length * 5))), (9, (I x2)), (19, (B (decide (x2 < (a1.f1.length : Int)))))], [(256, [(I a0.f0), (.sl true a0.f1.length 4 (a0.f1.flatMap e95))]), (257, [(S a1.f0), (.sl true a1.f1.length 3 (a1.f1.flatMap e89))]), (512, (x1.flatMap e22))], [2 = 2 ∧ 1 + 1 ≤ 2], []⟩ [c_ 465, c_ 233, l_ 58, b_ 0, c_ 15] (alc ⟨rfl, by decide⟩ aln) nocal ?_
    by_cases c1 : x2 < (a1.f1.length : Int)
    · rw [if_pos c1] at h
      refine .cond' (.tmp 19) true [c_ 1864, c_ 1865, b_ 1, c_ 467, l_ 58, b_ 0, c_ 15] (bT (dT c1)) ?_
      by_cases c2 : 0 ≤ (wrap64 (x2 - 1))
      · rw [if_pos c2] at h
        by_cases c3 : (wrap64 (x2 - 1)) < (a1.f1.length : Int)
        · rw [if_pos c3] at h
          by_cases c4 : 0 ≤ x2
          · rw [if_pos c4] at h
            refine .reg' [2, 3, 4, 8, 9, 10, 11] [.no, .no, .no, .no, .no, .v (.ag [(I (at_ a1.f1 (wrap64 (x2 - 1))).f0), (I (at_ a1.f1 (wrap64 (x2 - 1))).f1), (I (at_ a1.f1 (wrap64 (x2 - 1))).f2)]), .no, .no, .no, .no, .v (.ag [(I (at_ a1.f1 x2).f0), (I (at_ a1.f1 x2).f1), (I (at_ a1.f1 x2).f2)])] ⟨[(2, (I a2)), (3, (.pt 256 0 2)), (4, (.pt 257 0 2)), (8, (.rf 512 0 x1.length 5 (x1.length * 5))), (9, (I x2)), (10, (.pt 1547 0 3)), (11, (.pt 1548 0 3))], [(256, [(I a0.f0), (.sl true a0.f1.length 4 (a0.f1.flatMap e95))]), (257, [(S a1.f0), (.sl true a1.f1.length 3 (a1.f1.flatMap e89))]), (512, (x1.flatMap e22)), (1547, [(I (at_ a1.f1 (wrap64 (x2 - 1))).f0), (I (at_ a1.f1 (wrap64 (x2 - 1))).f1), (I (at_ a1.f1 (wrap64 (x2 - 1))).f2)]), (1548, [(I (at_ a1.f1 x2).f0), (I (at_ a1.f1 x2).f1), (I (at_ a1.f1 x2).f2)])], [2 = 2 ∧ 1 + 1 ≤ 2, (0 : Int) ≤ (wrap64 (x2 - 1)) ∧ (wrap64 (x2 - 1)) < (a1.f1.length : Int), rdC prog 90 ((a1.f1.flatMap e89).drop ((wrap64 (x2 - 1)).toNat * 3)) = (.ag [(I (at_ a1.f1 (wrap64 (x2 - 1))).f0), (I (at_ a1.f1 (wrap64 (x2 - 1))).f1), (I (at_ a1.f1 (wrap64 (x2 - 1))).f2)]), 3 ≤ ((a1.f1.flatMap e89).drop ((wrap64 (x2 - 1)).toNat * 3)).length, 2 = 2 ∧ 1 + 1 ≤ 2, (0 : Int) ≤ x2 ∧ x2 < (a1.f1.length : Int), rdC prog 90 ((a1.f1.flatMap e89).drop (x2.toNat * 3)) = (.ag [(I (at_ a1.f1 x2).f0), (I (at_ a1.f1 x2).f1), (I (at_ a1.f1 x2).f2)]), 3 ≤ ((a1.f1.flatMap e89).drop (x2.toNat * 3)).length, 3 = 3 ∧ 0 + 3 ≤ 3, 3 = 3 ∧ 0 + 3 ≤ 3], []⟩ [c_ 3730, c_ 3731, b_ 1, c_ 467, l_ 58, b_ 0, c_ 15] (alc ⟨rfl, by decide⟩ (alc ⟨c2, c3⟩ (alc (ldA e89_ok rfl rfl c2 c3) (alc (okI e89_ok c2 c3 (by decide)) (alc ⟨rfl, by decide⟩ (alc ⟨c4, c1⟩ (alc (ldA e89_ok rfl rfl c4 c1) (alc (okI e89_ok c4 c1 (by decide)) (alc ⟨rfl, by decide⟩ (alc ⟨rfl, by decide⟩ aln)))))))))) nocal ?_
            obtain ⟨x3, hx3, h⟩ := Option.bind_eq_some_iff.mp h
            refine .reg' [2, 3, 4, 8, 9, 10, 11, 12, 13] [.no, .no, .no, .no, .no, .c ⟨96, [(.ag [(I a0.f0), (.sl true a0.f1.length 4 (a0.f1.flatMap e95))]), (I (at_ a1.f1 (wrap64 (x2 - 1))).f0), (I (at_ a1.f1 x2).f0)], [], (.tp [(I x3.1), (I x3.2)]), [], [], [], [], (.tp [(I x3.1), (I x3.2)]), []⟩] ⟨[(2, (I a2)), (3, (.pt 256 0 2)), (4, (.pt 257 0 2)), (8, (.rf 512 0 x1.length 5 (x1.length * 5))), (9, (I x2)), (10, (.pt 1547 0 3)), (11, (.pt 1548 0 3)), (12, (I x3.1)), (13, (I x3.2))], [(256, [(I a0.f0), (.sl true a0.f1.length 4 (a0.f1.flatMap e95))]), (257, [(S a1.f0), (.sl true a1.f1.length 3 (a1.f1.flatMap e89))]), (512, (x1.flatMap e22)), (1547, [(I (at_ a1.f1 (wrap64 (x2 - 1))).f0), (I (at_ a1.f1 (wrap64 (x2 - 1))).f1), (I (at_ a1.f1 (wrap64 (x2 - 1))).f2)]), (1548, [(I (at_ a1.f1 x2).f0), (I (at_ a1.f1 x2).f1), (I (at_ a1.f1 x2).f2)])], [2 = 2 ∧ 0 + 2 ≤ 2, 3 = 3 ∧ 0 + 1 ≤ 3, 3 = 3 ∧ 0 + 1 ≤ 3, COK (hget [(256, [(I a0.f0), (.sl true a0.f1.length 4 (a0.f1.flatMap e95))]), (257, [(S a1.f0), (.sl true a1.f1.length 3 (a1.f1.flatMap e89))]), (512, (x1.flatMap e22)), (1547, [(I (at_ a1.f1 (wrap64 (x2 - 1))).f0), (I (at_ a1.f1 (wrap64 (x2 - 1))).f1), (I (at_ a1.f1 (wrap64 (x2 - 1))).f2)]), (1548, [(I (at_ a1.f1 x2).f0), (I (at_ a1.f1 x2).f1), (I (at_ a1.f1 x2).f2)])]) [(.ag [(I a0.f0), (.sl true a0.f1.length 4 (a0.f1.flatMap e95))]), (I (at_ a1.f1 (wrap64 (x2 - 1))).f0), (I (at_ a1.f1 x2).f0)] ⟨96, [(.ag [(I a0.f0), (.sl true a0.f1.length 4 (a0.f1.flatMap e95))]), (I (at_ a1.f1 (wrap64 (x2 - 1))).f0), (I (at_ a1.f1 x2).f0)], [], (.tp [(I x3.1), (I x3.2)]), [], [], [], [], (.tp [(I x3.1), (I x3.2)]), []⟩], [⟨96, [(.ag [(I a0.f0), (.sl true a0.f1.length 4 (a0.f1.flatMap e95))]), (I (at_ a1.f1 (wrap64 (x2 - 1))).f0), (I (at_ a1.f1 x2).f0)], [], (.tp [(I x3.1), (I x3.2)]), [], [], [], [], (.tp [(I x3.1), (I x3.2)]), []⟩]⟩ [c_ 14924, c_ 14925, c_ 7463, b_ 1, c_ 467, l_ 58, b_ 0, c_ 15] (alc ⟨rfl, by decide⟩ (alc ⟨rfl, by decide⟩ (alc ⟨rfl, by decide⟩ (alc (cok0 false (a2c (.z (frz_ag (a2c .s (a2c (frz_sl e95_ok (fun h => h)) a2n)))) (a2c (.z .s) (a2c (.z .s) a2n))) (bck_tp (a2c (.z .s) (a2c (.z .s) a2n))) (fun h => absurd h (by decide))) aln)))) (acal (impl_Net_joining.J k a0 ((at_ a1.f1 (wrap64 (x2 - 1))).f0) ((at_ a1.f1 x2).f0) _ hx3) nocal) ?_
            refine .reg' [2, 3, 4, 8, 9, 10, 11, 12, 13, 43] [] ⟨[(2, (I a2)), (3, (.pt 256 0 2)), (4, (.pt 257 0 2)), (8, (.rf 512 0 x1.length 5 (x1.length * 5))), (9, (I x2)), (10, (.pt 1547 0 3)), (11, (.pt 1548 0 3)), (12, (I x3.1)), (13, (I x3.2)), (43, (B (decide (x3.1 < 0))))], [(256, [(I a0.f0), (.sl true a0.f1.length 4 (a0.f1.flatMap e95))]), (257, [(S a1.f0), (.sl true a1.f1.length 3 (a1.f1.flatMap e89))]), (512, (x1.flatMap e22)), (1547, [(I (at_ a1.f1 (wrap64 (x2 - 1))).f0), (I (at_ a1.f1 (wrap64 (x2 - 1))).f1), (I (at_ a1.f1 (wrap64 (x2 - 1))).f2)]), (1548, [(I (at_ a1.f1 x2).f0), (I (at_ a1.f1 x2).f1), (I (at_ a1.f1 x2).f2)])], [], []⟩ [c_ 14925, c_ 7463, b_ 1, c_ 467, l_ 58, b_ 0, c_ 15] aln nocal ?_
            by_cases c5 : x3.1 < 0
            · rw [if_pos c5] at h
              refine .cond' (.tmp 43) true [c_ 59700, c_ 59701, c_ 7463, b_ 1, c_ 467, l_ 58, b_ 0, c_ 15] (bT (dT c5)) ?_
              refine .reg' [6, 7] [] ⟨[(6, nilS), (7, (B false))], [(256, [(I a0.f0), (.sl true a0.f1.length 4 (a0.f1.flatMap e95))]), (257, [(S a1.f0), (.sl true a1.f1.length 3 (a1.f1.flatMap e89))]), (512, (x1.flatMap e22)), (1547, [(I (at_ a1.f1 (wrap64 (x2 - 1))).f0), (I (at_ a1.f1 (wrap64 (x2 - 1))).f1), (I (at_ a1.f1 (wrap64 (x2 - 1))).f2)]), (1548, [(I (at_ a1.f1 x2).f0), (I (at_ a1.f1 x2).f1), (I (at_ a1.f1 x2).f2)])], [], []⟩ [c_ 59701, c_ 7463, b_ 1, c_ 467, l_ 58, b_ 0, c_ 15] aln nocal ?_
              have h := Option.some.inj h
              subst h
              refine .nl' 513 ?_
              exact .fin' [] [(513, 512)] (.tp [nilS, (B false)]) [] aln (shc 513 (rowF e22_ok _) shn) (cnv_tp (a2c (.nl (memP_mem (p := (513, 512)) rfl) rfl) (a2c (.z .s) a2n)))
            · rw [if_neg c5] at h
              refine .cond' (.tmp 43) false [c_ 7463, b_ 1, c_ 467, l_ 58, b_ 0, c_ 15] (bF (dF c5)) ?_
              by_cases c6 : (x1.length + ([(⟨x3.1, x3.2, (at_ a1.f1 (wrap64 (x2 - 1))).f2, (at_ a1.f1 x2).f1, a2⟩ : S22)] : List S22).length) * 40 ≤ 70368744177664
              · rw [if_pos c6] at h
                refine .reg' [2, 3, 4, 8, 9] [.no, .no, .no, .no, .no, .no, .no, .no, .no, .no, .w (.rf 512 0 ((x1 ++ ([(⟨x3.1, x3.2, (at_ a1.f1 (wrap64 (x2 - 1))).f2, (at_ a1.f1 x2).f1, a2⟩ : S22)] : List S22)).length) 5 ((x1 ++ ([(⟨x3.1, x3.2, (at_ a1.f1 (wrap64 (x2 - 1))).f2, (at_ a1.f1 x2).f1, a2⟩ : S22)] : List S22)).length * 5)) ((x1 ++ ([(⟨x3.1, x3.2, (at_ a1.f1 (wrap64 (x2 - 1))).f2, (at_ a1.f1 x2).f1, a2⟩ : S22)] : List S22)).flatMap e22)] ⟨[(2, (I a2)), (3, (.pt 256 0 2)), (4, (.pt 257 0 2)), (8, (.rf 512 0 ((x1 ++ ([(⟨x3.1, x3.2, (at_ a1.f1 (wrap64 (x2 - 1))).f2, (at_ a1.f1 x2).f1, a2⟩ : S22)] : List S22)).length) 5 ((x1 ++ ([(⟨x3.1, x3.2, (at_ a1.f1 (wrap64 (x2 - 1))).f2, (at_ a1.f1 x2).f1, a2⟩ : S22)] : List S22)).length * 5))), (9, (I x2))], [(256, [(I a0.f0), (.sl true a0.f1.length 4 (a0.f1.flatMap e95))]), (257, [(S a1.f0), (.sl true a1.f1.length 3 (a1.f1.flatMap e89))]), (512, ((x1 ++ ([(⟨x3.1, x3.2, (at_ a1.f1 (wrap64 (x2 - 1))).f2, (at_ a1.f1 x2).f1, a2⟩ : S22)] : List S22)).flatMap e22)), (1547, [(I (at_ a1.f1 (wrap64 (x2 - 1))).f0), (I (at_ a1.f1 (wrap64 (x2 - 1))).f1), (I (at_ a1.f1 (wrap64 (x2 - 1))).f2)]), (1548, [(I (at_ a1.f1 x2).f0), (I (at_ a1.f1 x2).f1), (I (at_ a1.f1 x2).f2)]), (2569, (([(⟨x3.1, x3.2, (at_ a1.f1 (wrap64 (x2 - 1))).f2, (at_ a1.f1 x2).f1, a2⟩ : S22)] : List S22).flatMap e22))], [3 = 3 ∧ 2 + 1 ≤ 3, 3 = 3 ∧ 1 + 1 ≤ 3, V.rf 512 0 (x1.length + ([(⟨x3.1, x3.2, (at_ a1.f1 (wrap64 (x2 - 1))).f2, (at_ a1.f1 x2).f1, a2⟩ : S22)] : List S22).length) 5 (x1.length * 5 + ([(⟨x3.1, x3.2, (at_ a1.f1 (wrap64 (x2 - 1))).f2, (at_ a1.f1 x2).f1, a2⟩ : S22)] : List S22).length * 5) = (.rf 512 0 ((x1 ++ ([(⟨x3.1, x3.2, (at_ a1.f1 (wrap64 (x2 - 1))).f2, (at_ a1.f1 x2).f1, a2⟩ : S22)] : List S22)).length) 5 ((x1 ++ ([(⟨x3.1, x3.2, (at_ a1.f1 (wrap64 (x2 - 1))).f2, (at_ a1.f1 x2).f1, a2⟩ : S22)] : List S22)).length * 5)), x1.flatMap e22 ++ (((([(⟨x3.1, x3.2, (at_ a1.f1 (wrap64 (x2 - 1))).f2, (at_ a1.f1 x2).f1, a2⟩ : S22)] : List S22).flatMap e22).drop 0).take (([(⟨x3.1, x3.2, (at_ a1.f1 (wrap64 (x2 - 1))).f2, (at_ a1.f1 x2).f1, a2⟩ : S22)] : List S22).length * 5)) = ((x1 ++ ([(⟨x3.1, x3.2, (at_ a1.f1 (wrap64 (x2 - 1))).f2, (at_ a1.f1 x2).f1, a2⟩ : S22)] : List S22)).flatMap e22), (([(⟨x3.1, x3.2, (at_ a1.f1 (wrap64 (x2 - 1))).f2, (at_ a1.f1 x2).f1, a2⟩ : S22)] : List S22).length * 5 = (([(⟨x3.1, x3.2, (at_ a1.f1 (wrap64 (x2 - 1))).f2, (at_ a1.f1 x2).f1, a2⟩ : S22)] : List S22).flatMap e22).length ∧ 0 + ([(⟨x3.1, x3.2, (at_ a1.f1 (wrap64 (x2 - 1))).f2, (at_ a1.f1 x2).f1, a2⟩ : S22)] : List S22).length * 5 ≤ (([(⟨x3.1, x3.2, (at_ a1.f1 (wrap64 (x2 - 1))).f2, (at_ a1.f1 x2).f1, a2⟩ : S22)] : List S22).flatMap e22).length) ∧ x1.length * 5 = (x1.flatMap e22).length ∧ x1.length * 5 = (x1.flatMap e22).length ∧ (x1.length + ([(⟨x3.1, x3.2, (at_ a1.f1 (wrap64 (x2 - 1))).f2, (at_ a1.f1 x2).f1, a2⟩ : S22)] : List S22).length) * 40 ≤ 70368744177664], []⟩ [c_ 467, l_ 58, b_ 0, c_ 15] (alc ⟨rfl, by decide⟩ (alc ⟨rfl, by decide⟩ (alc (apV rfl) (alc (apR e22_ok rfl) (alc (apO e22_ok rfl c6 rfl) aln))))) nocal ?_
                refine .reg' [2, 3, 4, 8, 9] [] ⟨[(2, (I a2)), (3, (.pt 256 0 2)), (4, (.pt 257 0 2)), (8, (.rf 512 0 ((x1 ++ ([(⟨x3.1, x3.2, (at_ a1.f1 (wrap64 (x2 - 1))).f2, (at_ a1.f1 x2).f1, a2⟩ : S22)] : List S22)).length) 5 ((x1 ++ ([(⟨x3.1, x3.2, (at_ a1.f1 (wrap64 (x2 - 1))).f2, (at_ a1.f1 x2).f1, a2⟩ : S22)] : List S22)).length * 5))), (9, (I (wrap64 (x2 + 1))))], [(256, [(I a0.f0), (.sl true a0.f1.length 4 (a0.f1.flatMap e95))]), (257, [(S a1.f0), (.sl true a1.f1.length 3 (a1.f1.flatMap e89))]), (512, ((x1 ++ ([(⟨x3.1, x3.2, (at_ a1.f1 (wrap64 (x2 - 1))).f2, (at_ a1.f1 x2).f1, a2⟩ : S22)] : List S22)).flatMap e22)), (1547, [(I (at_ a1.f1 (wrap64 (x2 - 1))).f0), (I (at_ a1.f1 (wrap64 (x2 - 1))).f1), (I (at_ a1.f1 (wrap64 (x2 - 1))).f2)]), (1548, [(I (at_ a1.f1 x2).f0), (I (at_ a1.f1 x2).f1), (I (at_ a1.f1 x2).f2)]), (2569, (([(⟨x3.1, x3.2, (at_ a1.f1 (wrap64 (x2 - 1))).f2, (at_ a1.f1 x2).f1, a2⟩ : S22)] : List S22).flatMap e22))], [], []⟩ [l_ 58, b_ 0, c_ 15] aln nocal ?_
                refine .wk' [] [(256, 256), (257, 257), (512, 512)] [(2, (I a2)), (3, (.pt 256 0 2)), (4, (.pt 257 0 2)), (8, (.rf 512 0 ((x1 ++ ([(⟨x3.1, x3.2, (at_ a1.f1 (wrap64 (x2 - 1))).f2, (at_ a1.f1 x2).f1, a2⟩ : S22)] : List S22)).length) 5 ((x1 ++ ([(⟨x3.1, x3.2, (at_ a1.f1 (wrap64 (x2 - 1))).f2, (at_ a1.f1 x2).f1, a2⟩ : S22)] : List S22)).length * 5))), (9, (I (wrap64 (x2 + 1))))] [(256, [(I a0.f0), (.sl true a0.f1.length 4 (a0.f1.flatMap e95))]), (257, [(S a1.f0), (.sl true a1.f1.length 3 (a1.f1.flatMap e89))]), (512, ((x1 ++ ([(⟨x3.1, x3.2, (at_ a1.f1 (wrap64 (x2 - 1))).f2, (at_ a1.f1 x2).f1, a2⟩ : S22)] : List S22)).flatMap e22))] (shc 256 (a2c (.z .s) (a2c (.z (frz_sl e95_ok (fun h => h))) a2n)) (shc 257 (a2c (.z .s) (a2c (.z (frz_sl e89_ok (fun h => h))) a2n)) (shc 512 (rowF e22_ok _) shn))) (enc_ (.z .s) (enc_ (.pt (memP_mem (p := (256, 256)) rfl)) (enc_ (.pt (memP_mem (p := (257, 257)) rfl)) (enc_ (.rf (memP_mem (p := (512, 512)) rfl)) (enc_ (.z .s) enn))))) ?_
                exact ih0 a0 a1 a2 (x1 ++ ([(⟨x3.1, x3.2, (at_ a1.f1 (wrap64 (x2 - 1))).f2, (at_ a1.f1 x2).f1, a2⟩ : S22)] : List S22)) (wrap64 (x2 + 1)) _ h
              · rw [if_neg c6] at h
                cases h
          · rw [if_neg c4] at h
            cases h
        · rw [if_neg c3] at h
          cases h
      · rw [if_neg c2] at h
        cases h
    · rw [if_neg c1] at h
      refine .cond' (.tmp 19) false [c_ 30, c_ 31] (bF (dF c1)) ?_
      refine .reg' [6, 7] [] ⟨[(6, (.rf 512 0 x1.length 5 (x1.length * 5))), (7, (B true))], [(256, [(I a0.f0), (.sl true a0.f1.length 4 (a0.f1.flatMap e95))]), (257, [(S a1.f0), (.sl true a1.f1.length 3 (a1.f1.flatMap e89))]), (512, (x1.flatMap e22))], [], []⟩ [c_ 31] aln nocal ?_
      have h := Option.some.inj h
      subst h
      exact .fin' [] [(512, 512)] (.tp [(.rf 512 0 x1.length 5 (x1.length * 5)), (B true)]) [] aln (shc 512 (rowF e22_ok _) shn) (cnv_tp (a2c (.rf (memP_mem (p := (512, 512)) rfl)) (a2c (.z .s) a2n)))
theorem impl_Net_usesOf.J (k : Nat) (a0 : S46) (a1 : S66) (a2 : Int) (r : ((List S22) × Bool)) (h : impl_Net_usesOf.f k a0 a1 a2 = some r) : J prog (.call 78 [(.ag [(I a0.f0), (.sl true a0.f1.length 4 (a0.f1.flatMap e95))]), (.ag [(S a1.f0), (.sl true a1.f1.length 3 (a1.f1.flatMap e89))]), (I a2)] [] (.tp [(.rf 512 0 r.1.length 5 (r.1.length * 5)), (B r.2)]) [(512, (r.1.flatMap e22))]) := by
  unfold impl_Net_usesOf.f at h
  have ih0 := impl_Net_usesOf.lab k
  refine .call' [c_ 2, c_ 3] ?_
  refine .reg' [2, 3, 4] [] ⟨[(2, (I a2)), (3, (.pt 256 0 2)), (4, (.pt 257 0 2))], [(256, [(I a0.f0), (.sl true a0.f1.length 4 (a0.f1.flatMap e95))]), (257, [(S a1.f0), (.sl true a1.f1.length 3 (a1.f1.flatMap e89))])], [], []⟩ [c_ 6, c_ 7] aln nocal ?_
  refine .reg' [2, 3, 4, 8] [] ⟨[(2, (I a2)), (3, (.pt 256 0 2)), (4, (.pt 257 0 2)), (8, (.rf 512 0 (([] : List S22).length) 5 (([] : List S22).length * 5)))], [(256, [(I a0.f0), (.sl true a0.f1.length 4 (a0.f1.flatMap e95))]), (257, [(S a1.f0), (.sl true a1.f1.length 3 (a1.f1.flatMap e89))]), (512, (([] : List S22).flatMap e22))], [], []⟩ [c_ 28, c_ 29, c_ 15] aln nocal ?_
  refine .reg' [2, 3, 4, 8, 9] [] ⟨[(2, (I a2)), (3, (.pt 256 0 2)), (4, (.pt 257 0 2)), (8, (.rf 512 0 (([] : List S22).length) 5 (([] : List S22).length * 5))), (9, (I 1))], [(256, [(I a0.f0), (.sl true a0.f1.length 4 (a0.f1.flatMap e95))]), (257, [(S a1.f0), (.sl true a1.f1.length 3 (a1.f1.flatMap e89))]), (512, (([] : List S22).flatMap e22))], [], []⟩ [l_ 58, b_ 0, c_ 15] aln nocal ?_
  exact ih0 a0 a1 a2 ([] : List S22) 1 _ h
/-! impl_usesOfAll: function 66 -/
def impl_usesOfAll.l0 : Nat → S46 → (List S66) → (List S22) → Int → Option ((List S22) × Bool)
 | 0, _, _, _, _ => none
 | k + 1, a0, a1, x3, x4 => (if x4 < (a1.length : Int) then (if 0 ≤ x4 then ((impl_Net_usesOf.f k a0 (at_ a1 x4) x4).bind fun x5 => (if x5.2 = true then (if (x3.length + x5.1.length) * 40 ≤ 70368744177664 then (impl_usesOfAll.l0 k a0 a1 (x3 ++ x5.1) (wrap64 (x4 + 1))) else none) else (some (([] : List S22), false)))) else none) else (some (x3, true)))
def impl_usesOfAll.f (k : Nat) (a0 : S46) (a1 : (List S66)) : Option ((List S22) × Bool) := ((impl_NetOk.f k a0).bind fun x1 => (if x1 = true then ((impl_TableOk.f k a1).bind fun x2 => (if x2 = true then (impl_usesOfAll.l0 k a0 a1 ([] : List S22) 0) else (some (([] : List S22), false)))) else (some (([] : List S22), false))))
theorem impl_usesOfAll.lab : ∀ k, (∀ (a0 : S46) (a1 : (List S66)) (x3 : (List S22)) (x4 : Int) (r : ((List S22) × Bool)), impl_usesOfAll.l0 k a0 a1 x3 x4 = some r → J prog (.run 66 [] [l_ 122, b_ 0, c_ 31] [(2, (.pt 256 0 2)), (6, (.rf 1024 0 x3.length 5 (x3.length * 5))), (20, (.sl true a1.length 2 (a1.flatMap (e66 true)))), (21, (I (a1.length : Int))), (22, (I x4))] [(256, [(I a0.f0), (.sl true a0.f1.length 4 (a0.f1.flatMap e95))]), (1024, (x3.flatMap e22))] (.tp [(.rf 1024 0 r.1.length 5 (r.1.length * 5)), (B r.2)]) [(1024, (r.1.flatMap e22))]))
 | 0 => (by intro a0 a1 x3 x4 r h; unfold impl_usesOfAll.l0 at h; cases h)
 | k + 1 => by
  have ih0 := impl_usesOfAll.lab k
  · intro a0 a1 x3 x4 r h
    unfold impl_usesOfAll.l0 at h
    refine .loop' [c_ 488, c_ 489, l_ 122, b_ 0, c_ 31] ?_
    refine .reg' [2, 6, 20, 21, 22, 23] [] ⟨[(2, (.pt 256 0 2)), (6, (.rf 1024 0 x3.length 5 (x3.length * 5))), (20, (.sl true a1.length 2 (a1.flatMap (e66 true)))), (21, (I (a1.length : Int))), (22, (I x4)), (23, (B (decide (x4 < (a1.length : Int)))))], [(256, [(I a0.f0), (.sl true a0.f1.length 4 (a0.f1.flatMap e95))]), (1024, (x3.flatMap e22))], [], []⟩ [c_ 978, c_ 979, l_ 122, b_ 0, c_ 31] aln nocal ?_
    by_cases c3 : x4 < (a1.length : Int)
    · rw [if_pos c3] at h
      refine .cond' (.tmp 23) true [c_ 7832, c_ 7833, b_ 1, c_ 1959, l_ 122, b_ 0, c_ 31] (bT (dT c3)) ?_
      by_cases c4 : 0 ≤ x4
      · rw [if_pos c4] at h
        refine .reg' [2, 6, 7, 8, 20, 21, 22] [.no, .no, .v (.ag [(S (at_ a1 x4).f0), (.sl true (at_ a1 x4).f1.length 3 ((at_ a1 x4).f1.flatMap e89))])] ⟨[(2, (.pt 256 0 2)), (6, (.rf 1024 0 x3.length 5 (x3.length * 5))), (7, (I x4)), (8, (.pt 1795 0 2)), (20, (.sl true a1.length 2 (a1.flatMap (e66 true)))), (21, (I (a1.length : Int))), (22, (I x4))], [(256, [(I a0.f0), (.sl true a0.f1.length 4 (a0.f1.flatMap e95))]), (1024, (x3.flatMap e22)), (1795, [(S (at_ a1 x4).f0), (.sl true (at_ a1 x4).f1.length 3 ((at_ a1 x4).f1.flatMap e89))])], [(0 : Int) ≤ x4 ∧ x4 < (a1.length : Int), rdC prog 67 ((a1.flatMap (e66 true)).drop (x4.toNat * 2)) = (.ag [(S (at_ a1 x4).f0), (.sl true (at_ a1 x4).f1.length 3 ((at_ a1 x4).f1.flatMap e89))]), 2 ≤ ((a1.flatMap (e66 true)).drop (x4.toNat * 2)).length, 2 = 2 ∧ 0 + 2 ≤ 2], []⟩ [c_ 15666, c_ 15667, b_ 1, c_ 1959, l_ 122, b_ 0, c_ 31] (alc ⟨c4, c3⟩ (alc (ldA (e66_ok true) rfl rfl c4 c3) (alc (okI (e66_ok true) c4 c3 (by decide)) (alc ⟨rfl, by decide⟩ aln)))) nocal ?_
        obtain ⟨x5, hx5, h⟩ := Option.bind_eq_some_iff.mp h
        refine .reg' [2, 6, 9, 10, 20, 21, 22] [.no, .no, .no, .c ⟨78, [(.ag [(I a0.f0), (.sl true a0.f1.length 4 (a0.f1.flatMap e95))]), (.ag [(S (at_ a1 x4).f0), (.sl true (at_ a1 x4).f1.length 3 ((at_ a1 x4).f1.flatMap e89))]), (I x4)], [], (.tp [(.rf 512 0 x5.1.length 5 (x5.1.length * 5)), (B x5.2)]), [(512, (x5.1.flatMap e22))], [], [], [(1002051, 512)], (.tp [(.rf 1002051 0 x5.1.length 5 (x5.1.length * 5)), (B x5.2)]), [(1002051, (x5.1.flatMap e22))]⟩] ⟨[(2, (.pt 256 0 2)), (6, (.rf 1024 0 x3.length 5 (x3.length * 5))), (9, (.rf 1002051 0 x5.1.length 5 (x5.1.length * 5))), (10, (B x5.2)), (20, (.sl true a1.length 2 (a1.flatMap (e66 true)))), (21, (I (a1.length : Int))), (22, (I x4))], [(256, [(I a0.f0), (.sl true a0.f1.length 4 (a0.f1.flatMap e95))]), (1024, (x3.flatMap e22)), (1795, [(S (at_ a1 x4).f0), (.sl true (at_ a1 x4).f1.length 3 ((at_ a1 x4).f1.flatMap e89))]), (1002051, (x5.1.flatMap e22))], [2 = 2 ∧ 0 + 2 ≤ 2, 2 = 2 ∧ 0 + 2 ≤ 2, COK (hget [(256, [(I a0.f0), (.sl true a0.f1.length 4 (a0.f1.flatMap e95))]), (1024, (x3.flatMap e22)), (1795, [(S (at_ a1 x4).f0), (.sl true (at_ a1 x4).f1.length 3 ((at_ a1 x4).f1.flatMap e89))])]) [(.ag [(I a0.f0), (.sl true a0.f1.length 4 (a0.f1.flatMap e95))]), (.ag [(S (at_ a1 x4).f0), (.sl true (at_ a1 x4).f1.length 3 ((at_ a1 x4).f1.flatMap e89))]), (I x4)] ⟨78, [(.ag [(I a0.f0), (.sl true a0.f1.length 4 (a0.f1.flatMap e95))]), (.ag [(S (at_ a1 x4).f0), (.sl true (at_ a1 x4).f1.length 3 ((at_ a1 x4).f1.flatMap e89))]), (I x4)], [], (.tp [(.rf 512 0 x5.1.length 5 (x5.1.length * 5)), (B x5.2)]), [(512, (x5.1.flatMap e22))], [], [], [(1002051, 512)], (.tp [(.rf 1002051 0 x5.1.length 5 (x5.1.length * 5)), (B x5.2)]), [(1002051, (x5.1.flatMap e22))]⟩], [⟨78, [(.ag [(I a0.f0), (.sl true a0.f1.length 4 (a0.f1.flatMap e95))]), (.ag [(S (at_ a1 x4).f0), (.sl true (at_ a1 x4).f1.length 3 ((at_ a1 x4).f1.flatMap e89))]), (I x4)], [], (.tp [(.rf 512 0 x5.1.length 5 (x5.1.length * 5)), (B x5.2)]), [(512, (x5.1.flatMap e22))], [], [], [(1002051, 512)], (.tp [(.rf 1002051 0 x5.1.length 5 (x5.1.length * 5)), (B x5.2)]), [(1002051, (x5.1.flatMap e22))]⟩]⟩ [c_ 62668, c_ 62669, c_ 31335, b_ 1, c_ 1959, l_ 122, b_ 0, c_ 31] (alc ⟨rfl, by decide⟩ (alc ⟨rfl, by decide⟩ (alc (cokW false (a2c (.z (frz_ag (a2c .s (a2c (frz_sl e95_ok (fun h => h)) a2n)))) (a2c (.z (frz_ag (a2c .s (a2c (frz_sl e89_ok (fun h => h)) a2n)))) (a2c (.z .s) a2n))) akn (akc (.inr rfl) akn) (bck_tp (a2c (.rf (memP_mem (p := (1002051, 512)) rfl)) (a2c (.z .s) a2n))) (akc ⟨_, _, rfl, rfl, rowB e22_c _⟩ akn) (fun h => absurd h (by decide))) aln))) (acal (impl_Net_usesOf.J k a0 (at_ a1 x4) x4 _ hx5) nocal) ?_
        refine .reg' [2, 6, 9, 20, 21, 22, 35] [] ⟨[(2, (.pt 256 0 2)), (6, (.rf 1024 0 x3.length 5 (x3.length * 5))), (9, (.rf 1002051 0 x5.1.length 5 (x5.1.length * 5))), (20, (.sl true a1.length 2 (a1.flatMap (e66 true)))), (21, (I (a1.length : Int))), (22, (I x4)), (35, (B (!x5.2)))], [(256, [(I a0.f0), (.sl true a0.f1.length 4 (a0.f1.flatMap e95))]), (1024, (x3.flatMap e22)), (1795, [(S (at_ a1 x4).f0), (.sl true (at_ a1 x4).f1.length 3 ((at_ a1 x4).f1.flatMap e89))]), (1002051, (x5.1.flatMap e22))], [], []⟩ [c_ 62669, c_ 31335, b_ 1, c_ 1959, l_ 122, b_ 0, c_ 31] aln nocal ?_
        by_cases c5 : x5.2 = true
        · rw [if_pos c5] at h
          refine .cond' (.tmp 35) false [c_ 31335, b_ 1, c_ 1959, l_ 122, b_ 0, c_ 31] (bF (nF c5)) ?_
          by_cases c6 : (x3.length + x5.1.length) * 40 ≤ 70368744177664
          · rw [if_pos c6] at h
            refine .reg' [2, 6, 20, 21, 22] [.no, .no, .w (.rf 1024 0 ((x3 ++ x5.1).length) 5 ((x3 ++ x5.1).length * 5)) ((x3 ++ x5.1).flatMap e22)] ⟨[(2, (.pt 256 0 2)), (6, (.rf 1024 0 ((x3 ++ x5.1).length) 5 ((x3 ++ x5.1).length * 5))), (20, (.sl true a1.length 2 (a1.flatMap (e66 true)))), (21, (I (a1.length : Int))), (22, (I x4))], [(256, [(I a0.f0), (.sl true a0.f1.length 4 (a0.f1.flatMap e95))]), (1024, ((x3 ++ x5.1).flatMap e22)), (1795, [(S (at_ a1 x4).f0), (.sl true (at_ a1 x4).f1.length 3 ((at_ a1 x4).f1.flatMap e89))]), (1002051, (x5.1.flatMap e22))], [V.rf 1024 0 (x3.length + x5.1.length) 5 (x3.length * 5 + x5.1.length * 5) = (.rf 1024 0 ((x3 ++ x5.1).length) 5 ((x3 ++ x5.1).length * 5)), x3.flatMap e22 ++ (((x5.1.flatMap e22).drop 0).take (x5.1.length * 5)) = ((x3 ++ x5.1).flatMap e22), (x5.1.length * 5 = (x5.1.flatMap e22).length ∧ 0 + x5.1.length * 5 ≤ (x5.1.flatMap e22).length) ∧ x3.length * 5 = (x3.flatMap e22).length ∧ x3.length * 5 = (x3.flatMap e22).length ∧ (x3.length + x5.1.length) * 40 ≤ 70368744177664], []⟩ [c_ 1959, l_ 122, b_ 0, c_ 31] (alc (apV rfl) (alc (apR e22_ok rfl) (alc (apO e22_ok rfl c6 rfl) aln))) nocal ?_
            refine .reg' [2, 6, 20, 21, 22] [] ⟨[(2, (.pt 256 0 2)), (6, (.rf 1024 0 ((x3 ++ x5.1).length) 5 ((x3 ++ x5.1).length * 5))), (20, (.sl true a1.length 2 (a1.flatMap (e66 true)))), (21, (I (a1.length : Int))), (22, (I (wrap64 (x4 + 1))))], [(256, [(I a0.f0), (.sl true a0.f1.length 4 (a0.f1.flatMap e95))]), (1024, ((x3 ++ x5.1).flatMap e22)), (1795, [(S (at_ a1 x4).f0), (.sl true (at_ a1 x4).f1.length 3 ((at_ a1 x4).f1.flatMap e89))]), (1002051, (x5.1.flatMap e22))], [], []⟩ [l_ 122, b_ 0, c_ 31] aln nocal ?_
            refine .wk' [] [(256, 256), (1024, 1024)] [(2, (.pt 256 0 2)), (6, (.rf 1024 0 ((x3 ++ x5.1).length) 5 ((x3 ++ x5.1).length * 5))), (20, (.sl true a1.length 2 (a1.flatMap (e66 true)))), (21, (I (a1.length : Int))), (22, (I (wrap64 (x4 + 1))))] [(256, [(I a0.f0), (.sl true a0.f1.length 4 (a0.f1.flatMap e95))]), (1024, ((x3 ++ x5.1).flatMap e22))] (shc 256 (a2c (.z .s) (a2c (.z (frz_sl e95_ok (fun h => h))) a2n)) (shc 1024 (rowF e22_ok _) shn)) (enc_ (.pt (memP_mem (p := (256, 256)) rfl)) (enc_ (.rf (memP_mem (p := (1024, 1024)) rfl)) (enc_ (.z (frz_sl (e66_ok true) (fun h => h))) (enc_ (.z .s) (enc_ (.z .s) enn))))) ?_
            exact ih0 a0 a1 (x3 ++ x5.1) (wrap64 (x4 + 1)) _ h
          · rw [if_neg c6] at h
            cases h
        · rw [if_neg c5] at h
          refine .cond' (.tmp 35) true [c_ 250676, c_ 250677, c_ 31335, b_ 1, c_ 1959, l_ 122, b_ 0, c_ 31] (bT (nT (vF c5))) ?_
          refine .reg' [4, 5] [] ⟨[(4, nilS), (5, (B false))], [(256, [(I a0.f0), (.sl true a0.f1.length 4 (a0.f1.flatMap e95))]), (1024, (x3.flatMap e22)), (1795, [(S (at_ a1 x4).f0), (.sl true (at_ a1 x4).f1.length 3 ((at_ a1 x4).f1.flatMap e89))]), (1002051, (x5.1.flatMap e22))], [], []⟩ [c_ 250677, c_ 31335, b_ 1, c_ 1959, l_ 122, b_ 0, c_ 31] aln nocal ?_
          have h := Option.some.inj h
          subst h
          refine .nl' 1025 ?_
          exact .fin' [] [(1025, 1024)] (.tp [nilS, (B false)]) [] aln (shc 1025 (rowF e22_ok _) shn) (cnv_tp (a2c (.nl (memP_mem (p := (1025, 1024)) rfl) rfl) (a2c (.z .s) a2n)))
      · rw [if_neg c4] at h
        cases h
    · rw [if_neg c3] at h
      refine .cond' (.tmp 23) false [c_ 62, c_ 63] (bF (dF c3)) ?_
      refine .reg' [4, 5] [] ⟨[(4, (.rf 1024 0 x3.length 5 (x3.length * 5))), (5, (B true))], [(256, [(I a0.f0), (.sl true a0.f1.length 4 (a0.f1.flatMap e95))]), (1024, (x3.flatMap e22))], [], []⟩ [c_ 63] aln nocal ?_
      have h := Option.some.inj h
      subst h
      exact .fin' [] [(1024, 1024)] (.tp [(.rf 1024 0 x3.length 5 (x3.length * 5)), (B true)]) [] aln (shc 1024 (rowF e22_ok _) shn) (cnv_tp (a2c (.rf (memP_mem (p := (1024, 1024)) rfl)) (a2c (.z .s) a2n)))
end Go.Proofs.Ytebgaiokpncacaa.Fns
