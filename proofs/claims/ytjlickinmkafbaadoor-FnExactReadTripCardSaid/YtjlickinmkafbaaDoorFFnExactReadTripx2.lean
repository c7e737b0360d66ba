/- The functions that the law FnExactReadTrip reaches, by the engine. Printed by a program of this seat. -/
import Derived.Test.YtjlickinmkafbaaDoorE5
import Derived.Test.YtjlickinmkafbaaDoorProg
import Derived.Test.YtjlickinmkafbaaDoorFFnExactReadTripx1
namespace Go.Proofs.YtjlickinmkafbaaDoor.Fns
open Go.Proofs.Tryd Go.Proofs.YtjlickinmkafbaaDoor.Eng Go.RowKit
set_option maxRecDepth 100000
set_option linter.unusedVariables false
set_option linter.unusedSimpArgs false
theorem impl_TripOk.lab : ∀ k, (∀ (a0 : S28) (x3 : Int) (r : Bool), impl_TripOk.l0 k a0 x3 = some r → J prog (.run 24 [] [l_ 58, b_ 0, c_ 15] [(1, (.pt 256 0 2)), (17, (.sl true a0.f1.length 3 (a0.f1.flatMap e48))), (18, (I (a0.f1.length : Int))), (19, (I x3))] [(256, [(S a0.f0), (.sl true a0.f1.length 3 (a0.f1.flatMap e48))])] (B r) []))
 | 0 => (by intro a0 x3 r h; unfold impl_TripOk.l0 at h; cases h)
 | k + 1 => by
  have ih0 := impl_TripOk.lab k
  · intro a0 x3 r h
    unfold impl_TripOk.l0 at h
    refine .loop' [c_ 232, c_ 233, l_ 58, b_ 0, c_ 15] ?_
    refine .reg' [1, 17, 18, 19, 20] [] ⟨[(1, (.pt 256 0 2)), (17, (.sl true a0.f1.length 3 (a0.f1.flatMap e48))), (18, (I (a0.f1.length : Int))), (19, (I x3)), (20, (B (decide (x3 < (a0.f1.length : Int)))))], [(256, [(S a0.f0), (.sl true a0.f1.length 3 (a0.f1.flatMap e48))])], [], []⟩ [c_ 466, c_ 467, l_ 58, b_ 0, c_ 15] aln nocal ?_
    by_cases c3 : x3 < (a0.f1.length : Int)
    · rw [if_pos c3] at h
      refine .cond' (.tmp 20) true [c_ 3736, c_ 3737, b_ 1, c_ 935, l_ 58, b_ 0, c_ 15] (bT (dT c3)) ?_
      by_cases c4 : 0 ≤ x3
      · rw [if_pos c4] at h
        refine .reg' [1, 3, 4, 17, 18, 19] [.no, .no, .v (.ag [(I (at_ a0.f1 x3).f0), (I (at_ a0.f1 x3).f1), (I (at_ a0.f1 x3).f2)])] ⟨[(1, (.pt 256 0 2)), (3, (I x3)), (4, (.pt 1539 0 3)), (17, (.sl true a0.f1.length 3 (a0.f1.flatMap e48))), (18, (I (a0.f1.length : Int))), (19, (I x3))], [(256, [(S a0.f0), (.sl true a0.f1.length 3 (a0.f1.flatMap e48))]), (1539, [(I (at_ a0.f1 x3).f0), (I (at_ a0.f1 x3).f1), (I (at_ a0.f1 x3).f2)])], [(0 : Int) ≤ x3 ∧ x3 < (a0.f1.length : Int), rdC prog 49 ((a0.f1.flatMap e48).drop (x3.toNat * 3)) = (.ag [(I (at_ a0.f1 x3).f0), (I (at_ a0.f1 x3).f1), (I (at_ a0.f1 x3).f2)]), 3 ≤ ((a0.f1.flatMap e48).drop (x3.toNat * 3)).length, 3 = 3 ∧ 0 + 3 ≤ 3], []⟩ [c_ 14948, c_ 14949, c_ 7475, b_ 1, c_ 935, l_ 58, b_ 0, c_ 15] (alc ⟨c4, c3⟩ (alc (ldA e48_ok rfl rfl c4 c3) (alc (okI e48_ok c4 c3 (by decide)) (alc ⟨rfl, by decide⟩ aln)))) nocal ?_
        obtain ⟨x4, hx4, h⟩ := Option.bind_eq_some_iff.mp h
        by_cases c5 : x4 = true
        · rw [if_pos c5] at h
          obtain ⟨x5, hx5, h⟩ := Option.bind_eq_some_iff.mp h
          by_cases c6 : x5 = true
          · rw [if_pos c6] at h
            obtain ⟨x6, hx6, h⟩ := Option.bind_eq_some_iff.mp h
            by_cases c7 : x6 = true
            · rw [if_pos c7] at h
              refine .reg' [1, 3, 4, 17, 18, 19, 46] [.no, .no, .c ⟨41, [(I (at_ a0.f1 x3).f0), (I 0), (I 29)], [], (B x4), [], [], [], [], (B x4), []⟩, .no, .v (B false), .no, .no, .c ⟨55, [(I (at_ a0.f1 x3).f1)], [], (B x5), [], [], [], [], (B x5), []⟩, .no, .no, .v (B false), .no, .no, .c ⟨55, [(I (at_ a0.f1 x3).f2)], [], (B x6), [], [], [], [], (B x6), []⟩, .no, .no, .v (B false)] ⟨[(1, (.pt 256 0 2)), (3, (I x3)), (4, (.pt 1539 0 3)), (17, (.sl true a0.f1.length 3 (a0.f1.flatMap e48))), (18, (I (a0.f1.length : Int))), (19, (I x3)), (46, (B (decide ((at_ a0.f1 x3).f1 > (at_ a0.f1 x3).f2))))], [(256, [(S a0.f0), (.sl true a0.f1.length 3 (a0.f1.flatMap e48))]), (1539, [(I (at_ a0.f1 x3).f0), (I (at_ a0.f1 x3).f1), (I (at_ a0.f1 x3).f2)])], [3 = 3 ∧ 0 + 1 ≤ 3, COK (hget [(256, [(S a0.f0), (.sl true a0.f1.length 3 (a0.f1.flatMap e48))]), (1539, [(I (at_ a0.f1 x3).f0), (I (at_ a0.f1 x3).f1), (I (at_ a0.f1 x3).f2)])]) [(I (at_ a0.f1 x3).f0), (I 0), (I 29)] ⟨41, [(I (at_ a0.f1 x3).f0), (I 0), (I 29)], [], (B x4), [], [], [], [], (B x4), []⟩, (B (!x4) : V) = B false, 3 = 3 ∧ 1 + 1 ≤ 3, COK (hget [(256, [(S a0.f0), (.sl true a0.f1.length 3 (a0.f1.flatMap e48))]), (1539, [(I (at_ a0.f1 x3).f0), (I (at_ a0.f1 x3).f1), (I (at_ a0.f1 x3).f2)])]) [(I (at_ a0.f1 x3).f1)] ⟨55, [(I (at_ a0.f1 x3).f1)], [], (B x5), [], [], [], [], (B x5), []⟩, (B (!x5) : V) = B false, 3 = 3 ∧ 2 + 1 ≤ 3, COK (hget [(256, [(S a0.f0), (.sl true a0.f1.length 3 (a0.f1.flatMap e48))]), (1539, [(I (at_ a0.f1 x3).f0), (I (at_ a0.f1 x3).f1), (I (at_ a0.f1 x3).f2)])]) [(I (at_ a0.f1 x3).f2)] ⟨55, [(I (at_ a0.f1 x3).f2)], [], (B x6), [], [], [], [], (B x6), []⟩, (B (!x6) : V) = B false, 3 = 3 ∧ 1 + 1 ≤ 3, 3 = 3 ∧ 2 + 1 ≤ 3], [⟨41, [(I (at_ a0.f1 x3).f0), (I 0), (I 29)], [], (B x4), [], [], [], [], (B x4), []⟩, ⟨55, [(I (at_ a0.f1 x3).f1)], [], (B x5), [], [], [], [], (B x5), []⟩, ⟨55, [(I (at_ a0.f1 x3).f2)], [], (B x6), [], [], [], [], (B x6), []⟩]⟩ [c_ 14949, c_ 7475, b_ 1, c_ 935, l_ 58, b_ 0, c_ 15] (alc ⟨rfl, by decide⟩ (alc (cok0 false (a2c (.z .s) (a2c (.z .s) (a2c (.z .s) a2n))) (.z .s) (fun h => absurd h (by decide))) (alc (bF (nF c5)) (alc ⟨rfl, by decide⟩ (alc (cok0 false (a2c (.z .s) a2n) (.z .s) (fun h => absurd h (by decide))) (alc (bF (nF c6)) (alc ⟨rfl, by decide⟩ (alc (cok0 false (a2c (.z .s) a2n) (.z .s) (fun h => absurd h (by decide))) (alc (bF (nF c7)) (alc ⟨rfl, by decide⟩ (alc ⟨rfl, by decide⟩ aln))))))))))) (acal (impl_between.J ((at_ a0.f1 x3).f0) 0 29 _ hx4) (acal (impl_isMinute.J ((at_ a0.f1 x3).f1) _ hx5) (acal (impl_isMinute.J ((at_ a0.f1 x3).f2) _ hx6) nocal))) ?_
              by_cases c8 : (at_ a0.f1 x3).f1 > (at_ a0.f1 x3).f2
              · rw [if_pos c8] at h
                refine .cond' (.tmp 46) true [c_ 59796, c_ 59797, c_ 7475, b_ 1, c_ 935, l_ 58, b_ 0, c_ 15] (bT (dT c8)) ?_
                refine .reg' [2] [] ⟨[(2, (B false))], [(256, [(S a0.f0), (.sl true a0.f1.length 3 (a0.f1.flatMap e48))]), (1539, [(I (at_ a0.f1 x3).f0), (I (at_ a0.f1 x3).f1), (I (at_ a0.f1 x3).f2)])], [], []⟩ [c_ 59797, c_ 7475, b_ 1, c_ 935, l_ 58, b_ 0, c_ 15] aln nocal ?_
                have h := Option.some.inj h
                subst h
                exact .fin0 [] (B false) [] aln (.z .s)
              · rw [if_neg c8] at h
                refine .cond' (.tmp 46) false [c_ 14950, c_ 14951, b_ 1, c_ 935, l_ 58, b_ 0, c_ 15] (bF (dF c8)) ?_
                by_cases c9 : x3 > 0
                · rw [if_pos c9] at h
                  by_cases c10 : 0 ≤ (wrap64 (x3 - 1))
                  · rw [if_pos c10] at h
                    by_cases c11 : (wrap64 (x3 - 1)) < (a0.f1.length : Int)
                    · rw [if_pos c11] at h
                      by_cases c12 : (at_ a0.f1 x3).f1 ≤ (at_ a0.f1 (wrap64 (x3 - 1))).f2
                      · rw [if_pos c12] at h
                        refine .reg' [1, 17, 18, 19, 72] [.no, .no, .v (B true), .no, .no, .no, .no, .no, .no, .no, .no, .v (I (at_ a0.f1 (wrap64 (x3 - 1))).f2), .no, .v (B true)] ⟨[(1, (.pt 256 0 2)), (17, (.sl true a0.f1.length 3 (a0.f1.flatMap e48))), (18, (I (a0.f1.length : Int))), (19, (I x3)), (72, (B true))], [(256, [(S a0.f0), (.sl true a0.f1.length 3 (a0.f1.flatMap e48))]), (1539, [(I (at_ a0.f1 x3).f0), (I (at_ a0.f1 x3).f1), (I (at_ a0.f1 x3).f2)])], [(B (decide (x3 > 0)) : V) = B true, 3 = 3 ∧ 1 + 1 ≤ 3, 2 = 2 ∧ 1 + 1 ≤ 2, (0 : Int) ≤ (wrap64 (x3 - 1)) ∧ (wrap64 (x3 - 1)) < (a0.f1.length : Int), rdC prog 3 (((a0.f1.flatMap e48).drop ((wrap64 (x3 - 1)).toNat * 3)).drop 2) = (I (at_ a0.f1 (wrap64 (x3 - 1))).f2), 1 ≤ (((a0.f1.flatMap e48).drop ((wrap64 (x3 - 1)).toNat * 3)).drop 2).length, (B (decide ((at_ a0.f1 x3).f1 ≤ (at_ a0.f1 (wrap64 (x3 - 1))).f2)) : V) = B true], []⟩ [c_ 14951, b_ 1, c_ 935, l_ 58, b_ 0, c_ 15] (alc (bT (dT c9)) (alc ⟨rfl, by decide⟩ (alc ⟨rfl, by decide⟩ (alc ⟨c10, c11⟩ (alc (ldC e48_ok 2 (by decide) rfl c10 c11) (alc (okIj e48_ok c10 c11 (by decide)) (alc (bT (dT c12)) aln))))))) nocal ?_
                        refine .cond' (.tmp 72) true [c_ 59804, c_ 59805, b_ 1, c_ 935, l_ 58, b_ 0, c_ 15] (rfl) ?_
                        refine .reg' [2] [] ⟨[(2, (B false))], [(256, [(S a0.f0), (.sl true a0.f1.length 3 (a0.f1.flatMap e48))]), (1539, [(I (at_ a0.f1 x3).f0), (I (at_ a0.f1 x3).f1), (I (at_ a0.f1 x3).f2)])], [], []⟩ [c_ 59805, b_ 1, c_ 935, l_ 58, b_ 0, c_ 15] aln nocal ?_
                        have h := Option.some.inj h
                        subst h
                        exact .fin0 [] (B false) [] aln (.z .s)
                      · rw [if_neg c12] at h
                        refine .reg' [1, 17, 18, 19, 72] [.no, .no, .v (B true), .no, .no, .no, .no, .no, .no, .no, .no, .v (I (at_ a0.f1 (wrap64 (x3 - 1))).f2), .no, .v (B false), .no, .no, .no, .no, .no, .no, .no, .no, .v (I (at_ a0.f1 (wrap64 (x3 - 1))).f0)] ⟨[(1, (.pt 256 0 2)), (17, (.sl true a0.f1.length 3 (a0.f1.flatMap e48))), (18, (I (a0.f1.length : Int))), (19, (I x3)), (72, (B ((at_ a0.f1 x3).f0 == (at_ a0.f1 (wrap64 (x3 - 1))).f0)))], [(256, [(S a0.f0), (.sl true a0.f1.length 3 (a0.f1.flatMap e48))]), (1539, [(I (at_ a0.f1 x3).f0), (I (at_ a0.f1 x3).f1), (I (at_ a0.f1 x3).f2)])], [(B (decide (x3 > 0)) : V) = B true, 3 = 3 ∧ 1 + 1 ≤ 3, 2 = 2 ∧ 1 + 1 ≤ 2, (0 : Int) ≤ (wrap64 (x3 - 1)) ∧ (wrap64 (x3 - 1)) < (a0.f1.length : Int), rdC prog 3 (((a0.f1.flatMap e48).drop ((wrap64 (x3 - 1)).toNat * 3)).drop 2) = (I (at_ a0.f1 (wrap64 (x3 - 1))).f2), 1 ≤ (((a0.f1.flatMap e48).drop ((wrap64 (x3 - 1)).toNat * 3)).drop 2).length, (B (decide ((at_ a0.f1 x3).f1 ≤ (at_ a0.f1 (wrap64 (x3 - 1))).f2)) : V) = B false, 3 = 3 ∧ 0 + 1 ≤ 3, 2 = 2 ∧ 1 + 1 ≤ 2, (0 : Int) ≤ (wrap64 (x3 - 1)) ∧ (wrap64 (x3 - 1)) < (a0.f1.length : Int), rdC prog 3 (((a0.f1.flatMap e48).drop ((wrap64 (x3 - 1)).toNat * 3)).drop 0) = (I (at_ a0.f1 (wrap64 (x3 - 1))).f0), 1 ≤ (((a0.f1.flatMap e48).drop ((wrap64 (x3 - 1)).toNat * 3)).drop 0).length], []⟩ [c_ 14951, b_ 1, c_ 935, l_ 58, b_ 0, c_ 15] (alc (bT (dT c9)) (alc ⟨rfl, by decide⟩ (alc ⟨rfl, by decide⟩ (alc ⟨c10, c11⟩ (alc (ldC e48_ok 2 (by decide) rfl c10 c11) (alc (okIj e48_ok c10 c11 (by decide)) (alc (bF (dF c12)) (alc ⟨rfl, by decide⟩ (alc ⟨rfl, by decide⟩ (alc ⟨c10, c11⟩ (alc (ldC e48_ok 0 (by decide) rfl c10 c11) (alc (okIj e48_ok c10 c11 (by decide)) aln)))))))))))) nocal ?_
                        by_cases c13 : (at_ a0.f1 x3).f0 = (at_ a0.f1 (wrap64 (x3 - 1))).f0
                        · rw [if_pos c13] at h
                          refine .cond' (.tmp 72) true [c_ 59804, c_ 59805, b_ 1, c_ 935, l_ 58, b_ 0, c_ 15] (bT (qT c13)) ?_
                          refine .reg' [2] [] ⟨[(2, (B false))], [(256, [(S a0.f0), (.sl true a0.f1.length 3 (a0.f1.flatMap e48))]), (1539, [(I (at_ a0.f1 x3).f0), (I (at_ a0.f1 x3).f1), (I (at_ a0.f1 x3).f2)])], [], []⟩ [c_ 59805, b_ 1, c_ 935, l_ 58, b_ 0, c_ 15] aln nocal ?_
                          have h := Option.some.inj h
                          subst h
                          exact .fin0 [] (B false) [] aln (.z .s)
                        · rw [if_neg c13] at h
                          refine .cond' (.tmp 72) false [c_ 935, l_ 58, b_ 0, c_ 15] (bF (qF c13)) ?_
                          refine .reg' [1, 17, 18, 19] [] ⟨[(1, (.pt 256 0 2)), (17, (.sl true a0.f1.length 3 (a0.f1.flatMap e48))), (18, (I (a0.f1.length : Int))), (19, (I (wrap64 (x3 + 1))))], [(256, [(S a0.f0), (.sl true a0.f1.length 3 (a0.f1.flatMap e48))]), (1539, [(I (at_ a0.f1 x3).f0), (I (at_ a0.f1 x3).f1), (I (at_ a0.f1 x3).f2)])], [], []⟩ [l_ 58, b_ 0, c_ 15] aln nocal ?_
                          refine .wk' [] [(256, 256)] [(1, (.pt 256 0 2)), (17, (.sl true a0.f1.length 3 (a0.f1.flatMap e48))), (18, (I (a0.f1.length : Int))), (19, (I (wrap64 (x3 + 1))))] [(256, [(S a0.f0), (.sl true a0.f1.length 3 (a0.f1.flatMap e48))])] (shc 256 (a2c (.z .s) (a2c (.z (frz_sl e48_ok (fun h => h))) a2n)) shn) (enc_ (.pt (memP_mem (p := (256, 256)) rfl)) (enc_ (.z (frz_sl e48_ok (fun h => h))) (enc_ (.z .s) (enc_ (.z .s) enn)))) ?_
                          exact ih0 a0 (wrap64 (x3 + 1)) _ h
                    · rw [if_neg c11] at h
                      cases h
                  · rw [if_neg c10] at h
                    cases h
                · rw [if_neg c9] at h
                  refine .reg' [1, 17, 18, 19, 72] [.no, .no, .v (B false)] ⟨[(1, (.pt 256 0 2)), (17, (.sl true a0.f1.length 3 (a0.f1.flatMap e48))), (18, (I (a0.f1.length : Int))), (19, (I x3)), (72, (B false))], [(256, [(S a0.f0), (.sl true a0.f1.length 3 (a0.f1.flatMap e48))]), (1539, [(I (at_ a0.f1 x3).f0), (I (at_ a0.f1 x3).f1), (I (at_ a0.f1 x3).f2)])], [(B (decide (x3 > 0)) : V) = B false], []⟩ [c_ 14951, b_ 1, c_ 935, l_ 58, b_ 0, c_ 15] (alc (bF (dF c9)) aln) nocal ?_
                  refine .cond' (.tmp 72) false [c_ 935, l_ 58, b_ 0, c_ 15] (rfl) ?_
                  refine .reg' [1, 17, 18, 19] [] ⟨[(1, (.pt 256 0 2)), (17, (.sl true a0.f1.length 3 (a0.f1.flatMap e48))), (18, (I (a0.f1.length : Int))), (19, (I (wrap64 (x3 + 1))))], [(256, [(S a0.f0), (.sl true a0.f1.length 3 (a0.f1.flatMap e48))]), (1539, [(I (at_ a0.f1 x3).f0), (I (at_ a0.f1 x3).f1), (I (at_ a0.f1 x3).f2)])], [], []⟩ [l_ 58, b_ 0, c_ 15] aln nocal ?_
                  refine .wk' [] [(256, 256)] [(1, (.pt 256 0 2)), (17, (.sl true a0.f1.length 3 (a0.f1.flatMap e48))), (18, (I (a0.f1.length : Int))), (19, (I (wrap64 (x3 + 1))))] [(256, [(S a0.f0), (.sl true a0.f1.length 3 (a0.f1.flatMap e48))])] (shc 256 (a2c (.z .s) (a2c (.z (frz_sl e48_ok (fun h => h))) a2n)) shn) (enc_ (.pt (memP_mem (p := (256, 256)) rfl)) (enc_ (.z (frz_sl e48_ok (fun h => h))) (enc_ (.z .s) (enc_ (.z .s) enn)))) ?_
                  exact ih0 a0 (wrap64 (x3 + 1)) _ h
            · rw [if_neg c7] at h
              refine .reg' [1, 3, 4, 17, 18, 19, 46] [.no, .no, .c ⟨41, [(I (at_ a0.f1 x3).f0), (I 0), (I 29)], [], (B x4), [], [], [], [], (B x4), []⟩, .no, .v (B false), .no, .no, .c ⟨55, [(I (at_ a0.f1 x3).f1)], [], (B x5), [], [], [], [], (B x5), []⟩, .no, .no, .v (B false), .no, .no, .c ⟨55, [(I (at_ a0.f1 x3).f2)], [], (B x6), [], [], [], [], (B x6), []⟩, .no, .no, .v (B true)] ⟨[(1, (.pt 256 0 2)), (3, (I x3)), (4, (.pt 1539 0 3)), (17, (.sl true a0.f1.length 3 (a0.f1.flatMap e48))), (18, (I (a0.f1.length : Int))), (19, (I x3)), (46, (B true))], [(256, [(S a0.f0), (.sl true a0.f1.length 3 (a0.f1.flatMap e48))]), (1539, [(I (at_ a0.f1 x3).f0), (I (at_ a0.f1 x3).f1), (I (at_ a0.f1 x3).f2)])], [3 = 3 ∧ 0 + 1 ≤ 3, COK (hget [(256, [(S a0.f0), (.sl true a0.f1.length 3 (a0.f1.flatMap e48))]), (1539, [(I (at_ a0.f1 x3).f0), (I (at_ a0.f1 x3).f1), (I (at_ a0.f1 x3).f2)])]) [(I (at_ a0.f1 x3).f0), (I 0), (I 29)] ⟨41, [(I (at_ a0.f1 x3).f0), (I 0), (I 29)], [], (B x4), [], [], [], [], (B x4), []⟩, (B (!x4) : V) = B false, 3 = 3 ∧ 1 + 1 ≤ 3, COK (hget [(256, [(S a0.f0), (.sl true a0.f1.length 3 (a0.f1.flatMap e48))]), (1539, [(I (at_ a0.f1 x3).f0), (I (at_ a0.f1 x3).f1), (I (at_ a0.f1 x3).f2)])]) [(I (at_ a0.f1 x3).f1)] ⟨55, [(I (at_ a0.f1 x3).f1)], [], (B x5), [], [], [], [], (B x5), []⟩, (B (!x5) : V) = B false, 3 = 3 ∧ 2 + 1 ≤ 3, COK (hget [(256, [(S a0.f0), (.sl true a0.f1.length 3 (a0.f1.flatMap e48))]), (1539, [(I (at_ a0.f1 x3).f0), (I (at_ a0.f1 x3).f1), (I (at_ a0.f1 x3).f2)])]) [(I (at_ a0.f1 x3).f2)] ⟨55, [(I (at_ a0.f1 x3).f2)], [], (B x6), [], [], [], [], (B x6), []⟩, (B (!x6) : V) = B true], [⟨41, [(I (at_ a0.f1 x3).f0), (I 0), (I 29)], [], (B x4), [], [], [], [], (B x4), []⟩, ⟨55, [(I (at_ a0.f1 x3).f1)], [], (B x5), [], [], [], [], (B x5), []⟩, ⟨55, [(I (at_ a0.f1 x3).f2)], [], (B x6), [], [], [], [], (B x6), []⟩]⟩ [c_ 14949, c_ 7475, b_ 1, c_ 935, l_ 58, b_ 0, c_ 15] (alc ⟨rfl, by decide⟩ (alc (cok0 false (a2c (.z .s) (a2c (.z .s) (a2c (.z .s) a2n))) (.z .s) (fun h => absurd h (by decide))) (alc (bF (nF c5)) (alc ⟨rfl, by decide⟩ (alc (cok0 false (a2c (.z .s) a2n) (.z .s) (fun h => absurd h (by decide))) (alc (bF (nF c6)) (alc ⟨rfl, by decide⟩ (alc (cok0 false (a2c (.z .s) a2n) (.z .s) (fun h => absurd h (by decide))) (alc (bT (nT (vF c7))) aln))))))))) (acal (impl_between.J ((at_ a0.f1 x3).f0) 0 29 _ hx4) (acal (impl_isMinute.J ((at_ a0.f1 x3).f1) _ hx5) (acal (impl_isMinute.J ((at_ a0.f1 x3).f2) _ hx6) nocal))) ?_
              refine .cond' (.tmp 46) true [c_ 59796, c_ 59797, c_ 7475, b_ 1, c_ 935, l_ 58, b_ 0, c_ 15] (rfl) ?_
              refine .reg' [2] [] ⟨[(2, (B false))], [(256, [(S a0.f0), (.sl true a0.f1.length 3 (a0.f1.flatMap e48))]), (1539, [(I (at_ a0.f1 x3).f0), (I (at_ a0.f1 x3).f1), (I (at_ a0.f1 x3).f2)])], [], []⟩ [c_ 59797, c_ 7475, b_ 1, c_ 935, l_ 58, b_ 0, c_ 15] aln nocal ?_
              have h := Option.some.inj h
              subst h
              exact .fin0 [] (B false) [] aln (.z .s)
          · rw [if_neg c6] at h
            refine .reg' [1, 3, 4, 17, 18, 19, 46] [.no, .no, .c ⟨41, [(I (at_ a0.f1 x3).f0), (I 0), (I 29)], [], (B x4), [], [], [], [], (B x4), []⟩, .no, .v (B false), .no, .no, .c ⟨55, [(I (at_ a0.f1 x3).f1)], [], (B x5), [], [], [], [], (B x5), []⟩, .no, .no, .v (B true)] ⟨[(1, (.pt 256 0 2)), (3, (I x3)), (4, (.pt 1539 0 3)), (17, (.sl true a0.f1.length 3 (a0.f1.flatMap e48))), (18, (I (a0.f1.length : Int))), (19, (I x3)), (46, (B true))], [(256, [(S a0.f0), (.sl true a0.f1.length 3 (a0.f1.flatMap e48))]), (1539, [(I (at_ a0.f1 x3).f0), (I (at_ a0.f1 x3).f1), (I (at_ a0.f1 x3).f2)])], [3 = 3 ∧ 0 + 1 ≤ 3, COK (hget [(256, [(S a0.f0), (.sl true a0.f1.length 3 (a0.f1.flatMap e48))]), (1539, [(I (at_ a0.f1 x3).f0), (I (at_ a0.f1 x3).f1), (I (at_ a0.f1 x3).f2)])]) [(I (at_ a0.f1 x3).f0), (I 0), (I 29)] ⟨41, [(I (at_ a0.f1 x3).f0), (I 0), (I 29)], [], (B x4), [], [], [], [], (B x4), []⟩, (B (!x4) : V) = B false, 3 = 3 ∧ 1 + 1 ≤ 3, COK (hget [(256, [(S a0.f0), (.sl true a0.f1.length 3 (a0.f1.flatMap e48))]), (1539, [(I (at_ a0.f1 x3).f0), (I (at_ a0.f1 x3).f1), (I (at_ a0.f1 x3).f2)])]) [(I (at_ a0.f1 x3).f1)] ⟨55, [(I (at_ a0.f1 x3).f1)], [], (B x5), [], [], [], [], (B x5), []⟩, (B (!x5) : V) = B true], [⟨41, [(I (at_ a0.f1 x3).f0), (I 0), (I 29)], [], (B x4), [], [], [], [], (B x4), []⟩, ⟨55, [(I (at_ a0.f1 x3).f1)], [], (B x5), [], [], [], [], (B x5), []⟩]⟩ [c_ 14949, c_ 7475, b_ 1, c_ 935, l_ 58, b_ 0, c_ 15] (alc ⟨rfl, by decide⟩ (alc (cok0 false (a2c (.z .s) (a2c (.z .s) (a2c (.z .s) a2n))) (.z .s) (fun h => absurd h (by decide))) (alc (bF (nF c5)) (alc ⟨rfl, by decide⟩ (alc (cok0 false (a2c (.z .s) a2n) (.z .s) (fun h => absurd h (by decide))) (alc (bT (nT (vF c6))) aln)))))) (acal (impl_between.J ((at_ a0.f1 x3).f0) 0 29 _ hx4) (acal (impl_isMinute.J ((at_ a0.f1 x3).f1) _ hx5) nocal)) ?_
            refine .cond' (.tmp 46) true [c_ 59796, c_ 59797, c_ 7475, b_ 1, c_ 935, l_ 58, b_ 0, c_ 15] (rfl) ?_
            refine .reg' [2] [] ⟨[(2, (B false))], [(256, [(S a0.f0), (.sl true a0.f1.length 3 (a0.f1.flatMap e48))]), (1539, [(I (at_ a0.f1 x3).f0), (I (at_ a0.f1 x3).f1), (I (at_ a0.f1 x3).f2)])], [], []⟩ [c_ 59797, c_ 7475, b_ 1, c_ 935, l_ 58, b_ 0, c_ 15] aln nocal ?_
            have h := Option.some.inj h
            subst h
            exact .fin0 [] (B false) [] aln (.z .s)
        · rw [if_neg c5] at h
          refine .reg' [1, 3, 4, 17, 18, 19, 46] [.no, .no, .c ⟨41, [(I (at_ a0.f1 x3).f0), (I 0), (I 29)], [], (B x4), [], [], [], [], (B x4), []⟩, .no, .v (B true)] ⟨[(1, (.pt 256 0 2)), (3, (I x3)), (4, (.pt 1539 0 3)), (17, (.sl true a0.f1.length 3 (a0.f1.flatMap e48))), (18, (I (a0.f1.length : Int))), (19, (I x3)), (46, (B true))], [(256, [(S a0.f0), (.sl true a0.f1.length 3 (a0.f1.flatMap e48))]), (1539, [(I (at_ a0.f1 x3).f0), (I (at_ a0.f1 x3).f1), (I (at_ a0.f1 x3).f2)])], [3 = 3 ∧ 0 + 1 ≤ 3, COK (hget [(256, [(S a0.f0), (.sl true a0.f1.length 3 (a0.f1.flatMap e48))]), (1539, [(I (at_ a0.f1 x3).f0), (I (at_ a0.f1 x3).f1), (I (at_ a0.f1 x3).f2)])]) [(I (at_ a0.f1 x3).f0), (I 0), (I 29)] ⟨41, [(I (at_ a0.f1 x3).f0), (I 0), (I 29)], [], (B x4), [], [], [], [], (B x4), []⟩, (B (!x4) : V) = B true], [⟨41, [(I (at_ a0.f1 x3).f0), (I 0), (I 29)], [], (B x4), [], [], [], [], (B x4), []⟩]⟩ [c_ 14949, c_ 7475, b_ 1, c_ 935, l_ 58, b_ 0, c_ 15] (alc ⟨rfl, by decide⟩ (alc (cok0 false (a2c (.z .s) (a2c (.z .s) (a2c (.z .s) a2n))) (.z .s) (fun h => absurd h (by decide))) (alc (bT (nT (vF c5))) aln))) (acal (impl_between.J ((at_ a0.f1 x3).f0) 0 29 _ hx4) nocal) ?_
          refine .cond' (.tmp 46) true [c_ 59796, c_ 59797, c_ 7475, b_ 1, c_ 935, l_ 58, b_ 0, c_ 15] (rfl) ?_
          refine .reg' [2] [] ⟨[(2, (B false))], [(256, [(S a0.f0), (.sl true a0.f1.length 3 (a0.f1.flatMap e48))]), (1539, [(I (at_ a0.f1 x3).f0), (I (at_ a0.f1 x3).f1), (I (at_ a0.f1 x3).f2)])], [], []⟩ [c_ 59797, c_ 7475, b_ 1, c_ 935, l_ 58, b_ 0, c_ 15] aln nocal ?_
          have h := Option.some.inj h
          subst h
          exact .fin0 [] (B false) [] aln (.z .s)
      · rw [if_neg c4] at h
        cases h
    · rw [if_neg c3] at h
      refine .cond' (.tmp 20) false [c_ 30, c_ 31] (bF (dF c3)) ?_
      refine .reg' [2] [] ⟨[(2, (B true))], [(256, [(S a0.f0), (.sl true a0.f1.length 3 (a0.f1.flatMap e48))])], [], []⟩ [c_ 31] aln nocal ?_
      have h := Option.some.inj h
      subst h
      exact .fin0 [] (B true) [] aln (.z .s)
theorem impl_TripOk.J (k : Nat) (a0 : S28) (r : Bool) (h : impl_TripOk.f k a0 = some r) : J prog (.call 24 [(.ag [(S a0.f0), (.sl true a0.f1.length 3 (a0.f1.flatMap e48))])] [] (B r) []) := by
  unfold impl_TripOk.f at h
  have ih0 := impl_TripOk.lab k
  refine .call' [c_ 2, c_ 3] ?_
  refine .reg' [1] [] ⟨[(1, (.pt 256 0 2))], [(256, [(S a0.f0), (.sl true a0.f1.length 3 (a0.f1.flatMap e48))])], [], []⟩ [c_ 12, c_ 13, c_ 7] aln nocal ?_
  obtain ⟨x1, hx1, h⟩ := Option.bind_eq_some_iff.mp h
  by_cases c1 : x1 = true
  · rw [if_pos c1] at h
    obtain ⟨x2, hx2, h⟩ := Option.bind_eq_some_iff.mp h
    refine .reg' [1, 15] [.no, .no, .c ⟨54, [(S a0.f0)], [], (B x1), [], [], [], [], (B x1), []⟩, .no, .v (B false), .no, .no, .no, .c ⟨41, [(I (a0.f1.length : Int)), (I 2), (I 12)], [], (B x2), [], [], [], [], (B x2), []⟩] ⟨[(1, (.pt 256 0 2)), (15, (B (!x2)))], [(256, [(S a0.f0), (.sl true a0.f1.length 3 (a0.f1.flatMap e48))])], [2 = 2 ∧ 0 + 1 ≤ 2, COK (hget [(256, [(S a0.f0), (.sl true a0.f1.length 3 (a0.f1.flatMap e48))])]) [(S a0.f0)] ⟨54, [(S a0.f0)], [], (B x1), [], [], [], [], (B x1), []⟩, (B (!x1) : V) = B false, 2 = 2 ∧ 1 + 1 ≤ 2, COK (hget [(256, [(S a0.f0), (.sl true a0.f1.length 3 (a0.f1.flatMap e48))])]) [(I (a0.f1.length : Int)), (I 2), (I 12)] ⟨41, [(I (a0.f1.length : Int)), (I 2), (I 12)], [], (B x2), [], [], [], [], (B x2), []⟩], [⟨54, [(S a0.f0)], [], (B x1), [], [], [], [], (B x1), []⟩, ⟨41, [(I (a0.f1.length : Int)), (I 2), (I 12)], [], (B x2), [], [], [], [], (B x2), []⟩]⟩ [c_ 13, c_ 7] (alc ⟨rfl, by decide⟩ (alc (cok0 false (a2c (.z .s) a2n) (.z .s) (fun h => absurd h (by decide))) (alc (bF (nF c1)) (alc ⟨rfl, by decide⟩ (alc (cok0 false (a2c (.z .s) (a2c (.z .s) (a2c (.z .s) a2n))) (.z .s) (fun h => absurd h (by decide))) aln))))) (acal (impl_nameOk.J k a0.f0 _ hx1) (acal (impl_between.J (a0.f1.length : Int) 2 12 _ hx2) nocal)) ?_
    by_cases c2 : x2 = true
    · rw [if_pos c2] at h
      refine .cond' (.tmp 15) false [c_ 28, c_ 29, c_ 15] (bF (nF c2)) ?_
      refine .reg' [1, 17, 18, 19] [] ⟨[(1, (.pt 256 0 2)), (17, (.sl true a0.f1.length 3 (a0.f1.flatMap e48))), (18, (I (a0.f1.length : Int))), (19, (I 0))], [(256, [(S a0.f0), (.sl true a0.f1.length 3 (a0.f1.flatMap e48))])], [2 = 2 ∧ 1 + 1 ≤ 2], []⟩ [l_ 58, b_ 0, c_ 15] (alc ⟨rfl, by decide⟩ aln) nocal ?_
      exact ih0 a0 0 _ h
    · rw [if_neg c2] at h
      refine .cond' (.tmp 15) true [c_ 52, c_ 53, c_ 7] (bT (nT (vF c2))) ?_
      refine .reg' [2] [] ⟨[(2, (B false))], [(256, [(S a0.f0), (.sl true a0.f1.length 3 (a0.f1.flatMap e48))])], [], []⟩ [c_ 53, c_ 7] aln nocal ?_
      have h := Option.some.inj h
      subst h
      exact .fin0 [] (B false) [] aln (.z .s)
  · rw [if_neg c1] at h
    refine .reg' [1, 15] [.no, .no, .c ⟨54, [(S a0.f0)], [], (B x1), [], [], [], [], (B x1), []⟩, .no, .v (B true)] ⟨[(1, (.pt 256 0 2)), (15, (B true))], [(256, [(S a0.f0), (.sl true a0.f1.length 3 (a0.f1.flatMap e48))])], [2 = 2 ∧ 0 + 1 ≤ 2, COK (hget [(256, [(S a0.f0), (.sl true a0.f1.length 3 (a0.f1.flatMap e48))])]) [(S a0.f0)] ⟨54, [(S a0.f0)], [], (B x1), [], [], [], [], (B x1), []⟩, (B (!x1) : V) = B true], [⟨54, [(S a0.f0)], [], (B x1), [], [], [], [], (B x1), []⟩]⟩ [c_ 13, c_ 7] (alc ⟨rfl, by decide⟩ (alc (cok0 false (a2c (.z .s) a2n) (.z .s) (fun h => absurd h (by decide))) (alc (bT (nT (vF c1))) aln))) (acal (impl_nameOk.J k a0.f0 _ hx1) nocal) ?_
    refine .cond' (.tmp 15) true [c_ 52, c_ 53, c_ 7] (rfl) ?_
    refine .reg' [2] [] ⟨[(2, (B false))], [(256, [(S a0.f0), (.sl true a0.f1.length 3 (a0.f1.flatMap e48))])], [], []⟩ [c_ 53, c_ 7] aln nocal ?_
    have h := Option.some.inj h
    subst h
    exact .fin0 [] (B false) [] aln (.z .s)
/-! impl_TripText: function 11 -/
def impl_TripText.l0 : Nat → S28 → ByteArray → Int → Option ByteArray
 | 0, _, _, _ => none
 | k + 1, a0, x2, x3 => (if x3 < (a0.f1.length : Int) then (if 0 ≤ x3 then ((strconv_Itoa.f ((at_ a0.f1 x3).f0)).bind fun x4 => (if (⟨#[32]⟩ : ByteArray).size + x4.size ≤ 9223372036854775807 then (if ((⟨#[32]⟩ : ByteArray) ++ x4).size + (⟨#[64]⟩ : ByteArray).size ≤ 9223372036854775807 then ((impl_TimeText.f ((at_ a0.f1 x3).f1)).bind fun x5 => (if (((⟨#[32]⟩ : ByteArray) ++ x4) ++ (⟨#[64]⟩ : ByteArray)).size + x5.size ≤ 9223372036854775807 then (if ((((⟨#[32]⟩ : ByteArray) ++ x4) ++ (⟨#[64]⟩ : ByteArray)) ++ x5).size + (⟨#[45]⟩ : ByteArray).size ≤ 9223372036854775807 then ((impl_TimeText.f ((at_ a0.f1 x3).f2)).bind fun x6 => (if (((((⟨#[32]⟩ : ByteArray) ++ x4) ++ (⟨#[64]⟩ : ByteArray)) ++ x5) ++ (⟨#[45]⟩ : ByteArray)).size + x6.size ≤ 9223372036854775807 then (if x2.size + ((((((⟨#[32]⟩ : ByteArray) ++ x4) ++ (⟨#[64]⟩ : ByteArray)) ++ x5) ++ (⟨#[45]⟩ : ByteArray)) ++ x6).size ≤ 9223372036854775807 then (impl_TripText.l0 k a0 (x2 ++ ((((((⟨#[32]⟩ : ByteArray) ++ x4) ++ (⟨#[64]⟩ : ByteArray)) ++ x5) ++ (⟨#[45]⟩ : ByteArray)) ++ x6)) (wrap64 (x3 + 1))) else none) else none)) else none) else none)) else none) else none)) else none) else (some x2))
def impl_TripText.f (k : Nat) (a0 : S28) : Option ByteArray := ((impl_TripOk.f k a0).bind fun x1 => (if x1 = true then (impl_TripText.l0 k a0 a0.f0 0) else (some (⟨#[]⟩ : ByteArray))))
theorem impl_TripText.lab : ∀ k, (∀ (a0 : S28) (x2 : ByteArray) (x3 : Int) (r : ByteArray), impl_TripText.l0 k a0 x2 x3 = some r → J prog (.run 11 [] [l_ 122, b_ 0, c_ 31] [(3, (S x2)), (12, (.sl true a0.f1.length 3 (a0.f1.flatMap e48))), (13, (I (a0.f1.length : Int))), (14, (I x3))] [] (S r) []))
 | 0 => (by intro a0 x2 x3 r h; unfold impl_TripText.l0 at h; cases h)
 | k + 1 => by
  have ih0 := impl_TripText.lab k
  · intro a0 x2 x3 r h
    unfold impl_TripText.l0 at h
    refine .loop' [c_ 488, c_ 489, l_ 122, b_ 0, c_ 31] ?_
    refine .reg' [3, 12, 13, 14, 15] [] ⟨[(3, (S x2)), (12, (.sl true a0.f1.length 3 (a0.f1.flatMap e48))), (13, (I (a0.f1.length : Int))), (14, (I x3)), (15, (B (decide (x3 < (a0.f1.length : Int)))))], [], [], []⟩ [c_ 978, c_ 979, l_ 122, b_ 0, c_ 31] aln nocal ?_
    by_cases c2 : x3 < (a0.f1.length : Int)
    · rw [if_pos c2] at h
      refine .cond' (.tmp 15) true [c_ 7832, c_ 7833, b_ 1, c_ 1959, l_ 122, b_ 0, c_ 31] (bT (dT c2)) ?_
      by_cases c3 : 0 ≤ x3
      · rw [if_pos c3] at h
        refine .reg' [3, 5, 12, 13, 14] [.no, .v (.ag [(I (at_ a0.f1 x3).f0), (I (at_ a0.f1 x3).f1), (I (at_ a0.f1 x3).f2)])] ⟨[(3, (S x2)), (5, (.pt 1794 0 3)), (12, (.sl true a0.f1.length 3 (a0.f1.flatMap e48))), (13, (I (a0.f1.length : Int))), (14, (I x3))], [(1794, [(I (at_ a0.f1 x3).f0), (I (at_ a0.f1 x3).f1), (I (at_ a0.f1 x3).f2)])], [(0 : Int) ≤ x3 ∧ x3 < (a0.f1.length : Int), rdC prog 49 ((a0.f1.flatMap e48).drop (x3.toNat * 3)) = (.ag [(I (at_ a0.f1 x3).f0), (I (at_ a0.f1 x3).f1), (I (at_ a0.f1 x3).f2)]), 3 ≤ ((a0.f1.flatMap e48).drop (x3.toNat * 3)).length, 3 = 3 ∧ 0 + 3 ≤ 3], []⟩ [c_ 7833, b_ 1, c_ 1959, l_ 122, b_ 0, c_ 31] (alc ⟨c3, c2⟩ (alc (ldA e48_ok rfl rfl c3 c2) (alc (okI e48_ok c3 c2 (by decide)) (alc ⟨rfl, by decide⟩ aln)))) nocal ?_
        obtain ⟨x4, hx4, h⟩ := Option.bind_eq_some_iff.mp h
        by_cases c4 : (⟨#[32]⟩ : ByteArray).size + x4.size ≤ 9223372036854775807
        · rw [if_pos c4] at h
          by_cases c5 : ((⟨#[32]⟩ : ByteArray) ++ x4).size + (⟨#[64]⟩ : ByteArray).size ≤ 9223372036854775807
          · rw [if_pos c5] at h
            obtain ⟨x5, hx5, h⟩ := Option.bind_eq_some_iff.mp h
            by_cases c6 : (((⟨#[32]⟩ : ByteArray) ++ x4) ++ (⟨#[64]⟩ : ByteArray)).size + x5.size ≤ 9223372036854775807
            · rw [if_pos c6] at h
              by_cases c7 : ((((⟨#[32]⟩ : ByteArray) ++ x4) ++ (⟨#[64]⟩ : ByteArray)) ++ x5).size + (⟨#[45]⟩ : ByteArray).size ≤ 9223372036854775807
              · rw [if_pos c7] at h
                obtain ⟨x6, hx6, h⟩ := Option.bind_eq_some_iff.mp h
                by_cases c8 : (((((⟨#[32]⟩ : ByteArray) ++ x4) ++ (⟨#[64]⟩ : ByteArray)) ++ x5) ++ (⟨#[45]⟩ : ByteArray)).size + x6.size ≤ 9223372036854775807
                · rw [if_pos c8] at h
                  by_cases c9 : x2.size + ((((((⟨#[32]⟩ : ByteArray) ++ x4) ++ (⟨#[64]⟩ : ByteArray)) ++ x5) ++ (⟨#[45]⟩ : ByteArray)) ++ x6).size ≤ 9223372036854775807
                  · rw [if_pos c9] at h
                    refine .reg' [3, 12, 13, 14] [.no, .no, .no, .c ⟨35, [(I (at_ a0.f1 x3).f0)], [], (S x4), [], [], [], [], (S x4), []⟩, .no, .no, .no, .no, .c ⟨36, [(I (at_ a0.f1 x3).f1)], [], (S x5), [], [], [], [], (S x5), []⟩, .no, .no, .no, .no, .c ⟨36, [(I (at_ a0.f1 x3).f2)], [], (S x6), [], [], [], [], (S x6), []⟩] ⟨[(3, (S (x2 ++ ((((((⟨#[32]⟩ : ByteArray) ++ x4) ++ (⟨#[64]⟩ : ByteArray)) ++ x5) ++ (⟨#[45]⟩ : ByteArray)) ++ x6)))), (12, (.sl true a0.f1.length 3 (a0.f1.flatMap e48))), (13, (I (a0.f1.length : Int))), (14, (I x3))], [(1794, [(I (at_ a0.f1 x3).f0), (I (at_ a0.f1 x3).f1), (I (at_ a0.f1 x3).f2)])], [3 = 3 ∧ 0 + 1 ≤ 3, COK (hget [(1794, [(I (at_ a0.f1 x3).f0), (I (at_ a0.f1 x3).f1), (I (at_ a0.f1 x3).f2)])]) [(I (at_ a0.f1 x3).f0)] ⟨35, [(I (at_ a0.f1 x3).f0)], [], (S x4), [], [], [], [], (S x4), []⟩, (⟨#[32]⟩ : ByteArray).size + x4.size ≤ 9223372036854775807, ((⟨#[32]⟩ : ByteArray) ++ x4).size + (⟨#[64]⟩ : ByteArray).size ≤ 9223372036854775807, 3 = 3 ∧ 1 + 1 ≤ 3, COK (hget [(1794, [(I (at_ a0.f1 x3).f0), (I (at_ a0.f1 x3).f1), (I (at_ a0.f1 x3).f2)])]) [(I (at_ a0.f1 x3).f1)] ⟨36, [(I (at_ a0.f1 x3).f1)], [], (S x5), [], [], [], [], (S x5), []⟩, (((⟨#[32]⟩ : ByteArray) ++ x4) ++ (⟨#[64]⟩ : ByteArray)).size + x5.size ≤ 9223372036854775807, ((((⟨#[32]⟩ : ByteArray) ++ x4) ++ (⟨#[64]⟩ : ByteArray)) ++ x5).size + (⟨#[45]⟩ : ByteArray).size ≤ 9223372036854775807, 3 = 3 ∧ 2 + 1 ≤ 3, COK (hget [(1794, [(I (at_ a0.f1 x3).f0), (I (at_ a0.f1 x3).f1), (I (at_ a0.f1 x3).f2)])]) [(I (at_ a0.f1 x3).f2)] ⟨36, [(I (at_ a0.f1 x3).f2)], [], (S x6), [], [], [], [], (S x6), []⟩, (((((⟨#[32]⟩ : ByteArray) ++ x4) ++ (⟨#[64]⟩ : ByteArray)) ++ x5) ++ (⟨#[45]⟩ : ByteArray)).size + x6.size ≤ 9223372036854775807, x2.size + ((((((⟨#[32]⟩ : ByteArray) ++ x4) ++ (⟨#[64]⟩ : ByteArray)) ++ x5) ++ (⟨#[45]⟩ : ByteArray)) ++ x6).size ≤ 9223372036854775807], [⟨35, [(I (at_ a0.f1 x3).f0)], [], (S x4), [], [], [], [], (S x4), []⟩, ⟨36, [(I (at_ a0.f1 x3).f1)], [], (S x5), [], [], [], [], (S x5), []⟩, ⟨36, [(I (at_ a0.f1 x3).f2)], [], (S x6), [], [], [], [], (S x6), []⟩]⟩ [c_ 1959, l_ 122, b_ 0, c_ 31] (alc ⟨rfl, by decide⟩ (alc (cok0 false (a2c (.z .s) a2n) (.z .s) (fun h => absurd h (by decide))) (alc c4 (alc c5 (alc ⟨rfl, by decide⟩ (alc (cok0 false (a2c (.z .s) a2n) (.z .s) (fun h => absurd h (by decide))) (alc c6 (alc c7 (alc ⟨rfl, by decide⟩ (alc (cok0 false (a2c (.z .s) a2n) (.z .s) (fun h => absurd h (by decide))) (alc c8 (alc c9 aln)))))))))))) (acal (strconv_Itoa.J ((at_ a0.f1 x3).f0) _ hx4) (acal (impl_TimeText.J ((at_ a0.f1 x3).f1) _ hx5) (acal (impl_TimeText.J ((at_ a0.f1 x3).f2) _ hx6) nocal))) ?_
                    refine .reg' [3, 12, 13, 14] [] ⟨[(3, (S (x2 ++ ((((((⟨#[32]⟩ : ByteArray) ++ x4) ++ (⟨#[64]⟩ : ByteArray)) ++ x5) ++ (⟨#[45]⟩ : ByteArray)) ++ x6)))), (12, (.sl true a0.f1.length 3 (a0.f1.flatMap e48))), (13, (I (a0.f1.length : Int))), (14, (I (wrap64 (x3 + 1))))], [(1794, [(I (at_ a0.f1 x3).f0), (I (at_ a0.f1 x3).f1), (I (at_ a0.f1 x3).f2)])], [], []⟩ [l_ 122, b_ 0, c_ 31] aln nocal ?_
                    refine .wk' [] [] [(3, (S (x2 ++ ((((((⟨#[32]⟩ : ByteArray) ++ x4) ++ (⟨#[64]⟩ : ByteArray)) ++ x5) ++ (⟨#[45]⟩ : ByteArray)) ++ x6)))), (12, (.sl true a0.f1.length 3 (a0.f1.flatMap e48))), (13, (I (a0.f1.length : Int))), (14, (I (wrap64 (x3 + 1))))] [] shn (enc_ (.z .s) (enc_ (.z (frz_sl e48_ok (fun h => h))) (enc_ (.z .s) (enc_ (.z .s) enn)))) ?_
                    exact ih0 a0 (x2 ++ ((((((⟨#[32]⟩ : ByteArray) ++ x4) ++ (⟨#[64]⟩ : ByteArray)) ++ x5) ++ (⟨#[45]⟩ : ByteArray)) ++ x6)) (wrap64 (x3 + 1)) _ h
                  · rw [if_neg c9] at h
                    cases h
                · rw [if_neg c8] at h
                  cases h
              · rw [if_neg c7] at h
                cases h
            · rw [if_neg c6] at h
              cases h
          · rw [if_neg c5] at h
            cases h
        · rw [if_neg c4] at h
          cases h
      · rw [if_neg c3] at h
        cases h
    · rw [if_neg c2] at h
      refine .cond' (.tmp 15) false [c_ 62, c_ 63] (bF (dF c2)) ?_
      refine .reg' [2] [] ⟨[(2, (S x2))], [], [], []⟩ [c_ 63] aln nocal ?_
      have h := Option.some.inj h
      subst h
      exact .fin0 [] (S x2) [] aln (.z .s)
theorem impl_TripText.J (k : Nat) (a0 : S28) (r : ByteArray) (h : impl_TripText.f k a0 = some r) : J prog (.call 11 [(.ag [(S a0.f0), (.sl true a0.f1.length 3 (a0.f1.flatMap e48))])] [] (S r) []) := by
  unfold impl_TripText.f at h
  have ih0 := impl_TripText.lab k
  refine .call' [c_ 2, c_ 3] ?_
  refine .reg' [1] [] ⟨[(1, (.pt 256 0 2))], [(256, [(S a0.f0), (.sl true a0.f1.length 3 (a0.f1.flatMap e48))])], [], []⟩ [c_ 12, c_ 13, c_ 7] aln nocal ?_
  obtain ⟨x1, hx1, h⟩ := Option.bind_eq_some_iff.mp h
  refine .reg' [1, 8] [.no, .c ⟨24, [(.ag [(S a0.f0), (.sl true a0.f1.length 3 (a0.f1.flatMap e48))])], [], (B x1), [], [], [], [], (B x1), []⟩] ⟨[(1, (.pt 256 0 2)), (8, (B (!x1)))], [(256, [(S a0.f0), (.sl true a0.f1.length 3 (a0.f1.flatMap e48))])], [2 = 2 ∧ 0 + 2 ≤ 2, COK (hget [(256, [(S a0.f0), (.sl true a0.f1.length 3 (a0.f1.flatMap e48))])]) [(.ag [(S a0.f0), (.sl true a0.f1.length 3 (a0.f1.flatMap e48))])] ⟨24, [(.ag [(S a0.f0), (.sl true a0.f1.length 3 (a0.f1.flatMap e48))])], [], (B x1), [], [], [], [], (B x1), []⟩], [⟨24, [(.ag [(S a0.f0), (.sl true a0.f1.length 3 (a0.f1.flatMap e48))])], [], (B x1), [], [], [], [], (B x1), []⟩]⟩ [c_ 13, c_ 7] (alc ⟨rfl, by decide⟩ (alc (cok0 false (a2c (.z (frz_ag (a2c .s (a2c (frz_sl e48_ok (fun h => h)) a2n)))) a2n) (.z .s) (fun h => absurd h (by decide))) aln)) (acal (impl_TripOk.J k a0 _ hx1) nocal) ?_
  by_cases c1 : x1 = true
  · rw [if_pos c1] at h
    refine .cond' (.tmp 8) false [c_ 14, c_ 15] (bF (nF c1)) ?_
    refine .reg' [1, 3] [] ⟨[(1, (.pt 256 0 2)), (3, (S a0.f0))], [(256, [(S a0.f0), (.sl true a0.f1.length 3 (a0.f1.flatMap e48))])], [2 = 2 ∧ 0 + 1 ≤ 2], []⟩ [c_ 60, c_ 61, c_ 31] (alc ⟨rfl, by decide⟩ aln) nocal ?_
    refine .reg' [3, 12, 13, 14] [] ⟨[(3, (S a0.f0)), (12, (.sl true a0.f1.length 3 (a0.f1.flatMap e48))), (13, (I (a0.f1.length : Int))), (14, (I 0))], [(256, [(S a0.f0), (.sl true a0.f1.length 3 (a0.f1.flatMap e48))])], [2 = 2 ∧ 1 + 1 ≤ 2], []⟩ [l_ 122, b_ 0, c_ 31] (alc ⟨rfl, by decide⟩ aln) nocal ?_
    refine .wk' [] [] [(3, (S a0.f0)), (12, (.sl true a0.f1.length 3 (a0.f1.flatMap e48))), (13, (I (a0.f1.length : Int))), (14, (I 0))] [] shn (enc_ (.z .s) (enc_ (.z (frz_sl e48_ok (fun h => h))) (enc_ (.z .s) (enc_ (.z .s) enn)))) ?_
    exact ih0 a0 a0.f0 0 _ h
  · rw [if_neg c1] at h
    refine .cond' (.tmp 8) true [c_ 52, c_ 53, c_ 7] (bT (nT (vF c1))) ?_
    refine .reg' [2] [] ⟨[(2, (S (⟨#[]⟩ : ByteArray)))], [(256, [(S a0.f0), (.sl true a0.f1.length 3 (a0.f1.flatMap e48))])], [], []⟩ [c_ 53, c_ 7] aln nocal ?_
    have h := Option.some.inj h
    subst h
    exact .fin0 [] (S (⟨#[]⟩ : ByteArray)) [] aln (.z .s)
/-! impl_ReadTrip: function 20 -/
def impl_ReadTrip.l0 : Nat → ByteArray → (List ByteArray) → (List S48) → Int → Option (S28 × Bool)
 | 0, _, _, _, _ => none
 | k + 1, a0, x1, x2, x3 => (if x3 < (((x1.drop (1 : Int).toNat).take ((x1.length : Int).toNat - (1 : Int).toNat)).length : Int) then (if 0 ≤ x3 then ((strings_Cut.f (at_ ((x1.drop (1 : Int).toNat).take ((x1.length : Int).toNat - (1 : Int).toNat)) x3) (⟨#[64]⟩ : ByteArray)).bind fun x4 => ((strings_Cut.f x4.2.1 (⟨#[45]⟩ : ByteArray)).bind fun x5 => ((impl_digits.f k x4.1 2).bind fun x6 => ((impl_ReadTime.f k x5.1).bind fun x7 => ((impl_ReadTime.f k x5.2.1).bind fun x8 => (if (x2.length + ([(⟨x6, x7, x8⟩ : S48)] : List S48).length) * 24 ≤ 70368744177664 then (impl_ReadTrip.l0 k a0 x1 (x2 ++ ([(⟨x6, x7, x8⟩ : S48)] : List S48)) (wrap64 (x3 + 1))) else none)))))) else none) else ((impl_TripOk.f k (⟨(at_ x1 0), x2⟩ : S28)).bind fun x9 => (if x9 = true then ((impl_TripText.f k (⟨(at_ x1 0), x2⟩ : S28)).bind fun x10 => (if (sEq x10 a0) = true then (some ((⟨(at_ x1 0), x2⟩ : S28), true)) else (some ((⟨ByteArray.empty, ([] : List S48)⟩ : S28), false)))) else (some ((⟨ByteArray.empty, ([] : List S48)⟩ : S28), false)))))
def impl_ReadTrip.f (k : Nat) (a0 : ByteArray) : Option (S28 × Bool) := (if (a0.size : Int) > 300 then (some ((⟨ByteArray.empty, ([] : List S48)⟩ : S28), false)) else ((strings_Split.f a0 (⟨#[32]⟩ : ByteArray)).bind fun x1 => (if 0 < (x1.length : Int) then (if 1 ≤ (x1.length : Int) then (impl_ReadTrip.l0 k a0 x1 ([] : List S48) 0) else none) else none)))
theorem impl_ReadTrip.lab : ∀ k, (∀ (a0 : ByteArray) (x1 : (List ByteArray)) (x2 : (List S48)) (x3 : Int) (r : (S28 × Bool)), impl_ReadTrip.l0 k a0 x1 x2 x3 = some r → J prog (.run 20 [] [l_ 250, b_ 0, c_ 63] [(0, (S a0)), (2, (.pt 256 0 2)), (5, (.pt 1284 0 2)), (25, (.sl false ((x1.drop (1 : Int).toNat).take ((x1.length : Int).toNat - (1 : Int).toNat)).length 1 (((x1.drop (1 : Int).toNat).take ((x1.length : Int).toNat - (1 : Int).toNat)).flatMap encS))), (26, (I (((x1.drop (1 : Int).toNat).take ((x1.length : Int).toNat - (1 : Int).toNat)).length : Int))), (27, (I x3))] [(3020545, (x2.flatMap e48)), (256, [(S ByteArray.empty), nilS]), (1284, [(S (at_ x1 0)), (.rf 3020545 0 x2.length 3 (x2.length * 3))])] (.tp [(.ag [(S r.1.f0), (.rf 3020545 0 r.1.f1.length 3 (r.1.f1.length * 3))]), (B r.2)]) [(3020545, (r.1.f1.flatMap e48))]))
 | 0 => (by intro a0 x1 x2 x3 r h; unfold impl_ReadTrip.l0 at h; cases h)
 | k + 1 => by
  have ih0 := impl_ReadTrip.lab k
  · intro a0 x1 x2 x3 r h
    unfold impl_ReadTrip.l0 at h
    refine .loop' [c_ 1000, c_ 1001, l_ 250, b_ 0, c_ 63] ?_
    refine .reg' [0, 2, 5, 25, 26, 27, 28] [] ⟨[(0, (S a0)), (2, (.pt 256 0 2)), (5, (.pt 1284 0 2)), (25, (.sl false ((x1.drop (1 : Int).toNat).take ((x1.length : Int).toNat - (1 : Int).toNat)).length 1 (((x1.drop (1 : Int).toNat).take ((x1.length : Int).toNat - (1 : Int).toNat)).flatMap encS))), (26, (I (((x1.drop (1 : Int).toNat).take ((x1.length : Int).toNat - (1 : Int).toNat)).length : Int))), (27, (I x3)), (28, (B (decide (x3 < (((x1.drop (1 : Int).toNat).take ((x1.length : Int).toNat - (1 : Int).toNat)).length : Int)))))], [(3020545, (x2.flatMap e48)), (256, [(S ByteArray.empty), nilS]), (1284, [(S (at_ x1 0)), (.rf 3020545 0 x2.length 3 (x2.length * 3))])], [], []⟩ [c_ 2002, c_ 2003, l_ 250, b_ 0, c_ 63] aln nocal ?_
    by_cases c4 : x3 < (((x1.drop (1 : Int).toNat).take ((x1.length : Int).toNat - (1 : Int).toNat)).length : Int)
    · rw [if_pos c4] at h
      refine .cond' (.tmp 28) true [c_ 16024, c_ 16025, b_ 1, c_ 4007, l_ 250, b_ 0, c_ 63] (bT (dT c4)) ?_
      by_cases c5 : 0 ≤ x3
      · rw [if_pos c5] at h
        refine .reg' [0, 2, 5, 7, 25, 26, 27] [.no, .v (S (at_ ((x1.drop (1 : Int).toNat).take ((x1.length : Int).toNat - (1 : Int).toNat)) x3))] ⟨[(0, (S a0)), (2, (.pt 256 0 2)), (5, (.pt 1284 0 2)), (7, (S (at_ ((x1.drop (1 : Int).toNat).take ((x1.length : Int).toNat - (1 : Int).toNat)) x3))), (25, (.sl false ((x1.drop (1 : Int).toNat).take ((x1.length : Int).toNat - (1 : Int).toNat)).length 1 (((x1.drop (1 : Int).toNat).take ((x1.length : Int).toNat - (1 : Int).toNat)).flatMap encS))), (26, (I (((x1.drop (1 : Int).toNat).take ((x1.length : Int).toNat - (1 : Int).toNat)).length : Int))), (27, (I x3))], [(3020545, (x2.flatMap e48)), (256, [(S ByteArray.empty), nilS]), (1284, [(S (at_ x1 0)), (.rf 3020545 0 x2.length 3 (x2.length * 3))])], [(0 : Int) ≤ x3 ∧ x3 < (((x1.drop (1 : Int).toNat).take ((x1.length : Int).toNat - (1 : Int).toNat)).length : Int), rdC prog 9 ((((x1.drop (1 : Int).toNat).take ((x1.length : Int).toNat - (1 : Int).toNat)).flatMap encS).drop (x3.toNat * 1)) = (S (at_ ((x1.drop (1 : Int).toNat).take ((x1.length : Int).toNat - (1 : Int).toNat)) x3)), 1 ≤ ((((x1.drop (1 : Int).toNat).take ((x1.length : Int).toNat - (1 : Int).toNat)).flatMap encS).drop (x3.toNat * 1)).length], []⟩ [c_ 32050, c_ 32051, b_ 1, c_ 4007, l_ 250, b_ 0, c_ 63] (alc ⟨c5, c4⟩ (alc (ldC1 encS_ok rfl c5 c4) (alc (okI encS_ok c5 c4 (by decide)) aln))) nocal ?_
        obtain ⟨x4, hx4, h⟩ := Option.bind_eq_some_iff.mp h
        refine .reg' [0, 2, 5, 8, 9, 25, 26, 27] [.no, .c ⟨49, [(S (at_ ((x1.drop (1 : Int).toNat).take ((x1.length : Int).toNat - (1 : Int).toNat)) x3)), (S (⟨#[64]⟩ : ByteArray))], [], (.tp [(S x4.1), (S x4.2.1), (B x4.2.2)]), [], [], [], [], (.tp [(S x4.1), (S x4.2.1), (B x4.2.2)]), []⟩] ⟨[(0, (S a0)), (2, (.pt 256 0 2)), (5, (.pt 1284 0 2)), (8, (S x4.1)), (9, (S x4.2.1)), (25, (.sl false ((x1.drop (1 : Int).toNat).take ((x1.length : Int).toNat - (1 : Int).toNat)).length 1 (((x1.drop (1 : Int).toNat).take ((x1.length : Int).toNat - (1 : Int).toNat)).flatMap encS))), (26, (I (((x1.drop (1 : Int).toNat).take ((x1.length : Int).toNat - (1 : Int).toNat)).length : Int))), (27, (I x3))], [(3020545, (x2.flatMap e48)), (256, [(S ByteArray.empty), nilS]), (1284, [(S (at_ x1 0)), (.rf 3020545 0 x2.length 3 (x2.length * 3))])], [COK (hget [(3020545, (x2.flatMap e48)), (256, [(S ByteArray.empty), nilS]), (1284, [(S (at_ x1 0)), (.rf 3020545 0 x2.length 3 (x2.length * 3))])]) [(S (at_ ((x1.drop (1 : Int).toNat).take ((x1.length : Int).toNat - (1 : Int).toNat)) x3)), (S (⟨#[64]⟩ : ByteArray))] ⟨49, [(S (at_ ((x1.drop (1 : Int).toNat).take ((x1.length : Int).toNat - (1 : Int).toNat)) x3)), (S (⟨#[64]⟩ : ByteArray))], [], (.tp [(S x4.1), (S x4.2.1), (B x4.2.2)]), [], [], [], [], (.tp [(S x4.1), (S x4.2.1), (B x4.2.2)]), []⟩], [⟨49, [(S (at_ ((x1.drop (1 : Int).toNat).take ((x1.length : Int).toNat - (1 : Int).toNat)) x3)), (S (⟨#[64]⟩ : ByteArray))], [], (.tp [(S x4.1), (S x4.2.1), (B x4.2.2)]), [], [], [], [], (.tp [(S x4.1), (S x4.2.1), (B x4.2.2)]), []⟩]⟩ [c_ 64102, c_ 64103, b_ 1, c_ 4007, l_ 250, b_ 0, c_ 63] (alc (cok0 false (a2c (.z .s) (a2c (.z .s) a2n)) (bck_tp (a2c (.z .s) (a2c (.z .s) (a2c (.z .s) a2n)))) (fun h => absurd h (by decide))) aln) (acal (strings_Cut.J (at_ ((x1.drop (1 : Int).toNat).take ((x1.length : Int).toNat - (1 : Int).toNat)) x3) (⟨#[64]⟩ : ByteArray) _ hx4) nocal) ?_
        obtain ⟨x5, hx5, h⟩ := Option.bind_eq_some_iff.mp h
        refine .reg' [0, 2, 5, 8, 11, 12, 25, 26, 27] [.no, .c ⟨49, [(S x4.2.1), (S (⟨#[45]⟩ : ByteArray))], [], (.tp [(S x5.1), (S x5.2.1), (B x5.2.2)]), [], [], [], [], (.tp [(S x5.1), (S x5.2.1), (B x5.2.2)]), []⟩] ⟨[(0, (S a0)), (2, (.pt 256 0 2)), (5, (.pt 1284 0 2)), (8, (S x4.1)), (11, (S x5.1)), (12, (S x5.2.1)), (25, (.sl false ((x1.drop (1 : Int).toNat).take ((x1.length : Int).toNat - (1 : Int).toNat)).length 1 (((x1.drop (1 : Int).toNat).take ((x1.length : Int).toNat - (1 : Int).toNat)).flatMap encS))), (26, (I (((x1.drop (1 : Int).toNat).take ((x1.length : Int).toNat - (1 : Int).toNat)).length : Int))), (27, (I x3))], [(3020545, (x2.flatMap e48)), (256, [(S ByteArray.empty), nilS]), (1284, [(S (at_ x1 0)), (.rf 3020545 0 x2.length 3 (x2.length * 3))])], [COK (hget [(3020545, (x2.flatMap e48)), (256, [(S ByteArray.empty), nilS]), (1284, [(S (at_ x1 0)), (.rf 3020545 0 x2.length 3 (x2.length * 3))])]) [(S x4.2.1), (S (⟨#[45]⟩ : ByteArray))] ⟨49, [(S x4.2.1), (S (⟨#[45]⟩ : ByteArray))], [], (.tp [(S x5.1), (S x5.2.1), (B x5.2.2)]), [], [], [], [], (.tp [(S x5.1), (S x5.2.1), (B x5.2.2)]), []⟩], [⟨49, [(S x4.2.1), (S (⟨#[45]⟩ : ByteArray))], [], (.tp [(S x5.1), (S x5.2.1), (B x5.2.2)]), [], [], [], [], (.tp [(S x5.1), (S x5.2.1), (B x5.2.2)]), []⟩]⟩ [c_ 64103, b_ 1, c_ 4007, l_ 250, b_ 0, c_ 63] (alc (cok0 false (a2c (.z .s) (a2c (.z .s) a2n)) (bck_tp (a2c (.z .s) (a2c (.z .s) (a2c (.z .s) a2n)))) (fun h => absurd h (by decide))) aln) (acal (strings_Cut.J x4.2.1 (⟨#[45]⟩ : ByteArray) _ hx5) nocal) ?_
        obtain ⟨x6, hx6, h⟩ := Option.bind_eq_some_iff.mp h
        obtain ⟨x7, hx7, h⟩ := Option.bind_eq_some_iff.mp h
        obtain ⟨x8, hx8, h⟩ := Option.bind_eq_some_iff.mp h
        by_cases c6 : (x2.length + ([(⟨x6, x7, x8⟩ : S48)] : List S48).length) * 24 ≤ 70368744177664
        · rw [if_pos c6] at h
          refine .reg' [0, 2, 5, 25, 26, 27] [.no, .no, .no, .c ⟨50, [(S x4.1), (I 2)], [], (I x6), [], [], [], [], (I x6), []⟩, .no, .c ⟨51, [(S x5.1)], [], (I x7), [], [], [], [], (I x7), []⟩, .no, .c ⟨51, [(S x5.2.1)], [], (I x8), [], [], [], [], (I x8), []⟩, .no, .no, .w (.rf 3020545 0 ((x2 ++ ([(⟨x6, x7, x8⟩ : S48)] : List S48)).length) 3 ((x2 ++ ([(⟨x6, x7, x8⟩ : S48)] : List S48)).length * 3)) ((x2 ++ ([(⟨x6, x7, x8⟩ : S48)] : List S48)).flatMap e48)] ⟨[(0, (S a0)), (2, (.pt 256 0 2)), (5, (.pt 1284 0 2)), (25, (.sl false ((x1.drop (1 : Int).toNat).take ((x1.length : Int).toNat - (1 : Int).toNat)).length 1 (((x1.drop (1 : Int).toNat).take ((x1.length : Int).toNat - (1 : Int).toNat)).flatMap encS))), (26, (I (((x1.drop (1 : Int).toNat).take ((x1.length : Int).toNat - (1 : Int).toNat)).length : Int))), (27, (I x3))], [(3020545, ((x2 ++ ([(⟨x6, x7, x8⟩ : S48)] : List S48)).flatMap e48)), (256, [(S ByteArray.empty), nilS]), (1284, [(S (at_ x1 0)), (.rf 3020545 0 ((x2 ++ ([(⟨x6, x7, x8⟩ : S48)] : List S48)).length) 3 ((x2 ++ ([(⟨x6, x7, x8⟩ : S48)] : List S48)).length * 3))]), (2825, (([(⟨x6, x7, x8⟩ : S48)] : List S48).flatMap e48))], [2 = 2 ∧ 1 + 1 ≤ 2, COK (hget [(3020545, (x2.flatMap e48)), (256, [(S ByteArray.empty), nilS]), (1284, [(S (at_ x1 0)), (.rf 3020545 0 x2.length 3 (x2.length * 3))])]) [(S x4.1), (I 2)] ⟨50, [(S x4.1), (I 2)], [], (I x6), [], [], [], [], (I x6), []⟩, COK (hget [(3020545, (x2.flatMap e48)), (256, [(S ByteArray.empty), nilS]), (1284, [(S (at_ x1 0)), (.rf 3020545 0 x2.length 3 (x2.length * 3))])]) [(S x5.1)] ⟨51, [(S x5.1)], [], (I x7), [], [], [], [], (I x7), []⟩, COK (hget [(3020545, (x2.flatMap e48)), (256, [(S ByteArray.empty), nilS]), (1284, [(S (at_ x1 0)), (.rf 3020545 0 x2.length 3 (x2.length * 3))])]) [(S x5.2.1)] ⟨51, [(S x5.2.1)], [], (I x8), [], [], [], [], (I x8), []⟩, V.rf 3020545 0 (x2.length + ([(⟨x6, x7, x8⟩ : S48)] : List S48).length) 3 (x2.length * 3 + ([(⟨x6, x7, x8⟩ : S48)] : List S48).length * 3) = (.rf 3020545 0 ((x2 ++ ([(⟨x6, x7, x8⟩ : S48)] : List S48)).length) 3 ((x2 ++ ([(⟨x6, x7, x8⟩ : S48)] : List S48)).length * 3)), x2.flatMap e48 ++ (((([(⟨x6, x7, x8⟩ : S48)] : List S48).flatMap e48).drop 0).take (([(⟨x6, x7, x8⟩ : S48)] : List S48).length * 3)) = ((x2 ++ ([(⟨x6, x7, x8⟩ : S48)] : List S48)).flatMap e48), (([(⟨x6, x7, x8⟩ : S48)] : List S48).length * 3 = (([(⟨x6, x7, x8⟩ : S48)] : List S48).flatMap e48).length ∧ 0 + ([(⟨x6, x7, x8⟩ : S48)] : List S48).length * 3 ≤ (([(⟨x6, x7, x8⟩ : S48)] : List S48).flatMap e48).length) ∧ x2.length * 3 = (x2.flatMap e48).length ∧ x2.length * 3 = (x2.flatMap e48).length ∧ (x2.length + ([(⟨x6, x7, x8⟩ : S48)] : List S48).length) * 24 ≤ 70368744177664, 2 = 2 ∧ 1 + 1 ≤ 2], [⟨50, [(S x4.1), (I 2)], [], (I x6), [], [], [], [], (I x6), []⟩, ⟨51, [(S x5.1)], [], (I x7), [], [], [], [], (I x7), []⟩, ⟨51, [(S x5.2.1)], [], (I x8), [], [], [], [], (I x8), []⟩]⟩ [c_ 4007, l_ 250, b_ 0, c_ 63] (alc ⟨rfl, by decide⟩ (alc (cok0 false (a2c (.z .s) (a2c (.z .s) a2n)) (.z .s) (fun h => absurd h (by decide))) (alc (cok0 false (a2c (.z .s) a2n) (.z .s) (fun h => absurd h (by decide))) (alc (cok0 false (a2c (.z .s) a2n) (.z .s) (fun h => absurd h (by decide))) (alc (apV rfl) (alc (apR e48_ok rfl) (alc (apO e48_ok rfl c6 rfl) (alc ⟨rfl, by decide⟩ aln)))))))) (acal (impl_digits.J k x4.1 2 _ hx6) (acal (impl_ReadTime.J k x5.1 _ hx7) (acal (impl_ReadTime.J k x5.2.1 _ hx8) nocal))) ?_
          refine .reg' [0, 2, 5, 25, 26, 27] [] ⟨[(0, (S a0)), (2, (.pt 256 0 2)), (5, (.pt 1284 0 2)), (25, (.sl false ((x1.drop (1 : Int).toNat).take ((x1.length : Int).toNat - (1 : Int).toNat)).length 1 (((x1.drop (1 : Int).toNat).take ((x1.length : Int).toNat - (1 : Int).toNat)).flatMap encS))), (26, (I (((x1.drop (1 : Int).toNat).take ((x1.length : Int).toNat - (1 : Int).toNat)).length : Int))), (27, (I (wrap64 (x3 + 1))))], [(3020545, ((x2 ++ ([(⟨x6, x7, x8⟩ : S48)] : List S48)).flatMap e48)), (256, [(S ByteArray.empty), nilS]), (1284, [(S (at_ x1 0)), (.rf 3020545 0 ((x2 ++ ([(⟨x6, x7, x8⟩ : S48)] : List S48)).length) 3 ((x2 ++ ([(⟨x6, x7, x8⟩ : S48)] : List S48)).length * 3))]), (2825, (([(⟨x6, x7, x8⟩ : S48)] : List S48).flatMap e48))], [], []⟩ [l_ 250, b_ 0, c_ 63] aln nocal ?_
          refine .wk' [] [(3020545, 3020545), (256, 256), (1284, 1284)] [(0, (S a0)), (2, (.pt 256 0 2)), (5, (.pt 1284 0 2)), (25, (.sl false ((x1.drop (1 : Int).toNat).take ((x1.length : Int).toNat - (1 : Int).toNat)).length 1 (((x1.drop (1 : Int).toNat).take ((x1.length : Int).toNat - (1 : Int).toNat)).flatMap encS))), (26, (I (((x1.drop (1 : Int).toNat).take ((x1.length : Int).toNat - (1 : Int).toNat)).length : Int))), (27, (I (wrap64 (x3 + 1))))] [(3020545, ((x2 ++ ([(⟨x6, x7, x8⟩ : S48)] : List S48)).flatMap e48)), (256, [(S ByteArray.empty), nilS]), (1284, [(S (at_ x1 0)), (.rf 3020545 0 ((x2 ++ ([(⟨x6, x7, x8⟩ : S48)] : List S48)).length) 3 ((x2 ++ ([(⟨x6, x7, x8⟩ : S48)] : List S48)).length * 3))])] (shc 3020545 (rowF e48_ok _) (shc 256 (a2c (.z .s) (a2c (.z .s) a2n)) (shc 1284 (a2c (.z .s) (a2c (.rf (memP_mem (p := (3020545, 3020545)) rfl)) a2n)) shn))) (enc_ (.z .s) (enc_ (.pt (memP_mem (p := (256, 256)) rfl)) (enc_ (.pt (memP_mem (p := (1284, 1284)) rfl)) (enc_ (.z (frz_sl encS_ok (fun h => h))) (enc_ (.z .s) (enc_ (.z .s) enn)))))) ?_
          exact ih0 a0 x1 (x2 ++ ([(⟨x6, x7, x8⟩ : S48)] : List S48)) (wrap64 (x3 + 1)) _ h
        · rw [if_neg c6] at h
          cases h
      · rw [if_neg c5] at h
        cases h
    · rw [if_neg c4] at h
      refine .cond' (.tmp 28) false [c_ 252, c_ 253, c_ 127] (bF (dF c4)) ?_
      obtain ⟨x9, hx9, h⟩ := Option.bind_eq_some_iff.mp h
      by_cases c7 : x9 = true
      · rw [if_pos c7] at h
        obtain ⟨x10, hx10, h⟩ := Option.bind_eq_some_iff.mp h
        refine .reg' [2, 5, 64] [.no, .c ⟨24, [(.ag [(S (at_ x1 0)), (.sl true x2.length 3 (x2.flatMap e48))])], [], (B x9), [], [3020545], [], [], (B x9), []⟩, .no, .v (B false), .no, .c ⟨11, [(.ag [(S (at_ x1 0)), (.sl true x2.length 3 (x2.flatMap e48))])], [], (S x10), [], [3020545], [], [], (S x10), []⟩] ⟨[(2, (.pt 256 0 2)), (5, (.pt 1284 0 2)), (64, (B (!(sEq x10 a0))))], [(3020545, (x2.flatMap e48)), (256, [(S ByteArray.empty), nilS]), (1284, [(S (at_ x1 0)), (.rf 3020545 0 x2.length 3 (x2.length * 3))])], [2 = 2 ∧ 0 + 2 ≤ 2, COK (hget [(3020545, (x2.flatMap e48)), (256, [(S ByteArray.empty), nilS]), (1284, [(S (at_ x1 0)), (.rf 3020545 0 x2.length 3 (x2.length * 3))])]) [(.ag [(S (at_ x1 0)), (.rf 3020545 0 x2.length 3 (x2.length * 3))])] ⟨24, [(.ag [(S (at_ x1 0)), (.sl true x2.length 3 (x2.flatMap e48))])], [], (B x9), [], [3020545], [], [], (B x9), []⟩, (B (!x9) : V) = B false, 2 = 2 ∧ 0 + 2 ≤ 2, COK (hget [(3020545, (x2.flatMap e48)), (256, [(S ByteArray.empty), nilS]), (1284, [(S (at_ x1 0)), (.rf 3020545 0 x2.length 3 (x2.length * 3))])]) [(.ag [(S (at_ x1 0)), (.rf 3020545 0 x2.length 3 (x2.length * 3))])] ⟨11, [(.ag [(S (at_ x1 0)), (.sl true x2.length 3 (x2.flatMap e48))])], [], (S x10), [], [3020545], [], [], (S x10), []⟩], [⟨24, [(.ag [(S (at_ x1 0)), (.sl true x2.length 3 (x2.flatMap e48))])], [], (B x9), [], [3020545], [], [], (B x9), []⟩, ⟨11, [(.ag [(S (at_ x1 0)), (.sl true x2.length 3 (x2.flatMap e48))])], [], (S x10), [], [3020545], [], [], (S x10), []⟩]⟩ [c_ 253, c_ 127] (alc ⟨rfl, by decide⟩ (alc (cok0 false (a2c (cnv_ag (a2c (.z .s) (a2c (.z (frz_rf (k := 3020545) e48_ok (by simp) rfl rfl (row_len e48_ok _).symm)) a2n))) a2n) (.z .s) (fun h => absurd h (by decide))) (alc (bF (nF c7)) (alc ⟨rfl, by decide⟩ (alc (cok0 false (a2c (cnv_ag (a2c (.z .s) (a2c (.z (frz_rf (k := 3020545) e48_ok (by simp) rfl rfl (row_len e48_ok _).symm)) a2n))) a2n) (.z .s) (fun h => absurd h (by decide))) aln))))) (acal (impl_TripOk.J k (⟨(at_ x1 0), x2⟩ : S28) _ hx9) (acal (impl_TripText.J k (⟨(at_ x1 0), x2⟩ : S28) _ hx10) nocal)) ?_
        by_cases c8 : (sEq x10 a0) = true
        · rw [if_pos c8] at h
          refine .cond' (.tmp 64) false [c_ 254, c_ 255] (bF (nF c8)) ?_
          refine .reg' [2, 3] [] ⟨[(2, (.pt 256 0 2)), (3, (B true))], [(3020545, (x2.flatMap e48)), (256, [(S (at_ x1 0)), (.rf 3020545 0 x2.length 3 (x2.length * 3))]), (1284, [(S (at_ x1 0)), (.rf 3020545 0 x2.length 3 (x2.length * 3))])], [2 = 2 ∧ 0 + 2 ≤ 2, 2 = 2 ∧ 0 + 2 ≤ 2], []⟩ [c_ 255] (alc ⟨rfl, by decide⟩ (alc ⟨rfl, by decide⟩ aln)) nocal ?_
          have h := Option.some.inj h
          subst h
          exact .fin' [] [(3020545, 3020545)] (.tp [(.ag [(S (at_ x1 0)), (.rf 3020545 0 x2.length 3 (x2.length * 3))]), (B true)]) [2 = 2 ∧ 0 + 2 ≤ 2] (alc ⟨rfl, by decide⟩ aln) (shc 3020545 (rowF e48_ok _) shn) (cnv_tp (a2c (cnv_ag (a2c (.z .s) (a2c (.rf (memP_mem (p := (3020545, 3020545)) rfl)) a2n))) (a2c (.z .s) a2n)))
        · rw [if_neg c8] at h
          refine .cond' (.tmp 64) true [c_ 1012, c_ 1013, c_ 127] (bT (nT (vF c8))) ?_
          refine .reg' [2, 3] [] ⟨[(2, (.pt 256 0 2)), (3, (B false))], [(3020545, (x2.flatMap e48)), (256, [(S ByteArray.empty), nilS]), (1284, [(S (at_ x1 0)), (.rf 3020545 0 x2.length 3 (x2.length * 3))])], [2 = 2 ∧ 0 + 2 ≤ 2], []⟩ [c_ 1013, c_ 127] (alc ⟨rfl, by decide⟩ aln) nocal ?_
          have h := Option.some.inj h
          subst h
          refine .nl' 3020546 ?_
          exact .fin' [] [(3020546, 3020545)] (.tp [(.ag [(S ByteArray.empty), nilS]), (B false)]) [2 = 2 ∧ 0 + 2 ≤ 2] (alc ⟨rfl, by decide⟩ aln) (shc 3020546 (rowF e48_ok _) shn) (cnv_tp (a2c (cnv_ag (a2c (.z .s) (a2c (.nl (memP_mem (p := (3020546, 3020545)) rfl) rfl) a2n))) (a2c (.z .s) a2n)))
      · rw [if_neg c7] at h
        refine .reg' [2, 5, 64] [.no, .c ⟨24, [(.ag [(S (at_ x1 0)), (.sl true x2.length 3 (x2.flatMap e48))])], [], (B x9), [], [3020545], [], [], (B x9), []⟩, .no, .v (B true)] ⟨[(2, (.pt 256 0 2)), (5, (.pt 1284 0 2)), (64, (B true))], [(3020545, (x2.flatMap e48)), (256, [(S ByteArray.empty), nilS]), (1284, [(S (at_ x1 0)), (.rf 3020545 0 x2.length 3 (x2.length * 3))])], [2 = 2 ∧ 0 + 2 ≤ 2, COK (hget [(3020545, (x2.flatMap e48)), (256, [(S ByteArray.empty), nilS]), (1284, [(S (at_ x1 0)), (.rf 3020545 0 x2.length 3 (x2.length * 3))])]) [(.ag [(S (at_ x1 0)), (.rf 3020545 0 x2.length 3 (x2.length * 3))])] ⟨24, [(.ag [(S (at_ x1 0)), (.sl true x2.length 3 (x2.flatMap e48))])], [], (B x9), [], [3020545], [], [], (B x9), []⟩, (B (!x9) : V) = B true], [⟨24, [(.ag [(S (at_ x1 0)), (.sl true x2.length 3 (x2.flatMap e48))])], [], (B x9), [], [3020545], [], [], (B x9), []⟩]⟩ [c_ 253, c_ 127] (alc ⟨rfl, by decide⟩ (alc (cok0 false (a2c (cnv_ag (a2c (.z .s) (a2c (.z (frz_rf (k := 3020545) e48_ok (by simp) rfl rfl (row_len e48_ok _).symm)) a2n))) a2n) (.z .s) (fun h => absurd h (by decide))) (alc (bT (nT (vF c7))) aln))) (acal (impl_TripOk.J k (⟨(at_ x1 0), x2⟩ : S28) _ hx9) nocal) ?_
        refine .cond' (.tmp 64) true [c_ 1012, c_ 1013, c_ 127] (rfl) ?_
        refine .reg' [2, 3] [] ⟨[(2, (.pt 256 0 2)), (3, (B false))], [(3020545, (x2.flatMap e48)), (256, [(S ByteArray.empty), nilS]), (1284, [(S (at_ x1 0)), (.rf 3020545 0 x2.length 3 (x2.length * 3))])], [2 = 2 ∧ 0 + 2 ≤ 2], []⟩ [c_ 1013, c_ 127] (alc ⟨rfl, by decide⟩ aln) nocal ?_
        have h := Option.some.inj h
        subst h
        refine .nl' 3020546 ?_
        exact .fin' [] [(3020546, 3020545)] (.tp [(.ag [(S ByteArray.empty), nilS]), (B false)]) [2 = 2 ∧ 0 + 2 ≤ 2] (alc ⟨rfl, by decide⟩ aln) (shc 3020546 (rowF e48_ok _) shn) (cnv_tp (a2c (cnv_ag (a2c (.z .s) (a2c (.nl (memP_mem (p := (3020546, 3020545)) rfl) rfl) a2n))) (a2c (.z .s) a2n)))
theorem impl_ReadTrip.J (k : Nat) (a0 : ByteArray) (r : (S28 × Bool)) (h : impl_ReadTrip.f k a0 = some r) : J prog (.call 20 [(S a0)] [] (.tp [(.ag [(S r.1.f0), (.rf 3020545 0 r.1.f1.length 3 (r.1.f1.length * 3))]), (B r.2)]) [(3020545, (r.1.f1.flatMap e48))]) := by
  unfold impl_ReadTrip.f at h
  have ih0 := impl_ReadTrip.lab k
  refine .call' [c_ 2, c_ 3] ?_
  refine .reg' [0, 2] [] ⟨[(0, (S a0)), (2, (.pt 256 0 2))], [(256, [(S ByteArray.empty), nilS])], [], []⟩ [c_ 12, c_ 13, c_ 7] aln nocal ?_
  refine .reg' [0, 2, 16] [] ⟨[(0, (S a0)), (2, (.pt 256 0 2)), (16, (B (decide ((a0.size : Int) > 300))))], [(256, [(S ByteArray.empty), nilS])], [], []⟩ [c_ 13, c_ 7] aln nocal ?_
  by_cases c1 : (a0.size : Int) > 300
  · rw [if_pos c1] at h
    refine .cond' (.tmp 16) true [c_ 52, c_ 53, c_ 7] (bT (dT c1)) ?_
    refine .reg' [2, 3] [] ⟨[(2, (.pt 256 0 2)), (3, (B false))], [(256, [(S ByteArray.empty), nilS])], [2 = 2 ∧ 0 + 2 ≤ 2], []⟩ [c_ 53, c_ 7] (alc ⟨rfl, by decide⟩ aln) nocal ?_
    have h := Option.some.inj h
    subst h
    refine .nl' 3020545 ?_
    exact .fin' [] [(3020545, 3020545)] (.tp [(.ag [(S ByteArray.empty), nilS]), (B false)]) [2 = 2 ∧ 0 + 2 ≤ 2] (alc ⟨rfl, by decide⟩ aln) (shc 3020545 (rowF e48_ok _) shn) (cnv_tp (a2c (cnv_ag (a2c (.z .s) (a2c (.nl (memP_mem (p := (3020545, 3020545)) rfl) rfl) a2n))) (a2c (.z .s) a2n)))
  · rw [if_neg c1] at h
    refine .cond' (.tmp 16) false [c_ 14, c_ 15] (bF (dF c1)) ?_
    obtain ⟨x1, hx1, h⟩ := Option.bind_eq_some_iff.mp h
    refine .reg' [0, 2, 4] [.no, .c ⟨48, [(S a0), (S (⟨#[32]⟩ : ByteArray))], [], (.sl false x1.length 1 (x1.flatMap encS)), [], [], [], [], (.sl false x1.length 1 (x1.flatMap encS)), []⟩] ⟨[(0, (S a0)), (2, (.pt 256 0 2)), (4, (.sl false x1.length 1 (x1.flatMap encS)))], [(256, [(S ByteArray.empty), nilS])], [COK (hget [(256, [(S ByteArray.empty), nilS])]) [(S a0), (S (⟨#[32]⟩ : ByteArray))] ⟨48, [(S a0), (S (⟨#[32]⟩ : ByteArray))], [], (.sl false x1.length 1 (x1.flatMap encS)), [], [], [], [], (.sl false x1.length 1 (x1.flatMap encS)), []⟩], [⟨48, [(S a0), (S (⟨#[32]⟩ : ByteArray))], [], (.sl false x1.length 1 (x1.flatMap encS)), [], [], [], [], (.sl false x1.length 1 (x1.flatMap encS)), []⟩]⟩ [c_ 30, c_ 31] (alc (cok0 false (a2c (.z .s) (a2c (.z .s) a2n)) (.z (clnS encS_c (fun h => absurd h (by decide)))) (fun h => absurd h (by decide))) aln) (acal (strings_Split.J a0 (⟨#[32]⟩ : ByteArray) _ hx1) nocal) ?_
    by_cases c2 : 0 < (x1.length : Int)
    · rw [if_pos c2] at h
      refine .reg' [0, 2, 4, 5] [.no, .no, .v (S (at_ x1 0))] ⟨[(0, (S a0)), (2, (.pt 256 0 2)), (4, (.sl false x1.length 1 (x1.flatMap encS))), (5, (.pt 1284 0 2))], [(256, [(S ByteArray.empty), nilS]), (1284, [(S (at_ x1 0)), nilS])], [(0 : Int) ≤ 0 ∧ 0 < (x1.length : Int), rdC prog 9 ((x1.flatMap encS).drop ((0 : Int).toNat * 1)) = (S (at_ x1 0)), 1 ≤ ((x1.flatMap encS).drop ((0 : Int).toNat * 1)).length, 2 = 2 ∧ 0 + 2 ≤ 2], []⟩ [c_ 124, c_ 125, c_ 63] (alc ⟨(by decide), c2⟩ (alc (ldC1 encS_ok rfl (by decide) c2) (alc (okI encS_ok (by decide) c2 (by decide)) (alc ⟨rfl, by decide⟩ aln)))) nocal ?_
      by_cases c3 : 1 ≤ (x1.length : Int)
      · rw [if_pos c3] at h
        refine .reg' [0, 2, 5, 25, 26, 27] [.no, .v (.sl false ((x1.drop (1 : Int).toNat).take ((x1.length : Int).toNat - (1 : Int).toNat)).length 1 (((x1.drop (1 : Int).toNat).take ((x1.length : Int).toNat - (1 : Int).toNat)).flatMap encS))] ⟨[(0, (S a0)), (2, (.pt 256 0 2)), (5, (.pt 1284 0 2)), (25, (.sl false ((x1.drop (1 : Int).toNat).take ((x1.length : Int).toNat - (1 : Int).toNat)).length 1 (((x1.drop (1 : Int).toNat).take ((x1.length : Int).toNat - (1 : Int).toNat)).flatMap encS))), (26, (I (((x1.drop (1 : Int).toNat).take ((x1.length : Int).toNat - (1 : Int).toNat)).length : Int))), (27, (I 0))], [(256, [(S ByteArray.empty), nilS]), (1284, [(S (at_ x1 0)), nilS])], [V.sl false ((x1.length : Int).toNat - (1 : Int).toNat) 1 (((x1.flatMap encS).drop ((1 : Int).toNat * 1)).take (((x1.length : Int).toNat - (1 : Int).toNat) * 1)) = (.sl false ((x1.drop (1 : Int).toNat).take ((x1.length : Int).toNat - (1 : Int).toNat)).length 1 (((x1.drop (1 : Int).toNat).take ((x1.length : Int).toNat - (1 : Int).toNat)).flatMap encS)), 0 ≤ (1 : Int) ∧ 1 ≤ (x1.length : Int) ∧ (x1.length : Int) ≤ (x1.length : Int)], []⟩ [l_ 250, b_ 0, c_ 63] (alc (slS encS_ok (by omega) (by omega)) (alc ⟨(by decide), c3, (Int.le_refl _)⟩ aln)) nocal ?_
        refine .nl' 3020545 ?_
        refine .wk' [] [(3020545, 3020545), (256, 256), (1284, 1284)] [(0, (S a0)), (2, (.pt 256 0 2)), (5, (.pt 1284 0 2)), (25, (.sl false ((x1.drop (1 : Int).toNat).take ((x1.length : Int).toNat - (1 : Int).toNat)).length 1 (((x1.drop (1 : Int).toNat).take ((x1.length : Int).toNat - (1 : Int).toNat)).flatMap encS))), (26, (I (((x1.drop (1 : Int).toNat).take ((x1.length : Int).toNat - (1 : Int).toNat)).length : Int))), (27, (I 0))] [(3020545, (([] : List S48).flatMap e48)), (256, [(S ByteArray.empty), nilS]), (1284, [(S (at_ x1 0)), (.rf 3020545 0 (([] : List S48).length) 3 (([] : List S48).length * 3))])] (shc 3020545 (rowF e48_ok _) (shc 256 (a2c (.z .s) (a2c (.z .s) a2n)) (shc 1284 (a2c (.z .s) (a2c (.nl (memP_mem (p := (3020545, 3020545)) rfl) rfl) a2n)) shn))) (enc_ (.z .s) (enc_ (.pt (memP_mem (p := (256, 256)) rfl)) (enc_ (.pt (memP_mem (p := (1284, 1284)) rfl)) (enc_ (.z (frz_sl encS_ok (fun h => h))) (enc_ (.z .s) (enc_ (.z .s) enn)))))) ?_
        exact ih0 a0 x1 ([] : List S48) 0 _ h
      · rw [if_neg c3] at h
        cases h
    · rw [if_neg c2] at h
      cases h
/-! laws_eqCall: function 62 -/
def laws_eqCall.f (a0 : S48) (a1 : S48) : Option Bool := (if a0.f0 = a1.f0 then (if a0.f1 = a1.f1 then (if a0.f2 = a1.f2 then (some true) else (some false)) else (some false)) else (some false))
theorem laws_eqCall.J (a0 : S48) (a1 : S48) (r : Bool) (h : laws_eqCall.f a0 a1 = some r) : J prog (.call 62 [(.ag [(I a0.f0), (I a0.f1), (I a0.f2)]), (.ag [(I a1.f0), (I a1.f1), (I a1.f2)])] [] (B r) []) := by
  unfold laws_eqCall.f at h
  refine .call' [c_ 2, c_ 3] ?_
  refine .reg' [2, 3] [] ⟨[(2, (.pt 256 0 3)), (3, (.pt 257 0 3))], [(256, [(I a0.f0), (I a0.f1), (I a0.f2)]), (257, [(I a1.f0), (I a1.f1), (I a1.f2)])], [], []⟩ [c_ 12, c_ 13, c_ 7] aln nocal ?_
  refine .reg' [2, 3, 9] [] ⟨[(2, (.pt 256 0 3)), (3, (.pt 257 0 3)), (9, (B (!(a0.f0 == a1.f0))))], [(256, [(I a0.f0), (I a0.f1), (I a0.f2)]), (257, [(I a1.f0), (I a1.f1), (I a1.f2)])], [3 = 3 ∧ 0 + 1 ≤ 3, 3 = 3 ∧ 0 + 1 ≤ 3], []⟩ [c_ 13, c_ 7] (alc ⟨rfl, by decide⟩ (alc ⟨rfl, by decide⟩ aln)) nocal ?_
  by_cases c1 : a0.f0 = a1.f0
  · rw [if_pos c1] at h
    refine .cond' (.tmp 9) false [c_ 28, c_ 29, c_ 15] (bF (nF (qT c1))) ?_
    refine .reg' [2, 3, 14] [] ⟨[(2, (.pt 256 0 3)), (3, (.pt 257 0 3)), (14, (B (!(a0.f1 == a1.f1))))], [(256, [(I a0.f0), (I a0.f1), (I a0.f2)]), (257, [(I a1.f0), (I a1.f1), (I a1.f2)])], [3 = 3 ∧ 1 + 1 ≤ 3, 3 = 3 ∧ 1 + 1 ≤ 3], []⟩ [c_ 29, c_ 15] (alc ⟨rfl, by decide⟩ (alc ⟨rfl, by decide⟩ aln)) nocal ?_
    by_cases c2 : a0.f1 = a1.f1
    · rw [if_pos c2] at h
      refine .cond' (.tmp 14) false [c_ 60, c_ 61, c_ 31] (bF (nF (qT c2))) ?_
      refine .reg' [19] [] ⟨[(19, (B (!(a0.f2 == a1.f2))))], [(256, [(I a0.f0), (I a0.f1), (I a0.f2)]), (257, [(I a1.f0), (I a1.f1), (I a1.f2)])], [3 = 3 ∧ 2 + 1 ≤ 3, 3 = 3 ∧ 2 + 1 ≤ 3], []⟩ [c_ 61, c_ 31] (alc ⟨rfl, by decide⟩ (alc ⟨rfl, by decide⟩ aln)) nocal ?_
      by_cases c3 : a0.f2 = a1.f2
      · rw [if_pos c3] at h
        refine .cond' (.tmp 19) false [c_ 62, c_ 63] (bF (nF (qT c3))) ?_
        refine .reg' [4] [] ⟨[(4, (B true))], [(256, [(I a0.f0), (I a0.f1), (I a0.f2)]), (257, [(I a1.f0), (I a1.f1), (I a1.f2)])], [], []⟩ [c_ 63] aln nocal ?_
        have h := Option.some.inj h
        subst h
        exact .fin0 [] (B true) [] aln (.z .s)
      · rw [if_neg c3] at h
        refine .cond' (.tmp 19) true [c_ 244, c_ 245, c_ 31] (bT (nT (qF c3))) ?_
        refine .reg' [4] [] ⟨[(4, (B false))], [(256, [(I a0.f0), (I a0.f1), (I a0.f2)]), (257, [(I a1.f0), (I a1.f1), (I a1.f2)])], [], []⟩ [c_ 245, c_ 31] aln nocal ?_
        have h := Option.some.inj h
        subst h
        exact .fin0 [] (B false) [] aln (.z .s)
    · rw [if_neg c2] at h
      refine .cond' (.tmp 14) true [c_ 116, c_ 117, c_ 15] (bT (nT (qF c2))) ?_
      refine .reg' [4] [] ⟨[(4, (B false))], [(256, [(I a0.f0), (I a0.f1), (I a0.f2)]), (257, [(I a1.f0), (I a1.f1), (I a1.f2)])], [], []⟩ [c_ 117, c_ 15] aln nocal ?_
      have h := Option.some.inj h
      subst h
      exact .fin0 [] (B false) [] aln (.z .s)
  · rw [if_neg c1] at h
    refine .cond' (.tmp 9) true [c_ 52, c_ 53, c_ 7] (bT (nT (qF c1))) ?_
    refine .reg' [4] [] ⟨[(4, (B false))], [(256, [(I a0.f0), (I a0.f1), (I a0.f2)]), (257, [(I a1.f0), (I a1.f1), (I a1.f2)])], [], []⟩ [c_ 53, c_ 7] aln nocal ?_
    have h := Option.some.inj h
    subst h
    exact .fin0 [] (B false) [] aln (.z .s)
/-! laws_eqCallS: function 37 -/
def laws_eqCallS.l0 : Nat → (List S48) → (List S48) → Int → Option Bool
 | 0, _, _, _ => none
 | k + 1, a0, a1, x1 => (if x1 < (a0.length : Int) then (if 0 ≤ x1 then (if x1 < (a1.length : Int) then ((laws_eqCall.f (at_ a0 x1) (at_ a1 x1)).bind fun x2 => (if x2 = true then (laws_eqCallS.l0 k a0 a1 (wrap64 (x1 + 1))) else (some false))) else none) else none) else (some true))
def laws_eqCallS.f (k : Nat) (a0 : (List S48)) (a1 : (List S48)) : Option Bool := (if (a0.length : Int) = (a1.length : Int) then (laws_eqCallS.l0 k a0 a1 0) else (some false))
theorem laws_eqCallS.lab : ∀ k, (∀ (a0 : (List S48)) (a1 : (List S48)) (x1 : Int) (r : Bool), laws_eqCallS.l0 k a0 a1 x1 = some r → J prog (.run 37 [] [l_ 58, b_ 0, c_ 15] [(0, (.sl true a0.length 3 (a0.flatMap e48))), (1, (.sl true a1.length 3 (a1.flatMap e48))), (5, (I x1))] [] (B r) []))
 | 0 => (by intro a0 a1 x1 r h; unfold laws_eqCallS.l0 at h; cases h)
 | k + 1 => by
  have ih0 := laws_eqCallS.lab k
  · intro a0 a1 x1 r h
    unfold laws_eqCallS.l0 at h
    refine .loop' [c_ 464, c_ 465, c_ 233, l_ 58, b_ 0, c_ 15] ?_
    refine .reg' [0, 1, 5, 14] [] ⟨[(0, (.sl true a0.length 3 (a0.flatMap e48))), (1, (.sl true a1.length 3 (a1.flatMap e48))), (5, (I x1)), (14, (B (decide (x1 < (a0.length : Int)))))], [], [], []⟩ [c_ 465, c_ 233, l_ 58, b_ 0, c_ 15] aln nocal ?_
    by_cases c2 : x1 < (a0.length : Int)
    · rw [if_pos c2] at h
      refine .cond' (.tmp 14) true [c_ 1864, c_ 1865, b_ 1, c_ 467, l_ 58, b_ 0, c_ 15] (bT (dT c2)) ?_
      by_cases c3 : 0 ≤ x1
      · rw [if_pos c3] at h
        by_cases c4 : x1 < (a1.length : Int)
        · rw [if_pos c4] at h
          obtain ⟨x2, hx2, h⟩ := Option.bind_eq_some_iff.mp h
          refine .reg' [0, 1, 5, 26] [.no, .no, .no, .v (.ag [(I (at_ a0 x1).f0), (I (at_ a0 x1).f1), (I (at_ a0 x1).f2)]), .no, .no, .no, .v (.ag [(I (at_ a1 x1).f0), (I (at_ a1 x1).f1), (I (at_ a1 x1).f2)]), .c ⟨62, [(.ag [(I (at_ a0 x1).f0), (I (at_ a0 x1).f1), (I (at_ a0 x1).f2)]), (.ag [(I (at_ a1 x1).f0), (I (at_ a1 x1).f1), (I (at_ a1 x1).f2)])], [], (B x2), [], [], [], [], (B x2), []⟩] ⟨[(0, (.sl true a0.length 3 (a0.flatMap e48))), (1, (.sl true a1.length 3 (a1.flatMap e48))), (5, (I x1)), (26, (B (!x2)))], [], [(0 : Int) ≤ x1 ∧ x1 < (a0.length : Int), rdC prog 49 ((a0.flatMap e48).drop (x1.toNat * 3)) = (.ag [(I (at_ a0 x1).f0), (I (at_ a0 x1).f1), (I (at_ a0 x1).f2)]), 3 ≤ ((a0.flatMap e48).drop (x1.toNat * 3)).length, (0 : Int) ≤ x1 ∧ x1 < (a1.length : Int), rdC prog 49 ((a1.flatMap e48).drop (x1.toNat * 3)) = (.ag [(I (at_ a1 x1).f0), (I (at_ a1 x1).f1), (I (at_ a1 x1).f2)]), 3 ≤ ((a1.flatMap e48).drop (x1.toNat * 3)).length, COK (hget []) [(.ag [(I (at_ a0 x1).f0), (I (at_ a0 x1).f1), (I (at_ a0 x1).f2)]), (.ag [(I (at_ a1 x1).f0), (I (at_ a1 x1).f1), (I (at_ a1 x1).f2)])] ⟨62, [(.ag [(I (at_ a0 x1).f0), (I (at_ a0 x1).f1), (I (at_ a0 x1).f2)]), (.ag [(I (at_ a1 x1).f0), (I (at_ a1 x1).f1), (I (at_ a1 x1).f2)])], [], (B x2), [], [], [], [], (B x2), []⟩], [⟨62, [(.ag [(I (at_ a0 x1).f0), (I (at_ a0 x1).f1), (I (at_ a0 x1).f2)]), (.ag [(I (at_ a1 x1).f0), (I (at_ a1 x1).f1), (I (at_ a1 x1).f2)])], [], (B x2), [], [], [], [], (B x2), []⟩]⟩ [c_ 1865, b_ 1, c_ 467, l_ 58, b_ 0, c_ 15] (alc ⟨c3, c2⟩ (alc (ldA e48_ok rfl rfl c3 c2) (alc (okI e48_ok c3 c2 (by decide)) (alc ⟨c3, c4⟩ (alc (ldA e48_ok rfl rfl c3 c4) (alc (okI e48_ok c3 c4 (by decide)) (alc (cok0 false (a2c (.z (frz_ag (a2c .s (a2c .s (a2c .s a2n))))) (a2c (.z (frz_ag (a2c .s (a2c .s (a2c .s a2n))))) a2n)) (.z .s) (fun h => absurd h (by decide))) aln))))))) (acal (laws_eqCall.J (at_ a0 x1) (at_ a1 x1) _ hx2) nocal) ?_
          by_cases c5 : x2 = true
          · rw [if_pos c5] at h
            refine .cond' (.tmp 26) false [c_ 467, l_ 58, b_ 0, c_ 15] (bF (nF c5)) ?_
            refine .reg' [0, 1, 5] [] ⟨[(0, (.sl true a0.length 3 (a0.flatMap e48))), (1, (.sl true a1.length 3 (a1.flatMap e48))), (5, (I (wrap64 (x1 + 1))))], [], [], []⟩ [l_ 58, b_ 0, c_ 15] aln nocal ?_
            exact ih0 a0 a1 (wrap64 (x1 + 1)) _ h
          · rw [if_neg c5] at h
            refine .cond' (.tmp 26) true [c_ 7460, c_ 7461, b_ 1, c_ 467, l_ 58, b_ 0, c_ 15] (bT (nT (vF c5))) ?_
            refine .reg' [4] [] ⟨[(4, (B false))], [], [], []⟩ [c_ 7461, b_ 1, c_ 467, l_ 58, b_ 0, c_ 15] aln nocal ?_
            have h := Option.some.inj h
            subst h
            exact .fin0 [] (B false) [] aln (.z .s)
        · rw [if_neg c4] at h
          cases h
      · rw [if_neg c3] at h
        cases h
    · rw [if_neg c2] at h
      refine .cond' (.tmp 14) false [c_ 30, c_ 31] (bF (dF c2)) ?_
      refine .reg' [4] [] ⟨[(4, (B true))], [], [], []⟩ [c_ 31] aln nocal ?_
      have h := Option.some.inj h
      subst h
      exact .fin0 [] (B true) [] aln (.z .s)
theorem laws_eqCallS.J (k : Nat) (a0 : (List S48)) (a1 : (List S48)) (r : Bool) (h : laws_eqCallS.f k a0 a1 = some r) : J prog (.call 37 [(.sl true a0.length 3 (a0.flatMap e48)), (.sl true a1.length 3 (a1.flatMap e48))] [] (B r) []) := by
  unfold laws_eqCallS.f at h
  have ih0 := laws_eqCallS.lab k
  refine .call' [c_ 2, c_ 3] ?_
  refine .reg' [0, 1] [] ⟨[(0, (.sl true a0.length 3 (a0.flatMap e48))), (1, (.sl true a1.length 3 (a1.flatMap e48)))], [], [], []⟩ [c_ 12, c_ 13, c_ 7] aln nocal ?_
  refine .reg' [0, 1, 10] [] ⟨[(0, (.sl true a0.length 3 (a0.flatMap e48))), (1, (.sl true a1.length 3 (a1.flatMap e48))), (10, (B (!((a0.length : Int) == (a1.length : Int)))))], [], [], []⟩ [c_ 13, c_ 7] aln nocal ?_
  by_cases c1 : (a0.length : Int) = (a1.length : Int)
  · rw [if_pos c1] at h
    refine .cond' (.tmp 10) false [c_ 28, c_ 29, c_ 15] (bF (nF (qT c1))) ?_
    refine .reg' [0, 1, 5] [] ⟨[(0, (.sl true a0.length 3 (a0.flatMap e48))), (1, (.sl true a1.length 3 (a1.flatMap e48))), (5, (I 0))], [], [], []⟩ [l_ 58, b_ 0, c_ 15] aln nocal ?_
    exact ih0 a0 a1 0 _ h
  · rw [if_neg c1] at h
    refine .cond' (.tmp 10) true [c_ 52, c_ 53, c_ 7] (bT (nT (qF c1))) ?_
    refine .reg' [4] [] ⟨[(4, (B false))], [], [], []⟩ [c_ 53, c_ 7] aln nocal ?_
    have h := Option.some.inj h
    subst h
    exact .fin0 [] (B false) [] aln (.z .s)
/-! laws_eqTrip: function 12 -/
def laws_eqTrip.f (k : Nat) (a0 : S28) (a1 : S28) : Option Bool := (if (sEq a0.f0 a1.f0) = true then ((laws_eqCallS.f k a0.f1 a1.f1).bind fun x1 => (if x1 = true then (some true) else (some false))) else (some false))
theorem laws_eqTrip.J (k : Nat) (a0 : S28) (a1 : S28) (r : Bool) (h : laws_eqTrip.f k a0 a1 = some r) : J prog (.call 12 [(.ag [(S a0.f0), (.sl true a0.f1.length 3 (a0.f1.flatMap e48))]), (.ag [(S a1.f0), (.sl true a1.f1.length 3 (a1.f1.flatMap e48))])] [] (B r) []) := by
  unfold laws_eqTrip.f at h
  refine .call' [c_ 2, c_ 3] ?_
  refine .reg' [2, 3] [] ⟨[(2, (.pt 256 0 2)), (3, (.pt 257 0 2))], [(256, [(S a0.f0), (.sl true a0.f1.length 3 (a0.f1.flatMap e48))]), (257, [(S a1.f0), (.sl true a1.f1.length 3 (a1.f1.flatMap e48))])], [], []⟩ [c_ 12, c_ 13, c_ 7] aln nocal ?_
  refine .reg' [2, 3, 9] [] ⟨[(2, (.pt 256 0 2)), (3, (.pt 257 0 2)), (9, (B (!(sEq a0.f0 a1.f0))))], [(256, [(S a0.f0), (.sl true a0.f1.length 3 (a0.f1.flatMap e48))]), (257, [(S a1.f0), (.sl true a1.f1.length 3 (a1.f1.flatMap e48))])], [2 = 2 ∧ 0 + 1 ≤ 2, 2 = 2 ∧ 0 + 1 ≤ 2], []⟩ [c_ 13, c_ 7] (alc ⟨rfl, by decide⟩ (alc ⟨rfl, by decide⟩ aln)) nocal ?_
  by_cases c1 : (sEq a0.f0 a1.f0) = true
  · rw [if_pos c1] at h
    refine .cond' (.tmp 9) false [c_ 28, c_ 29, c_ 15] (bF (nF c1)) ?_
    obtain ⟨x1, hx1, h⟩ := Option.bind_eq_some_iff.mp h
    refine .reg' [15] [.no, .no, .no, .no, .c ⟨37, [(.sl true a0.f1.length 3 (a0.f1.flatMap e48)), (.sl true a1.f1.length 3 (a1.f1.flatMap e48))], [], (B x1), [], [], [], [], (B x1), []⟩] ⟨[(15, (B (!x1)))], [(256, [(S a0.f0), (.sl true a0.f1.length 3 (a0.f1.flatMap e48))]), (257, [(S a1.f0), (.sl true a1.f1.length 3 (a1.f1.flatMap e48))])], [2 = 2 ∧ 1 + 1 ≤ 2, 2 = 2 ∧ 1 + 1 ≤ 2, COK (hget [(256, [(S a0.f0), (.sl true a0.f1.length 3 (a0.f1.flatMap e48))]), (257, [(S a1.f0), (.sl true a1.f1.length 3 (a1.f1.flatMap e48))])]) [(.sl true a0.f1.length 3 (a0.f1.flatMap e48)), (.sl true a1.f1.length 3 (a1.f1.flatMap e48))] ⟨37, [(.sl true a0.f1.length 3 (a0.f1.flatMap e48)), (.sl true a1.f1.length 3 (a1.f1.flatMap e48))], [], (B x1), [], [], [], [], (B x1), []⟩], [⟨37, [(.sl true a0.f1.length 3 (a0.f1.flatMap e48)), (.sl true a1.f1.length 3 (a1.f1.flatMap e48))], [], (B x1), [], [], [], [], (B x1), []⟩]⟩ [c_ 29, c_ 15] (alc ⟨rfl, by decide⟩ (alc ⟨rfl, by decide⟩ (alc (cok0 false (a2c (.z (frz_sl e48_ok (fun h => h))) (a2c (.z (frz_sl e48_ok (fun h => h))) a2n)) (.z .s) (fun h => absurd h (by decide))) aln))) (acal (laws_eqCallS.J k a0.f1 a1.f1 _ hx1) nocal) ?_
    by_cases c2 : x1 = true
    · rw [if_pos c2] at h
      refine .cond' (.tmp 15) false [c_ 30, c_ 31] (bF (nF c2)) ?_
      refine .reg' [4] [] ⟨[(4, (B true))], [(256, [(S a0.f0), (.sl true a0.f1.length 3 (a0.f1.flatMap e48))]), (257, [(S a1.f0), (.sl true a1.f1.length 3 (a1.f1.flatMap e48))])], [], []⟩ [c_ 31] aln nocal ?_
      have h := Option.some.inj h
      subst h
      exact .fin0 [] (B true) [] aln (.z .s)
    · rw [if_neg c2] at h
      refine .cond' (.tmp 15) true [c_ 116, c_ 117, c_ 15] (bT (nT (vF c2))) ?_
      refine .reg' [4] [] ⟨[(4, (B false))], [(256, [(S a0.f0), (.sl true a0.f1.length 3 (a0.f1.flatMap e48))]), (257, [(S a1.f0), (.sl true a1.f1.length 3 (a1.f1.flatMap e48))])], [], []⟩ [c_ 117, c_ 15] aln nocal ?_
      have h := Option.some.inj h
      subst h
      exact .fin0 [] (B false) [] aln (.z .s)
  · rw [if_neg c1] at h
    refine .cond' (.tmp 9) true [c_ 52, c_ 53, c_ 7] (bT (nT (vF c1))) ?_
    refine .reg' [4] [] ⟨[(4, (B false))], [(256, [(S a0.f0), (.sl true a0.f1.length 3 (a0.f1.flatMap e48))]), (257, [(S a1.f0), (.sl true a1.f1.length 3 (a1.f1.flatMap e48))])], [], []⟩ [c_ 53, c_ 7] aln nocal ?_
    have h := Option.some.inj h
    subst h
    exact .fin0 [] (B false) [] aln (.z .s)
/-! laws_markCallS: function 42 -/
def laws_markCallS.l0 : Nat → (List S48) → Int → Int → Option (Int × (List S48))
 | 0, _, _, _ => none
 | k + 1, x1, x2, x3 => (if x3 < (x1.length : Int) then (if 0 ≤ x3 then (laws_markCallS.l0 k (x1.set x3.toNat (⟨x2, (wrap64 (x2 + 1)), (wrap64 ((wrap64 (x2 + 1)) + 1))⟩ : S48)) (wrap64 ((wrap64 ((wrap64 (x2 + 1)) + 1)) + 1)) (wrap64 (x3 + 1))) else none) else (some (x2, x1)))
def laws_markCallS.f (k : Nat) (a0 : (List S48)) (a1 : Int) : Option (Int × (List S48)) := (laws_markCallS.l0 k a0 a1 0)
theorem laws_markCallS.lab : ∀ k, (∀ (x1 : (List S48)) (x2 : Int) (x3 : Int) (r : (Int × (List S48))), laws_markCallS.l0 k x1 x2 x3 = some r → J prog (.run 42 [0] [l_ 26, b_ 0, c_ 7] [(0, (.rf 0 0 x1.length 3 (x1.length * 3))), (1, (I x2)), (5, (I x3))] [(0, (x1.flatMap e48))] (I r.1) [(0, (r.2.flatMap e48))]))
 | 0 => (by intro x1 x2 x3 r h; unfold laws_markCallS.l0 at h; cases h)
 | k + 1 => by
  have ih0 := laws_markCallS.lab k
  · intro x1 x2 x3 r h
    unfold laws_markCallS.l0 at h
    refine .loop' [c_ 208, c_ 209, c_ 105, l_ 26, b_ 0, c_ 7] ?_
    refine .reg' [0, 1, 5, 9] [] ⟨[(0, (.rf 0 0 x1.length 3 (x1.length * 3))), (1, (I x2)), (5, (I x3)), (9, (B (decide (x3 < (x1.length : Int)))))], [(0, (x1.flatMap e48))], [], []⟩ [c_ 209, c_ 105, l_ 26, b_ 0, c_ 7] aln nocal ?_
    by_cases c1 : x3 < (x1.length : Int)
    · rw [if_pos c1] at h
      refine .cond' (.tmp 9) true [c_ 840, c_ 841, b_ 1, c_ 211, l_ 26, b_ 0, c_ 7] (bT (dT c1)) ?_
      by_cases c2 : 0 ≤ x3
      · rw [if_pos c2] at h
        refine .reg' [0, 1, 5] [.no, .no, .no, .no, .no, .w .un ((x1.set x3.toNat (⟨x2, (at_ x1 x3).f1, (at_ x1 x3).f2⟩ : S48)).flatMap e48)] ⟨[(0, (.rf 0 0 x1.length 3 (x1.length * 3))), (1, (I x2)), (5, (I x3))], [(0, ((x1.set x3.toNat (⟨x2, (at_ x1 x3).f1, (at_ x1 x3).f2⟩ : S48)).flatMap e48))], [(0 : Int) ≤ x3 ∧ x3 < (x1.length : Int), V.un = V.un, spl (x1.flatMap e48) (0 + x3.toNat * 3 + 0) [(I x2)] = ((x1.set x3.toNat (⟨x2, (at_ x1 x3).f1, (at_ x1 x3).f2⟩ : S48)).flatMap e48), x1.length * 3 = (x1.flatMap e48).length ∧ 0 + x3.toNat * 3 + 0 + 1 ≤ (x1.flatMap e48).length], []⟩ [c_ 1682, c_ 1683, b_ 1, c_ 211, l_ 26, b_ 0, c_ 7] (alc ⟨c2, c1⟩ (alc rfl (alc (st_row e48_ok 0 c2 c1 (Nat.le_of_ble_eq_true rfl) rfl) (alc (okA e48_ok c2 c1 (by decide)) aln)))) nocal ?_
        refine .eqs (env2 := [(0, (.rf 0 0 ((x1.set x3.toNat (⟨x2, (at_ x1 x3).f1, (at_ x1 x3).f2⟩ : S48)).length) 3 ((x1.set x3.toNat (⟨x2, (at_ x1 x3).f1, (at_ x1 x3).f2⟩ : S48)).length * 3))), (1, (I x2)), (5, (I x3))]) (H2 := [(0, ((x1.set x3.toNat (⟨x2, (at_ x1 x3).f1, (at_ x1 x3).f2⟩ : S48)).flatMap e48))]) (by first | (simp only [List.length_set]; done) | simp) (by first | rfl | (simp only [List.length_set]; done) | simp) ?_
        refine .reg' [0, 1, 5] [] ⟨[(0, (.rf 0 0 ((x1.set x3.toNat (⟨x2, (at_ x1 x3).f1, (at_ x1 x3).f2⟩ : S48)).length) 3 ((x1.set x3.toNat (⟨x2, (at_ x1 x3).f1, (at_ x1 x3).f2⟩ : S48)).length * 3))), (1, (I (wrap64 (x2 + 1)))), (5, (I x3))], [(0, ((x1.set x3.toNat (⟨x2, (at_ x1 x3).f1, (at_ x1 x3).f2⟩ : S48)).flatMap e48))], [], []⟩ [c_ 3366, c_ 3367, b_ 1, c_ 211, l_ 26, b_ 0, c_ 7] aln nocal ?_
        refine .reg' [0, 1, 5] [.no, .no, .no, .no, .no, .w .un ((x1.set x3.toNat (⟨x2, (wrap64 (x2 + 1)), (at_ x1 x3).f2⟩ : S48)).flatMap e48)] ⟨[(0, (.rf 0 0 ((x1.set x3.toNat (⟨x2, (at_ x1 x3).f1, (at_ x1 x3).f2⟩ : S48)).length) 3 ((x1.set x3.toNat (⟨x2, (at_ x1 x3).f1, (at_ x1 x3).f2⟩ : S48)).length * 3))), (1, (I (wrap64 (x2 + 1)))), (5, (I x3))], [(0, ((x1.set x3.toNat (⟨x2, (wrap64 (x2 + 1)), (at_ x1 x3).f2⟩ : S48)).flatMap e48))], [(0 : Int) ≤ x3 ∧ x3 < ((x1.set x3.toNat (⟨x2, (at_ x1 x3).f1, (at_ x1 x3).f2⟩ : S48)).length : Int), V.un = V.un, spl ((x1.set x3.toNat (⟨x2, (at_ x1 x3).f1, (at_ x1 x3).f2⟩ : S48)).flatMap e48) (0 + x3.toNat * 3 + 1) [(I (wrap64 (x2 + 1)))] = ((x1.set x3.toNat (⟨x2, (wrap64 (x2 + 1)), (at_ x1 x3).f2⟩ : S48)).flatMap e48), (x1.set x3.toNat (⟨x2, (at_ x1 x3).f1, (at_ x1 x3).f2⟩ : S48)).length * 3 = ((x1.set x3.toNat (⟨x2, (at_ x1 x3).f1, (at_ x1 x3).f2⟩ : S48)).flatMap e48).length ∧ 0 + x3.toNat * 3 + 1 + 1 ≤ ((x1.set x3.toNat (⟨x2, (at_ x1 x3).f1, (at_ x1 x3).f2⟩ : S48)).flatMap e48).length], []⟩ [c_ 6734, c_ 6735, b_ 1, c_ 211, l_ 26, b_ 0, c_ 7] (alc ⟨c2, (ls c1)⟩ (alc rfl (alc (st_row2 e48_ok 1 c2 c1 (Nat.le_of_ble_eq_true rfl) rfl) (alc (okA e48_ok c2 (ls c1) (by decide)) aln)))) nocal ?_
        refine .eqs (env2 := [(0, (.rf 0 0 ((x1.set x3.toNat (⟨x2, (wrap64 (x2 + 1)), (at_ x1 x3).f2⟩ : S48)).length) 3 ((x1.set x3.toNat (⟨x2, (wrap64 (x2 + 1)), (at_ x1 x3).f2⟩ : S48)).length * 3))), (1, (I (wrap64 (x2 + 1)))), (5, (I x3))]) (H2 := [(0, ((x1.set x3.toNat (⟨x2, (wrap64 (x2 + 1)), (at_ x1 x3).f2⟩ : S48)).flatMap e48))]) (by first | (simp only [List.length_set]; done) | simp) (by first | rfl | (simp only [List.length_set]; done) | simp) ?_
        refine .reg' [0, 1, 5] [] ⟨[(0, (.rf 0 0 ((x1.set x3.toNat (⟨x2, (wrap64 (x2 + 1)), (at_ x1 x3).f2⟩ : S48)).length) 3 ((x1.set x3.toNat (⟨x2, (wrap64 (x2 + 1)), (at_ x1 x3).f2⟩ : S48)).length * 3))), (1, (I (wrap64 ((wrap64 (x2 + 1)) + 1)))), (5, (I x3))], [(0, ((x1.set x3.toNat (⟨x2, (wrap64 (x2 + 1)), (at_ x1 x3).f2⟩ : S48)).flatMap e48))], [], []⟩ [c_ 13470, c_ 13471, b_ 1, c_ 211, l_ 26, b_ 0, c_ 7] aln nocal ?_
        refine .reg' [0, 1, 5] [.no, .no, .no, .no, .no, .w .un ((x1.set x3.toNat (⟨x2, (wrap64 (x2 + 1)), (wrap64 ((wrap64 (x2 + 1)) + 1))⟩ : S48)).flatMap e48)] ⟨[(0, (.rf 0 0 ((x1.set x3.toNat (⟨x2, (wrap64 (x2 + 1)), (at_ x1 x3).f2⟩ : S48)).length) 3 ((x1.set x3.toNat (⟨x2, (wrap64 (x2 + 1)), (at_ x1 x3).f2⟩ : S48)).length * 3))), (1, (I (wrap64 ((wrap64 (x2 + 1)) + 1)))), (5, (I x3))], [(0, ((x1.set x3.toNat (⟨x2, (wrap64 (x2 + 1)), (wrap64 ((wrap64 (x2 + 1)) + 1))⟩ : S48)).flatMap e48))], [(0 : Int) ≤ x3 ∧ x3 < ((x1.set x3.toNat (⟨x2, (wrap64 (x2 + 1)), (at_ x1 x3).f2⟩ : S48)).length : Int), V.un = V.un, spl ((x1.set x3.toNat (⟨x2, (wrap64 (x2 + 1)), (at_ x1 x3).f2⟩ : S48)).flatMap e48) (0 + x3.toNat * 3 + 2) [(I (wrap64 ((wrap64 (x2 + 1)) + 1)))] = ((x1.set x3.toNat (⟨x2, (wrap64 (x2 + 1)), (wrap64 ((wrap64 (x2 + 1)) + 1))⟩ : S48)).flatMap e48), (x1.set x3.toNat (⟨x2, (wrap64 (x2 + 1)), (at_ x1 x3).f2⟩ : S48)).length * 3 = ((x1.set x3.toNat (⟨x2, (wrap64 (x2 + 1)), (at_ x1 x3).f2⟩ : S48)).flatMap e48).length ∧ 0 + x3.toNat * 3 + 2 + 1 ≤ ((x1.set x3.toNat (⟨x2, (wrap64 (x2 + 1)), (at_ x1 x3).f2⟩ : S48)).flatMap e48).length], []⟩ [c_ 13471, b_ 1, c_ 211, l_ 26, b_ 0, c_ 7] (alc ⟨c2, (ls c1)⟩ (alc rfl (alc (st_row2 e48_ok 2 c2 c1 (Nat.le_of_ble_eq_true rfl) rfl) (alc (okA e48_ok c2 (ls c1) (by decide)) aln)))) nocal ?_
        refine .eqs (env2 := [(0, (.rf 0 0 ((x1.set x3.toNat (⟨x2, (wrap64 (x2 + 1)), (wrap64 ((wrap64 (x2 + 1)) + 1))⟩ : S48)).length) 3 ((x1.set x3.toNat (⟨x2, (wrap64 (x2 + 1)), (wrap64 ((wrap64 (x2 + 1)) + 1))⟩ : S48)).length * 3))), (1, (I (wrap64 ((wrap64 (x2 + 1)) + 1)))), (5, (I x3))]) (H2 := [(0, ((x1.set x3.toNat (⟨x2, (wrap64 (x2 + 1)), (wrap64 ((wrap64 (x2 + 1)) + 1))⟩ : S48)).flatMap e48))]) (by first | (simp only [List.length_set]; done) | simp) (by first | rfl | (simp only [List.length_set]; done) | simp) ?_
        refine .reg' [0, 1, 5] [] ⟨[(0, (.rf 0 0 ((x1.set x3.toNat (⟨x2, (wrap64 (x2 + 1)), (wrap64 ((wrap64 (x2 + 1)) + 1))⟩ : S48)).length) 3 ((x1.set x3.toNat (⟨x2, (wrap64 (x2 + 1)), (wrap64 ((wrap64 (x2 + 1)) + 1))⟩ : S48)).length * 3))), (1, (I (wrap64 ((wrap64 ((wrap64 (x2 + 1)) + 1)) + 1)))), (5, (I x3))], [(0, ((x1.set x3.toNat (⟨x2, (wrap64 (x2 + 1)), (wrap64 ((wrap64 (x2 + 1)) + 1))⟩ : S48)).flatMap e48))], [], []⟩ [c_ 211, l_ 26, b_ 0, c_ 7] aln nocal ?_
        refine .reg' [0, 1, 5] [] ⟨[(0, (.rf 0 0 ((x1.set x3.toNat (⟨x2, (wrap64 (x2 + 1)), (wrap64 ((wrap64 (x2 + 1)) + 1))⟩ : S48)).length) 3 ((x1.set x3.toNat (⟨x2, (wrap64 (x2 + 1)), (wrap64 ((wrap64 (x2 + 1)) + 1))⟩ : S48)).length * 3))), (1, (I (wrap64 ((wrap64 ((wrap64 (x2 + 1)) + 1)) + 1)))), (5, (I (wrap64 (x3 + 1))))], [(0, ((x1.set x3.toNat (⟨x2, (wrap64 (x2 + 1)), (wrap64 ((wrap64 (x2 + 1)) + 1))⟩ : S48)).flatMap e48))], [], []⟩ [l_ 26, b_ 0, c_ 7] aln nocal ?_
        exact ih0 (x1.set x3.toNat (⟨x2, (wrap64 (x2 + 1)), (wrap64 ((wrap64 (x2 + 1)) + 1))⟩ : S48)) (wrap64 ((wrap64 ((wrap64 (x2 + 1)) + 1)) + 1)) (wrap64 (x3 + 1)) _ h
      · rw [if_neg c2] at h
        cases h
    · rw [if_neg c1] at h
      refine .cond' (.tmp 9) false [c_ 14, c_ 15] (bF (dF c1)) ?_
      refine .reg' [4] [] ⟨[(4, (I x2))], [(0, (x1.flatMap e48))], [], []⟩ [c_ 15] aln nocal ?_
      have h := Option.some.inj h
      subst h
      exact .fin' [] [(0, 0)] (I x2) [] aln (shc 0 (rowF e48_ok _) shn) (.z .s)
theorem laws_markCallS.J (k : Nat) (a0 : (List S48)) (a1 : Int) (r : (Int × (List S48))) (h : laws_markCallS.f k a0 a1 = some r) : J prog (.call 42 [(.rf 0 0 a0.length 3 (a0.length * 3)), (I a1)] [(0, (a0.flatMap e48))] (I r.1) [(0, (r.2.flatMap e48))]) := by
  unfold laws_markCallS.f at h
  have ih0 := laws_markCallS.lab k
  refine .call' [c_ 2, c_ 3] ?_
  refine .reg' [0, 1] [] ⟨[(0, (.rf 0 0 a0.length 3 (a0.length * 3))), (1, (I a1))], [(0, (a0.flatMap e48))], [], []⟩ [c_ 12, c_ 13, c_ 7] aln nocal ?_
  refine .reg' [0, 1, 5] [] ⟨[(0, (.rf 0 0 a0.length 3 (a0.length * 3))), (1, (I a1)), (5, (I 0))], [(0, (a0.flatMap e48))], [], []⟩ [l_ 26, b_ 0, c_ 7] aln nocal ?_
  exact ih0 a0 a1 0 _ h
theorem laws_markCallS.lenl : ∀ k, (∀ (x1 : (List S48)) (x2 : Int) (x3 : Int) (r : (Int × (List S48))), laws_markCallS.l0 k x1 x2 x3 = some r → r.2.length = x1.length)
 | 0 => (by intro x1 x2 x3 r h; unfold laws_markCallS.l0 at h; cases h)
 | k + 1 => by
  have ih0 := laws_markCallS.lenl k
  · intro x1 x2 x3 r h
    unfold laws_markCallS.l0 at h
    by_cases c1 : x3 < (x1.length : Int)
    · rw [if_pos c1] at h
      by_cases c2 : 0 ≤ x3
      · rw [if_pos c2] at h
        have q := ih0 (x1.set x3.toNat (⟨x2, (wrap64 (x2 + 1)), (wrap64 ((wrap64 (x2 + 1)) + 1))⟩ : S48)) (wrap64 ((wrap64 ((wrap64 (x2 + 1)) + 1)) + 1)) (wrap64 (x3 + 1)) _ h
        first | exact q | (simp only [List.length_set] at q; exact q)
      · rw [if_neg c2] at h
        cases h
    · rw [if_neg c1] at h
      have h := Option.some.inj h
      subst h
      first | rfl | (simp only [List.length_set]; done) | exact ⟨by first | rfl | simp only [List.length_set]⟩
theorem laws_markCallS.len (k : Nat) (a0 : (List S48)) (a1 : Int) (r : (Int × (List S48))) (h : laws_markCallS.f k a0 a1 = some r) : r.2.length = a0.length := by
  unfold laws_markCallS.f at h
  have ih0 := laws_markCallS.lenl k
  have q := ih0 a0 a1 0 _ h
  first | exact q | (simp only [List.length_set] at q; exact q)
/-! laws_markTrip: function 16 -/
def laws_markTrip.f (k : Nat) (a0 : S28) (a1 : Int) : Option (Int × (List S48)) := ((laws_markCallS.f k a0.f1 a1).bind fun x1 => (some (x1.1, x1.2)))
end Go.Proofs.YtjlickinmkafbaaDoor.Fns
