/- The functions that the law FnExactBoard reaches, by the engine. Printed by a program of this seat. -/
import Derived.Test.YtoeedickghjdbaaE5
import Derived.Test.YtoeedickghjdbaaProg
import Derived.Test.YtoeedickghjdbaaFFnExactBoardx0
namespace Go.Proofs.Ytoeedickghjdbaa.Fns
open Go.Proofs.Try Go.Proofs.Ytoeedickghjdbaa.Eng Go.RowKit
set_option maxRecDepth 100000
set_option linter.unusedVariables false
set_option linter.unusedSimpArgs false
theorem spec_Board.lab : ∀ k, (∀ (a0 : (List S28)) (a1 : Int) (a2 : Int) (a3 : Int) (x3 : (List S58)) (x4 : Int) (r : (List S58)), spec_Board.l0 k a0 a1 a2 a3 x3 x4 = some r → J prog (.run 29 [] [l_ 122, b_ 0, c_ 31] [(0, (.sl true a0.length 2 (a0.flatMap (e28 true)))), (1, (I a1)), (2, (I a2)), (3, (I a3)), (9, (.rf 512 0 x3.length 2 (x3.length * 2))), (10, (I x4))] [(512, (x3.flatMap e58))] (.rf 512 0 r.length 2 (r.length * 2)) [(512, (r.flatMap e58))])) ∧ (∀ (a0 : (List S28)) (a1 : Int) (a2 : Int) (a3 : Int) (x3 : (List S58)) (x4 : Int) (x5 : S58) (x6 : Int) (r : (List S58)), spec_Board.l1 k a0 a1 a2 a3 x3 x4 x5 x6 = some r → J prog (.run 29 [] [l_ 31306, b_ 2, c_ 7827, b_ 1, c_ 979, l_ 122, b_ 0, c_ 31] [(0, (.sl true a0.length 2 (a0.flatMap (e28 true)))), (1, (I a1)), (2, (I a2)), (3, (I a3)), (9, (.rf 512 0 x3.length 2 (x3.length * 2))), (10, (I x4)), (11, (.pt 2049 0 2)), (12, (I x6))] [(512, (x3.flatMap e58)), (2049, [(I x5.f0), (I x5.f1)])] (.rf 512 0 r.length 2 (r.length * 2)) [(512, (r.flatMap e58))])) ∧ (∀ (a0 : (List S28)) (a1 : Int) (a2 : Int) (a3 : Int) (x3 : (List S58)) (x4 : Int) (x6 : Int) (x7 : S58) (x8 : Int) (r : (List S58)), spec_Board.l2 k a0 a1 a2 a3 x3 x4 x6 x7 x8 = some r → J prog (.run 29 [] [l_ 2003602, b_ 4, b_ 3, c_ 250451, l_ 31306, b_ 2, c_ 7827, b_ 1, c_ 979, l_ 122, b_ 0, c_ 31] [(0, (.sl true a0.length 2 (a0.flatMap (e28 true)))), (1, (I a1)), (2, (I a2)), (3, (I a3)), (9, (.rf 512 0 x3.length 2 (x3.length * 2))), (10, (I x4)), (11, (.pt 2049 0 2)), (12, (I x6)), (13, (I x8))] [(512, (x3.flatMap e58)), (2049, [(I x7.f0), (I x7.f1)])] (.rf 512 0 r.length 2 (r.length * 2)) [(512, (r.flatMap e58))]))
 | 0 => ⟨(by intro a0 a1 a2 a3 x3 x4 r h; unfold spec_Board.l0 at h; cases h), (by intro a0 a1 a2 a3 x3 x4 x5 x6 r h; unfold spec_Board.l1 at h; cases h), (by intro a0 a1 a2 a3 x3 x4 x6 x7 x8 r h; unfold spec_Board.l2 at h; cases h)⟩
 | k + 1 => by
  obtain ⟨ih0, ih1, ih2⟩ := spec_Board.lab k
  refine ⟨?_, ?_, ?_⟩
  · intro a0 a1 a2 a3 x3 x4 r h
    unfold spec_Board.l0 at h
    refine .loop' [c_ 976, c_ 977, c_ 489, l_ 122, b_ 0, c_ 31] ?_
    by_cases c3 : x4 < 576
    · rw [if_pos c3] at h
      refine .reg' [0, 1, 2, 3, 9, 10, 31] [.no, .no, .v (B true)] ⟨[(0, (.sl true a0.length 2 (a0.flatMap (e28 true)))), (1, (I a1)), (2, (I a2)), (3, (I a3)), (9, (.rf 512 0 x3.length 2 (x3.length * 2))), (10, (I x4)), (31, (B (decide ((x3.length : Int) < a3))))], [(512, (x3.flatMap e58))], [(B (decide (x4 < 576)) : V) = B true], []⟩ [c_ 977, c_ 489, l_ 122, b_ 0, c_ 31] (alc (bT (dT c3)) aln) nocal ?_
      by_cases c4 : (x3.length : Int) < a3
      · rw [if_pos c4] at h
        refine .cond' (.tmp 31) true [c_ 3912, c_ 3913, b_ 1, c_ 979, l_ 122, b_ 0, c_ 31] (bT (dT c4)) ?_
        refine .reg' [0, 1, 2, 3, 9, 10, 11] [] ⟨[(0, (.sl true a0.length 2 (a0.flatMap (e28 true)))), (1, (I a1)), (2, (I a2)), (3, (I a3)), (9, (.rf 512 0 x3.length 2 (x3.length * 2))), (10, (I x4)), (11, (.pt 2049 0 2))], [(512, (x3.flatMap e58)), (2049, [(I (-1)), (I 0)])], [2 = 2 ∧ 0 + 2 ≤ 2], []⟩ [c_ 15652, c_ 15653, c_ 7827, b_ 1, c_ 979, l_ 122, b_ 0, c_ 31] (alc ⟨rfl, by decide⟩ aln) nocal ?_
        refine .reg' [0, 1, 2, 3, 9, 10, 11, 12] [] ⟨[(0, (.sl true a0.length 2 (a0.flatMap (e28 true)))), (1, (I a1)), (2, (I a2)), (3, (I a3)), (9, (.rf 512 0 x3.length 2 (x3.length * 2))), (10, (I x4)), (11, (.pt 2049 0 2)), (12, (I 0))], [(512, (x3.flatMap e58)), (2049, [(I (-1)), (I 0)])], [], []⟩ [l_ 31306, b_ 2, c_ 7827, b_ 1, c_ 979, l_ 122, b_ 0, c_ 31] aln nocal ?_
        exact ih1 a0 a1 a2 a3 x3 x4 (⟨(-1), 0⟩ : S58) 0 _ h
      · rw [if_neg c4] at h
        refine .cond' (.tmp 31) false [c_ 62, c_ 63] (bF (dF c4)) ?_
        refine .reg' [8] [] ⟨[(8, (.rf 512 0 x3.length 2 (x3.length * 2)))], [(512, (x3.flatMap e58))], [], []⟩ [c_ 63] aln nocal ?_
        have h := Option.some.inj h
        subst h
        exact .fin' [] [(512, 512)] (.rf 512 0 x3.length 2 (x3.length * 2)) [] aln (shc 512 (rowF e58_ok _) shn) (.rf (memP_mem (p := (512, 512)) rfl))
    · rw [if_neg c3] at h
      refine .reg' [0, 1, 2, 3, 9, 10, 31] [.no, .no, .v (B false)] ⟨[(0, (.sl true a0.length 2 (a0.flatMap (e28 true)))), (1, (I a1)), (2, (I a2)), (3, (I a3)), (9, (.rf 512 0 x3.length 2 (x3.length * 2))), (10, (I x4)), (31, (B false))], [(512, (x3.flatMap e58))], [(B (decide (x4 < 576)) : V) = B false], []⟩ [c_ 977, c_ 489, l_ 122, b_ 0, c_ 31] (alc (bF (dF c3)) aln) nocal ?_
      refine .cond' (.tmp 31) false [c_ 62, c_ 63] (rfl) ?_
      refine .reg' [8] [] ⟨[(8, (.rf 512 0 x3.length 2 (x3.length * 2)))], [(512, (x3.flatMap e58))], [], []⟩ [c_ 63] aln nocal ?_
      have h := Option.some.inj h
      subst h
      exact .fin' [] [(512, 512)] (.rf 512 0 x3.length 2 (x3.length * 2)) [] aln (shc 512 (rowF e58_ok _) shn) (.rf (memP_mem (p := (512, 512)) rfl))
  · intro a0 a1 a2 a3 x3 x4 x5 x6 r h
    unfold spec_Board.l1 at h
    refine .loop' [c_ 250448, c_ 250449, c_ 125225, l_ 31306, b_ 2, c_ 7827, b_ 1, c_ 979, l_ 122, b_ 0, c_ 31] ?_
    refine .reg' [0, 1, 2, 3, 9, 10, 11, 12, 38] [] ⟨[(0, (.sl true a0.length 2 (a0.flatMap (e28 true)))), (1, (I a1)), (2, (I a2)), (3, (I a3)), (9, (.rf 512 0 x3.length 2 (x3.length * 2))), (10, (I x4)), (11, (.pt 2049 0 2)), (12, (I x6)), (38, (B (decide (x6 < (a0.length : Int)))))], [(512, (x3.flatMap e58)), (2049, [(I x5.f0), (I x5.f1)])], [], []⟩ [c_ 250449, c_ 125225, l_ 31306, b_ 2, c_ 7827, b_ 1, c_ 979, l_ 122, b_ 0, c_ 31] aln nocal ?_
    by_cases c5 : x6 < (a0.length : Int)
    · rw [if_pos c5] at h
      refine .cond' (.tmp 38) true [c_ 1001800, c_ 1001801, b_ 3, c_ 250451, l_ 31306, b_ 2, c_ 7827, b_ 1, c_ 979, l_ 122, b_ 0, c_ 31] (bT (dT c5)) ?_
      refine .reg' [0, 1, 2, 3, 9, 10, 11, 12, 13] [] ⟨[(0, (.sl true a0.length 2 (a0.flatMap (e28 true)))), (1, (I a1)), (2, (I a2)), (3, (I a3)), (9, (.rf 512 0 x3.length 2 (x3.length * 2))), (10, (I x4)), (11, (.pt 2049 0 2)), (12, (I x6)), (13, (I 0))], [(512, (x3.flatMap e58)), (2049, [(I x5.f0), (I x5.f1)])], [], []⟩ [l_ 2003602, b_ 4, b_ 3, c_ 250451, l_ 31306, b_ 2, c_ 7827, b_ 1, c_ 979, l_ 122, b_ 0, c_ 31] aln nocal ?_
      exact ih2 a0 a1 a2 a3 x3 x4 x6 x5 0 _ h
    · rw [if_neg c5] at h
      refine .cond' (.tmp 38) false [c_ 31308, c_ 31309, c_ 15655, b_ 1, c_ 979, l_ 122, b_ 0, c_ 31] (bF (dF c5)) ?_
      refine .reg' [0, 1, 2, 3, 9, 10, 11, 100] [] ⟨[(0, (.sl true a0.length 2 (a0.flatMap (e28 true)))), (1, (I a1)), (2, (I a2)), (3, (I a3)), (9, (.rf 512 0 x3.length 2 (x3.length * 2))), (10, (I x4)), (11, (.pt 2049 0 2)), (100, (B (decide (x5.f0 < 0))))], [(512, (x3.flatMap e58)), (2049, [(I x5.f0), (I x5.f1)])], [2 = 2 ∧ 0 + 1 ≤ 2], []⟩ [c_ 31309, c_ 15655, b_ 1, c_ 979, l_ 122, b_ 0, c_ 31] (alc ⟨rfl, by decide⟩ aln) nocal ?_
      by_cases c20 : x5.f0 < 0
      · rw [if_pos c20] at h
        refine .cond' (.tmp 100) true [c_ 62, c_ 63] (bT (dT c20)) ?_
        refine .reg' [8] [] ⟨[(8, (.rf 512 0 x3.length 2 (x3.length * 2)))], [(512, (x3.flatMap e58)), (2049, [(I x5.f0), (I x5.f1)])], [], []⟩ [c_ 63] aln nocal ?_
        have h := Option.some.inj h
        subst h
        exact .fin' [] [(512, 512)] (.rf 512 0 x3.length 2 (x3.length * 2)) [] aln (shc 512 (rowF e58_ok _) shn) (.rf (memP_mem (p := (512, 512)) rfl))
      · rw [if_neg c20] at h
        refine .cond' (.tmp 100) false [c_ 15655, b_ 1, c_ 979, l_ 122, b_ 0, c_ 31] (bF (dF c20)) ?_
        by_cases c21 : (x3.length + ([x5] : List S58).length) * 16 ≤ 70368744177664
        · rw [if_pos c21] at h
          refine .reg' [0, 1, 2, 3, 9, 10] [.no, .no, .no, .w (.rf 512 0 ((x3 ++ ([x5] : List S58)).length) 2 ((x3 ++ ([x5] : List S58)).length * 2)) ((x3 ++ ([x5] : List S58)).flatMap e58)] ⟨[(0, (.sl true a0.length 2 (a0.flatMap (e28 true)))), (1, (I a1)), (2, (I a2)), (3, (I a3)), (9, (.rf 512 0 ((x3 ++ ([x5] : List S58)).length) 2 ((x3 ++ ([x5] : List S58)).length * 2))), (10, (I x4))], [(512, ((x3 ++ ([x5] : List S58)).flatMap e58)), (2049, [(I x5.f0), (I x5.f1)]), (5122, (([x5] : List S58).flatMap e58))], [2 = 2 ∧ 0 + 2 ≤ 2, V.rf 512 0 (x3.length + ([x5] : List S58).length) 2 (x3.length * 2 + ([x5] : List S58).length * 2) = (.rf 512 0 ((x3 ++ ([x5] : List S58)).length) 2 ((x3 ++ ([x5] : List S58)).length * 2)), x3.flatMap e58 ++ (((([x5] : List S58).flatMap e58).drop 0).take (([x5] : List S58).length * 2)) = ((x3 ++ ([x5] : List S58)).flatMap e58), (([x5] : List S58).length * 2 = (([x5] : List S58).flatMap e58).length ∧ 0 + ([x5] : List S58).length * 2 ≤ (([x5] : List S58).flatMap e58).length) ∧ x3.length * 2 = (x3.flatMap e58).length ∧ x3.length * 2 = (x3.flatMap e58).length ∧ (x3.length + ([x5] : List S58).length) * 16 ≤ 70368744177664], []⟩ [c_ 979, l_ 122, b_ 0, c_ 31] (alc ⟨rfl, by decide⟩ (alc (apV rfl) (alc (apR e58_ok rfl) (alc (apO e58_ok rfl c21 rfl) aln)))) nocal ?_
          refine .reg' [0, 1, 2, 3, 9, 10] [] ⟨[(0, (.sl true a0.length 2 (a0.flatMap (e28 true)))), (1, (I a1)), (2, (I a2)), (3, (I a3)), (9, (.rf 512 0 ((x3 ++ ([x5] : List S58)).length) 2 ((x3 ++ ([x5] : List S58)).length * 2))), (10, (I (wrap64 (x4 + 1))))], [(512, ((x3 ++ ([x5] : List S58)).flatMap e58)), (2049, [(I x5.f0), (I x5.f1)]), (5122, (([x5] : List S58).flatMap e58))], [], []⟩ [l_ 122, b_ 0, c_ 31] aln nocal ?_
          refine .wk' [] [(512, 512)] [(0, (.sl true a0.length 2 (a0.flatMap (e28 true)))), (1, (I a1)), (2, (I a2)), (3, (I a3)), (9, (.rf 512 0 ((x3 ++ ([x5] : List S58)).length) 2 ((x3 ++ ([x5] : List S58)).length * 2))), (10, (I (wrap64 (x4 + 1))))] [(512, ((x3 ++ ([x5] : List S58)).flatMap e58))] (shc 512 (rowF e58_ok _) shn) (enc_ (.z (frz_sl (e28_ok true) (fun h => h))) (enc_ (.z .s) (enc_ (.z .s) (enc_ (.z .s) (enc_ (.rf (memP_mem (p := (512, 512)) rfl)) (enc_ (.z .s) enn)))))) ?_
          exact ih0 a0 a1 a2 a3 (x3 ++ ([x5] : List S58)) (wrap64 (x4 + 1)) _ h
        · rw [if_neg c21] at h
          cases h
  · intro a0 a1 a2 a3 x3 x4 x6 x7 x8 r h
    unfold spec_Board.l2 at h
    refine .loop' [c_ 16028816, c_ 16028817, c_ 8014409, l_ 2003602, b_ 4, b_ 3, c_ 250451, l_ 31306, b_ 2, c_ 7827, b_ 1, c_ 979, l_ 122, b_ 0, c_ 31] ?_
    by_cases c6 : 0 ≤ x6
    · rw [if_pos c6] at h
      by_cases c7 : x6 < (a0.length : Int)
      · rw [if_pos c7] at h
        refine .reg' [0, 1, 2, 3, 9, 10, 11, 12, 13, 49] [.no, .no, .no, .no, .no, .no, .v (.sl true (at_ a0 x6).f1.length 3 ((at_ a0 x6).f1.flatMap e54))] ⟨[(0, (.sl true a0.length 2 (a0.flatMap (e28 true)))), (1, (I a1)), (2, (I a2)), (3, (I a3)), (9, (.rf 512 0 x3.length 2 (x3.length * 2))), (10, (I x4)), (11, (.pt 2049 0 2)), (12, (I x6)), (13, (I x8)), (49, (B (decide ((wrap64 (x8 + 1)) < ((at_ a0 x6).f1.length : Int)))))], [(512, (x3.flatMap e58)), (2049, [(I x7.f0), (I x7.f1)])], [(0 : Int) ≤ x6 ∧ x6 < (a0.length : Int), rdC prog 27 (((a0.flatMap (e28 true)).drop (x6.toNat * 2)).drop 1) = (.sl true (at_ a0 x6).f1.length 3 ((at_ a0 x6).f1.flatMap e54)), 1 ≤ (((a0.flatMap (e28 true)).drop (x6.toNat * 2)).drop 1).length], []⟩ [c_ 16028817, c_ 8014409, l_ 2003602, b_ 4, b_ 3, c_ 250451, l_ 31306, b_ 2, c_ 7827, b_ 1, c_ 979, l_ 122, b_ 0, c_ 31] (alc ⟨c6, c7⟩ (alc (ldC (e28_ok true) 1 (by decide) rfl c6 c7) (alc (okIj (e28_ok true) c6 c7 (by decide)) aln))) nocal ?_
        by_cases c8 : (wrap64 (x8 + 1)) < ((at_ a0 x6).f1.length : Int)
        · rw [if_pos c8] at h
          refine .cond' (.tmp 49) true [c_ 64115272, c_ 64115273, b_ 5, c_ 16028819, l_ 2003602, b_ 4, b_ 3, c_ 250451, l_ 31306, b_ 2, c_ 7827, b_ 1, c_ 979, l_ 122, b_ 0, c_ 31] (bT (dT c8)) ?_
          by_cases c9 : 0 ≤ x8
          · rw [if_pos c9] at h
            by_cases c10 : x8 < ((at_ a0 x6).f1.length : Int)
            · rw [if_pos c10] at h
              refine .reg' [0, 1, 2, 3, 9, 10, 11, 12, 13, 14] [.no, .no, .no, .no, .v (.sl true (at_ a0 x6).f1.length 3 ((at_ a0 x6).f1.flatMap e54)), .no, .no, .v (.ag [(I (at_ (at_ a0 x6).f1 x8).f0), (I (at_ (at_ a0 x6).f1 x8).f1), (I (at_ (at_ a0 x6).f1 x8).f2)])] ⟨[(0, (.sl true a0.length 2 (a0.flatMap (e28 true)))), (1, (I a1)), (2, (I a2)), (3, (I a3)), (9, (.rf 512 0 x3.length 2 (x3.length * 2))), (10, (I x4)), (11, (.pt 2049 0 2)), (12, (I x6)), (13, (I x8)), (14, (.pt 3848 0 3))], [(512, (x3.flatMap e58)), (2049, [(I x7.f0), (I x7.f1)]), (3848, [(I (at_ (at_ a0 x6).f1 x8).f0), (I (at_ (at_ a0 x6).f1 x8).f1), (I (at_ (at_ a0 x6).f1 x8).f2)])], [(0 : Int) ≤ x6 ∧ x6 < (a0.length : Int), rdC prog 27 (((a0.flatMap (e28 true)).drop (x6.toNat * 2)).drop 1) = (.sl true (at_ a0 x6).f1.length 3 ((at_ a0 x6).f1.flatMap e54)), 1 ≤ (((a0.flatMap (e28 true)).drop (x6.toNat * 2)).drop 1).length, (0 : Int) ≤ x8 ∧ x8 < ((at_ a0 x6).f1.length : Int), rdC prog 55 (((at_ a0 x6).f1.flatMap e54).drop (x8.toNat * 3)) = (.ag [(I (at_ (at_ a0 x6).f1 x8).f0), (I (at_ (at_ a0 x6).f1 x8).f1), (I (at_ (at_ a0 x6).f1 x8).f2)]), 3 ≤ (((at_ a0 x6).f1.flatMap e54).drop (x8.toNat * 3)).length, 3 = 3 ∧ 0 + 3 ≤ 3], []⟩ [c_ 256461092, c_ 256461093, c_ 128230547, b_ 5, c_ 16028819, l_ 2003602, b_ 4, b_ 3, c_ 250451, l_ 31306, b_ 2, c_ 7827, b_ 1, c_ 979, l_ 122, b_ 0, c_ 31] (alc ⟨c6, c7⟩ (alc (ldC (e28_ok true) 1 (by decide) rfl c6 c7) (alc (okIj (e28_ok true) c6 c7 (by decide)) (alc ⟨c9, c10⟩ (alc (ldA e54_ok rfl rfl c9 c10) (alc (okI e54_ok c9 c10 (by decide)) (alc ⟨rfl, by decide⟩ aln))))))) nocal ?_
              by_cases c11 : (at_ (at_ a0 x6).f1 x8).f0 = a1
              · rw [if_pos c11] at h
                by_cases c12 : (at_ (at_ a0 x6).f1 x8).f2 < a2
                · rw [if_pos c12] at h
                  refine .reg' [0, 1, 2, 3, 9, 10, 11, 12, 13, 14, 75] [.no, .no, .no, .no, .v (B false), .no, .no, .no, .no, .no, .v (B true)] ⟨[(0, (.sl true a0.length 2 (a0.flatMap (e28 true)))), (1, (I a1)), (2, (I a2)), (3, (I a3)), (9, (.rf 512 0 x3.length 2 (x3.length * 2))), (10, (I x4)), (11, (.pt 2049 0 2)), (12, (I x6)), (13, (I x8)), (14, (.pt 3848 0 3)), (75, (B true))], [(512, (x3.flatMap e58)), (2049, [(I x7.f0), (I x7.f1)]), (3848, [(I (at_ (at_ a0 x6).f1 x8).f0), (I (at_ (at_ a0 x6).f1 x8).f1), (I (at_ (at_ a0 x6).f1 x8).f2)])], [3 = 3 ∧ 0 + 1 ≤ 3, (B (!((at_ (at_ a0 x6).f1 x8).f0 == a1)) : V) = B false, 3 = 3 ∧ 2 + 1 ≤ 3, (B (decide ((at_ (at_ a0 x6).f1 x8).f2 < a2)) : V) = B true], []⟩ [c_ 256461093, c_ 128230547, b_ 5, c_ 16028819, l_ 2003602, b_ 4, b_ 3, c_ 250451, l_ 31306, b_ 2, c_ 7827, b_ 1, c_ 979, l_ 122, b_ 0, c_ 31] (alc ⟨rfl, by decide⟩ (alc (bF (nF (qT c11))) (alc ⟨rfl, by decide⟩ (alc (bT (dT c12)) aln)))) nocal ?_
                  refine .cond' (.tmp 75) true [c_ 16028819, l_ 2003602, b_ 4, b_ 3, c_ 250451, l_ 31306, b_ 2, c_ 7827, b_ 1, c_ 979, l_ 122, b_ 0, c_ 31] (rfl) ?_
                  refine .reg' [0, 1, 2, 3, 9, 10, 11, 12, 13] [] ⟨[(0, (.sl true a0.length 2 (a0.flatMap (e28 true)))), (1, (I a1)), (2, (I a2)), (3, (I a3)), (9, (.rf 512 0 x3.length 2 (x3.length * 2))), (10, (I x4)), (11, (.pt 2049 0 2)), (12, (I x6)), (13, (I (wrap64 (x8 + 1))))], [(512, (x3.flatMap e58)), (2049, [(I x7.f0), (I x7.f1)]), (3848, [(I (at_ (at_ a0 x6).f1 x8).f0), (I (at_ (at_ a0 x6).f1 x8).f1), (I (at_ (at_ a0 x6).f1 x8).f2)])], [], []⟩ [l_ 2003602, b_ 4, b_ 3, c_ 250451, l_ 31306, b_ 2, c_ 7827, b_ 1, c_ 979, l_ 122, b_ 0, c_ 31] aln nocal ?_
                  refine .wk' [] [(512, 512), (2049, 2049)] [(0, (.sl true a0.length 2 (a0.flatMap (e28 true)))), (1, (I a1)), (2, (I a2)), (3, (I a3)), (9, (.rf 512 0 x3.length 2 (x3.length * 2))), (10, (I x4)), (11, (.pt 2049 0 2)), (12, (I x6)), (13, (I (wrap64 (x8 + 1))))] [(512, (x3.flatMap e58)), (2049, [(I x7.f0), (I x7.f1)])] (shc 512 (rowF e58_ok _) (shc 2049 (a2c (.z .s) (a2c (.z .s) a2n)) shn)) (enc_ (.z (frz_sl (e28_ok true) (fun h => h))) (enc_ (.z .s) (enc_ (.z .s) (enc_ (.z .s) (enc_ (.rf (memP_mem (p := (512, 512)) rfl)) (enc_ (.z .s) (enc_ (.pt (memP_mem (p := (2049, 2049)) rfl)) (enc_ (.z .s) (enc_ (.z .s) enn))))))))) ?_
                  exact ih2 a0 a1 a2 a3 x3 x4 x6 x7 (wrap64 (x8 + 1)) _ h
                · rw [if_neg c12] at h
                  obtain ⟨x9, hx9, h⟩ := Option.bind_eq_some_iff.mp h
                  refine .reg' [0, 1, 2, 3, 9, 10, 11, 12, 13, 14, 75] [.no, .no, .no, .no, .v (B false), .no, .no, .no, .no, .no, .v (B false), .no, .no, .no, .c ⟨51, [(.sl true x3.length 2 (x3.flatMap e58)), (I x6), (I x8)], [], (B x9), [], [512], [], [], (B x9), []⟩] ⟨[(0, (.sl true a0.length 2 (a0.flatMap (e28 true)))), (1, (I a1)), (2, (I a2)), (3, (I a3)), (9, (.rf 512 0 x3.length 2 (x3.length * 2))), (10, (I x4)), (11, (.pt 2049 0 2)), (12, (I x6)), (13, (I x8)), (14, (.pt 3848 0 3)), (75, (B x9))], [(512, (x3.flatMap e58)), (2049, [(I x7.f0), (I x7.f1)]), (3848, [(I (at_ (at_ a0 x6).f1 x8).f0), (I (at_ (at_ a0 x6).f1 x8).f1), (I (at_ (at_ a0 x6).f1 x8).f2)])], [3 = 3 ∧ 0 + 1 ≤ 3, (B (!((at_ (at_ a0 x6).f1 x8).f0 == a1)) : V) = B false, 3 = 3 ∧ 2 + 1 ≤ 3, (B (decide ((at_ (at_ a0 x6).f1 x8).f2 < a2)) : V) = B false, COK (hget [(512, (x3.flatMap e58)), (2049, [(I x7.f0), (I x7.f1)]), (3848, [(I (at_ (at_ a0 x6).f1 x8).f0), (I (at_ (at_ a0 x6).f1 x8).f1), (I (at_ (at_ a0 x6).f1 x8).f2)])]) [(.rf 512 0 x3.length 2 (x3.length * 2)), (I x6), (I x8)] ⟨51, [(.sl true x3.length 2 (x3.flatMap e58)), (I x6), (I x8)], [], (B x9), [], [512], [], [], (B x9), []⟩], [⟨51, [(.sl true x3.length 2 (x3.flatMap e58)), (I x6), (I x8)], [], (B x9), [], [512], [], [], (B x9), []⟩]⟩ [c_ 256461093, c_ 128230547, b_ 5, c_ 16028819, l_ 2003602, b_ 4, b_ 3, c_ 250451, l_ 31306, b_ 2, c_ 7827, b_ 1, c_ 979, l_ 122, b_ 0, c_ 31] (alc ⟨rfl, by decide⟩ (alc (bF (nF (qT c11))) (alc ⟨rfl, by decide⟩ (alc (bF (dF c12)) (alc (cok0 false (a2c (.z (frz_rf (k := 512) e58_ok (by simp) rfl rfl (row_len e58_ok _).symm)) (a2c (.z .s) (a2c (.z .s) a2n))) (.z .s) (fun h => absurd h (by decide))) aln))))) (acal (spec_l08Told.J k x3 x6 x8 _ hx9) nocal) ?_
                  by_cases c13 : x9 = true
                  · rw [if_pos c13] at h
                    refine .cond' (.tmp 75) true [c_ 16028819, l_ 2003602, b_ 4, b_ 3, c_ 250451, l_ 31306, b_ 2, c_ 7827, b_ 1, c_ 979, l_ 122, b_ 0, c_ 31] (bT c13) ?_
                    refine .reg' [0, 1, 2, 3, 9, 10, 11, 12, 13] [] ⟨[(0, (.sl true a0.length 2 (a0.flatMap (e28 true)))), (1, (I a1)), (2, (I a2)), (3, (I a3)), (9, (.rf 512 0 x3.length 2 (x3.length * 2))), (10, (I x4)), (11, (.pt 2049 0 2)), (12, (I x6)), (13, (I (wrap64 (x8 + 1))))], [(512, (x3.flatMap e58)), (2049, [(I x7.f0), (I x7.f1)]), (3848, [(I (at_ (at_ a0 x6).f1 x8).f0), (I (at_ (at_ a0 x6).f1 x8).f1), (I (at_ (at_ a0 x6).f1 x8).f2)])], [], []⟩ [l_ 2003602, b_ 4, b_ 3, c_ 250451, l_ 31306, b_ 2, c_ 7827, b_ 1, c_ 979, l_ 122, b_ 0, c_ 31] aln nocal ?_
                    refine .wk' [] [(512, 512), (2049, 2049)] [(0, (.sl true a0.length 2 (a0.flatMap (e28 true)))), (1, (I a1)), (2, (I a2)), (3, (I a3)), (9, (.rf 512 0 x3.length 2 (x3.length * 2))), (10, (I x4)), (11, (.pt 2049 0 2)), (12, (I x6)), (13, (I (wrap64 (x8 + 1))))] [(512, (x3.flatMap e58)), (2049, [(I x7.f0), (I x7.f1)])] (shc 512 (rowF e58_ok _) (shc 2049 (a2c (.z .s) (a2c (.z .s) a2n)) shn)) (enc_ (.z (frz_sl (e28_ok true) (fun h => h))) (enc_ (.z .s) (enc_ (.z .s) (enc_ (.z .s) (enc_ (.rf (memP_mem (p := (512, 512)) rfl)) (enc_ (.z .s) (enc_ (.pt (memP_mem (p := (2049, 2049)) rfl)) (enc_ (.z .s) (enc_ (.z .s) enn))))))))) ?_
                    exact ih2 a0 a1 a2 a3 x3 x4 x6 x7 (wrap64 (x8 + 1)) _ h
                  · rw [if_neg c13] at h
                    refine .cond' (.tmp 75) false [c_ 256461094, c_ 256461095, b_ 5, c_ 16028819, l_ 2003602, b_ 4, b_ 3, c_ 250451, l_ 31306, b_ 2, c_ 7827, b_ 1, c_ 979, l_ 122, b_ 0, c_ 31] (bF (vF c13)) ?_
                    by_cases c14 : x7.f0 < 0
                    · rw [if_pos c14] at h
                      refine .reg' [0, 1, 2, 3, 9, 10, 11, 12, 13, 94] [.no, .no, .no, .v (B true)] ⟨[(0, (.sl true a0.length 2 (a0.flatMap (e28 true)))), (1, (I a1)), (2, (I a2)), (3, (I a3)), (9, (.rf 512 0 x3.length 2 (x3.length * 2))), (10, (I x4)), (11, (.pt 2049 0 2)), (12, (I x6)), (13, (I x8)), (94, (B true))], [(512, (x3.flatMap e58)), (2049, [(I x7.f0), (I x7.f1)]), (3848, [(I (at_ (at_ a0 x6).f1 x8).f0), (I (at_ (at_ a0 x6).f1 x8).f1), (I (at_ (at_ a0 x6).f1 x8).f2)])], [2 = 2 ∧ 0 + 1 ≤ 2, (B (decide (x7.f0 < 0)) : V) = B true], []⟩ [c_ 256461095, b_ 5, c_ 16028819, l_ 2003602, b_ 4, b_ 3, c_ 250451, l_ 31306, b_ 2, c_ 7827, b_ 1, c_ 979, l_ 122, b_ 0, c_ 31] (alc ⟨rfl, by decide⟩ (alc (bT (dT c14)) aln)) nocal ?_
                      refine .cond' (.tmp 94) true [c_ 512922190, b_ 5, c_ 16028819, l_ 2003602, b_ 4, b_ 3, c_ 250451, l_ 31306, b_ 2, c_ 7827, b_ 1, c_ 979, l_ 122, b_ 0, c_ 31] (rfl) ?_
                      refine .reg' [0, 1, 2, 3, 9, 10, 11, 12, 13] [] ⟨[(0, (.sl true a0.length 2 (a0.flatMap (e28 true)))), (1, (I a1)), (2, (I a2)), (3, (I a3)), (9, (.rf 512 0 x3.length 2 (x3.length * 2))), (10, (I x4)), (11, (.pt 2049 0 2)), (12, (I x6)), (13, (I x8))], [(512, (x3.flatMap e58)), (2049, [(I x6), (I x8)]), (3848, [(I (at_ (at_ a0 x6).f1 x8).f0), (I (at_ (at_ a0 x6).f1 x8).f1), (I (at_ (at_ a0 x6).f1 x8).f2)])], [2 = 2 ∧ 0 + 2 ≤ 2], []⟩ [c_ 16028819, l_ 2003602, b_ 4, b_ 3, c_ 250451, l_ 31306, b_ 2, c_ 7827, b_ 1, c_ 979, l_ 122, b_ 0, c_ 31] (alc ⟨rfl, by decide⟩ aln) nocal ?_
                      refine .reg' [0, 1, 2, 3, 9, 10, 11, 12, 13] [] ⟨[(0, (.sl true a0.length 2 (a0.flatMap (e28 true)))), (1, (I a1)), (2, (I a2)), (3, (I a3)), (9, (.rf 512 0 x3.length 2 (x3.length * 2))), (10, (I x4)), (11, (.pt 2049 0 2)), (12, (I x6)), (13, (I (wrap64 (x8 + 1))))], [(512, (x3.flatMap e58)), (2049, [(I x6), (I x8)]), (3848, [(I (at_ (at_ a0 x6).f1 x8).f0), (I (at_ (at_ a0 x6).f1 x8).f1), (I (at_ (at_ a0 x6).f1 x8).f2)])], [], []⟩ [l_ 2003602, b_ 4, b_ 3, c_ 250451, l_ 31306, b_ 2, c_ 7827, b_ 1, c_ 979, l_ 122, b_ 0, c_ 31] aln nocal ?_
                      refine .wk' [] [(512, 512), (2049, 2049)] [(0, (.sl true a0.length 2 (a0.flatMap (e28 true)))), (1, (I a1)), (2, (I a2)), (3, (I a3)), (9, (.rf 512 0 x3.length 2 (x3.length * 2))), (10, (I x4)), (11, (.pt 2049 0 2)), (12, (I x6)), (13, (I (wrap64 (x8 + 1))))] [(512, (x3.flatMap e58)), (2049, [(I x6), (I x8)])] (shc 512 (rowF e58_ok _) (shc 2049 (a2c (.z .s) (a2c (.z .s) a2n)) shn)) (enc_ (.z (frz_sl (e28_ok true) (fun h => h))) (enc_ (.z .s) (enc_ (.z .s) (enc_ (.z .s) (enc_ (.rf (memP_mem (p := (512, 512)) rfl)) (enc_ (.z .s) (enc_ (.pt (memP_mem (p := (2049, 2049)) rfl)) (enc_ (.z .s) (enc_ (.z .s) enn))))))))) ?_
                      exact ih2 a0 a1 a2 a3 x3 x4 x6 (⟨x6, x8⟩ : S58) (wrap64 (x8 + 1)) _ h
                    · rw [if_neg c14] at h
                      by_cases c15 : 0 ≤ x7.f0
                      · rw [if_pos c15] at h
                        by_cases c16 : x7.f0 < (a0.length : Int)
                        · rw [if_pos c16] at h
                          by_cases c17 : 0 ≤ x7.f1
                          · rw [if_pos c17] at h
                            by_cases c18 : x7.f1 < ((at_ a0 x7.f0).f1.length : Int)
                            · rw [if_pos c18] at h
                              refine .reg' [0, 1, 2, 3, 9, 10, 11, 12, 13, 94] [.no, .no, .no, .v (B false), .no, .no, .no, .no, .no, .no, .no, .v (.sl true (at_ a0 x7.f0).f1.length 3 ((at_ a0 x7.f0).f1.flatMap e54)), .no, .no, .no, .no, .v (I (at_ (at_ a0 x7.f0).f1 x7.f1).f2)] ⟨[(0, (.sl true a0.length 2 (a0.flatMap (e28 true)))), (1, (I a1)), (2, (I a2)), (3, (I a3)), (9, (.rf 512 0 x3.length 2 (x3.length * 2))), (10, (I x4)), (11, (.pt 2049 0 2)), (12, (I x6)), (13, (I x8)), (94, (B (decide ((at_ (at_ a0 x6).f1 x8).f2 < (at_ (at_ a0 x7.f0).f1 x7.f1).f2))))], [(512, (x3.flatMap e58)), (2049, [(I x7.f0), (I x7.f1)]), (3848, [(I (at_ (at_ a0 x6).f1 x8).f0), (I (at_ (at_ a0 x6).f1 x8).f1), (I (at_ (at_ a0 x6).f1 x8).f2)])], [2 = 2 ∧ 0 + 1 ≤ 2, (B (decide (x7.f0 < 0)) : V) = B false, 3 = 3 ∧ 2 + 1 ≤ 3, 2 = 2 ∧ 0 + 1 ≤ 2, (0 : Int) ≤ x7.f0 ∧ x7.f0 < (a0.length : Int), rdC prog 27 (((a0.flatMap (e28 true)).drop (x7.f0.toNat * 2)).drop 1) = (.sl true (at_ a0 x7.f0).f1.length 3 ((at_ a0 x7.f0).f1.flatMap e54)), 1 ≤ (((a0.flatMap (e28 true)).drop (x7.f0.toNat * 2)).drop 1).length, 2 = 2 ∧ 1 + 1 ≤ 2, (0 : Int) ≤ x7.f1 ∧ x7.f1 < ((at_ a0 x7.f0).f1.length : Int), rdC prog 3 ((((at_ a0 x7.f0).f1.flatMap e54).drop (x7.f1.toNat * 3)).drop 2) = (I (at_ (at_ a0 x7.f0).f1 x7.f1).f2), 1 ≤ ((((at_ a0 x7.f0).f1.flatMap e54).drop (x7.f1.toNat * 3)).drop 2).length], []⟩ [c_ 256461095, b_ 5, c_ 16028819, l_ 2003602, b_ 4, b_ 3, c_ 250451, l_ 31306, b_ 2, c_ 7827, b_ 1, c_ 979, l_ 122, b_ 0, c_ 31] (alc ⟨rfl, by decide⟩ (alc (bF (dF c14)) (alc ⟨rfl, by decide⟩ (alc ⟨rfl, by decide⟩ (alc ⟨c15, c16⟩ (alc (ldC (e28_ok true) 1 (by decide) rfl c15 c16) (alc (okIj (e28_ok true) c15 c16 (by decide)) (alc ⟨rfl, by decide⟩ (alc ⟨c17, c18⟩ (alc (ldC e54_ok 2 (by decide) rfl c17 c18) (alc (okIj e54_ok c17 c18 (by decide)) aln))))))))))) nocal ?_
                              by_cases c19 : (at_ (at_ a0 x6).f1 x8).f2 < (at_ (at_ a0 x7.f0).f1 x7.f1).f2
                              · rw [if_pos c19] at h
                                refine .cond' (.tmp 94) true [c_ 512922190, b_ 5, c_ 16028819, l_ 2003602, b_ 4, b_ 3, c_ 250451, l_ 31306, b_ 2, c_ 7827, b_ 1, c_ 979, l_ 122, b_ 0, c_ 31] (bT (dT c19)) ?_
                                refine .reg' [0, 1, 2, 3, 9, 10, 11, 12, 13] [] ⟨[(0, (.sl true a0.length 2 (a0.flatMap (e28 true)))), (1, (I a1)), (2, (I a2)), (3, (I a3)), (9, (.rf 512 0 x3.length 2 (x3.length * 2))), (10, (I x4)), (11, (.pt 2049 0 2)), (12, (I x6)), (13, (I x8))], [(512, (x3.flatMap e58)), (2049, [(I x6), (I x8)]), (3848, [(I (at_ (at_ a0 x6).f1 x8).f0), (I (at_ (at_ a0 x6).f1 x8).f1), (I (at_ (at_ a0 x6).f1 x8).f2)])], [2 = 2 ∧ 0 + 2 ≤ 2], []⟩ [c_ 16028819, l_ 2003602, b_ 4, b_ 3, c_ 250451, l_ 31306, b_ 2, c_ 7827, b_ 1, c_ 979, l_ 122, b_ 0, c_ 31] (alc ⟨rfl, by decide⟩ aln) nocal ?_
                                refine .reg' [0, 1, 2, 3, 9, 10, 11, 12, 13] [] ⟨[(0, (.sl true a0.length 2 (a0.flatMap (e28 true)))), (1, (I a1)), (2, (I a2)), (3, (I a3)), (9, (.rf 512 0 x3.length 2 (x3.length * 2))), (10, (I x4)), (11, (.pt 2049 0 2)), (12, (I x6)), (13, (I (wrap64 (x8 + 1))))], [(512, (x3.flatMap e58)), (2049, [(I x6), (I x8)]), (3848, [(I (at_ (at_ a0 x6).f1 x8).f0), (I (at_ (at_ a0 x6).f1 x8).f1), (I (at_ (at_ a0 x6).f1 x8).f2)])], [], []⟩ [l_ 2003602, b_ 4, b_ 3, c_ 250451, l_ 31306, b_ 2, c_ 7827, b_ 1, c_ 979, l_ 122, b_ 0, c_ 31] aln nocal ?_
                                refine .wk' [] [(512, 512), (2049, 2049)] [(0, (.sl true a0.length 2 (a0.flatMap (e28 true)))), (1, (I a1)), (2, (I a2)), (3, (I a3)), (9, (.rf 512 0 x3.length 2 (x3.length * 2))), (10, (I x4)), (11, (.pt 2049 0 2)), (12, (I x6)), (13, (I (wrap64 (x8 + 1))))] [(512, (x3.flatMap e58)), (2049, [(I x6), (I x8)])] (shc 512 (rowF e58_ok _) (shc 2049 (a2c (.z .s) (a2c (.z .s) a2n)) shn)) (enc_ (.z (frz_sl (e28_ok true) (fun h => h))) (enc_ (.z .s) (enc_ (.z .s) (enc_ (.z .s) (enc_ (.rf (memP_mem (p := (512, 512)) rfl)) (enc_ (.z .s) (enc_ (.pt (memP_mem (p := (2049, 2049)) rfl)) (enc_ (.z .s) (enc_ (.z .s) enn))))))))) ?_
                                exact ih2 a0 a1 a2 a3 x3 x4 x6 (⟨x6, x8⟩ : S58) (wrap64 (x8 + 1)) _ h
                              · rw [if_neg c19] at h
                                refine .cond' (.tmp 94) false [c_ 16028819, l_ 2003602, b_ 4, b_ 3, c_ 250451, l_ 31306, b_ 2, c_ 7827, b_ 1, c_ 979, l_ 122, b_ 0, c_ 31] (bF (dF c19)) ?_
                                refine .reg' [0, 1, 2, 3, 9, 10, 11, 12, 13] [] ⟨[(0, (.sl true a0.length 2 (a0.flatMap (e28 true)))), (1, (I a1)), (2, (I a2)), (3, (I a3)), (9, (.rf 512 0 x3.length 2 (x3.length * 2))), (10, (I x4)), (11, (.pt 2049 0 2)), (12, (I x6)), (13, (I (wrap64 (x8 + 1))))], [(512, (x3.flatMap e58)), (2049, [(I x7.f0), (I x7.f1)]), (3848, [(I (at_ (at_ a0 x6).f1 x8).f0), (I (at_ (at_ a0 x6).f1 x8).f1), (I (at_ (at_ a0 x6).f1 x8).f2)])], [], []⟩ [l_ 2003602, b_ 4, b_ 3, c_ 250451, l_ 31306, b_ 2, c_ 7827, b_ 1, c_ 979, l_ 122, b_ 0, c_ 31] aln nocal ?_
                                refine .wk' [] [(512, 512), (2049, 2049)] [(0, (.sl true a0.length 2 (a0.flatMap (e28 true)))), (1, (I a1)), (2, (I a2)), (3, (I a3)), (9, (.rf 512 0 x3.length 2 (x3.length * 2))), (10, (I x4)), (11, (.pt 2049 0 2)), (12, (I x6)), (13, (I (wrap64 (x8 + 1))))] [(512, (x3.flatMap e58)), (2049, [(I x7.f0), (I x7.f1)])] (shc 512 (rowF e58_ok _) (shc 2049 (a2c (.z .s) (a2c (.z .s) a2n)) shn)) (enc_ (.z (frz_sl (e28_ok true) (fun h => h))) (enc_ (.z .s) (enc_ (.z .s) (enc_ (.z .s) (enc_ (.rf (memP_mem (p := (512, 512)) rfl)) (enc_ (.z .s) (enc_ (.pt (memP_mem (p := (2049, 2049)) rfl)) (enc_ (.z .s) (enc_ (.z .s) enn))))))))) ?_
                                exact ih2 a0 a1 a2 a3 x3 x4 x6 x7 (wrap64 (x8 + 1)) _ h
                            · rw [if_neg c18] at h
                              cases h
                          · rw [if_neg c17] at h
                            cases h
                        · rw [if_neg c16] at h
                          cases h
                      · rw [if_neg c15] at h
                        cases h
              · rw [if_neg c11] at h
                refine .reg' [0, 1, 2, 3, 9, 10, 11, 12, 13, 14, 75] [.no, .no, .no, .no, .v (B true)] ⟨[(0, (.sl true a0.length 2 (a0.flatMap (e28 true)))), (1, (I a1)), (2, (I a2)), (3, (I a3)), (9, (.rf 512 0 x3.length 2 (x3.length * 2))), (10, (I x4)), (11, (.pt 2049 0 2)), (12, (I x6)), (13, (I x8)), (14, (.pt 3848 0 3)), (75, (B true))], [(512, (x3.flatMap e58)), (2049, [(I x7.f0), (I x7.f1)]), (3848, [(I (at_ (at_ a0 x6).f1 x8).f0), (I (at_ (at_ a0 x6).f1 x8).f1), (I (at_ (at_ a0 x6).f1 x8).f2)])], [3 = 3 ∧ 0 + 1 ≤ 3, (B (!((at_ (at_ a0 x6).f1 x8).f0 == a1)) : V) = B true], []⟩ [c_ 256461093, c_ 128230547, b_ 5, c_ 16028819, l_ 2003602, b_ 4, b_ 3, c_ 250451, l_ 31306, b_ 2, c_ 7827, b_ 1, c_ 979, l_ 122, b_ 0, c_ 31] (alc ⟨rfl, by decide⟩ (alc (bT (nT (qF c11))) aln)) nocal ?_
                refine .cond' (.tmp 75) true [c_ 16028819, l_ 2003602, b_ 4, b_ 3, c_ 250451, l_ 31306, b_ 2, c_ 7827, b_ 1, c_ 979, l_ 122, b_ 0, c_ 31] (rfl) ?_
                refine .reg' [0, 1, 2, 3, 9, 10, 11, 12, 13] [] ⟨[(0, (.sl true a0.length 2 (a0.flatMap (e28 true)))), (1, (I a1)), (2, (I a2)), (3, (I a3)), (9, (.rf 512 0 x3.length 2 (x3.length * 2))), (10, (I x4)), (11, (.pt 2049 0 2)), (12, (I x6)), (13, (I (wrap64 (x8 + 1))))], [(512, (x3.flatMap e58)), (2049, [(I x7.f0), (I x7.f1)]), (3848, [(I (at_ (at_ a0 x6).f1 x8).f0), (I (at_ (at_ a0 x6).f1 x8).f1), (I (at_ (at_ a0 x6).f1 x8).f2)])], [], []⟩ [l_ 2003602, b_ 4, b_ 3, c_ 250451, l_ 31306, b_ 2, c_ 7827, b_ 1, c_ 979, l_ 122, b_ 0, c_ 31] aln nocal ?_
                refine .wk' [] [(512, 512), (2049, 2049)] [(0, (.sl true a0.length 2 (a0.flatMap (e28 true)))), (1, (I a1)), (2, (I a2)), (3, (I a3)), (9, (.rf 512 0 x3.length 2 (x3.length * 2))), (10, (I x4)), (11, (.pt 2049 0 2)), (12, (I x6)), (13, (I (wrap64 (x8 + 1))))] [(512, (x3.flatMap e58)), (2049, [(I x7.f0), (I x7.f1)])] (shc 512 (rowF e58_ok _) (shc 2049 (a2c (.z .s) (a2c (.z .s) a2n)) shn)) (enc_ (.z (frz_sl (e28_ok true) (fun h => h))) (enc_ (.z .s) (enc_ (.z .s) (enc_ (.z .s) (enc_ (.rf (memP_mem (p := (512, 512)) rfl)) (enc_ (.z .s) (enc_ (.pt (memP_mem (p := (2049, 2049)) rfl)) (enc_ (.z .s) (enc_ (.z .s) enn))))))))) ?_
                exact ih2 a0 a1 a2 a3 x3 x4 x6 x7 (wrap64 (x8 + 1)) _ h
            · rw [if_neg c10] at h
              cases h
          · rw [if_neg c9] at h
            cases h
        · rw [if_neg c8] at h
          refine .cond' (.tmp 49) false [c_ 250451, l_ 31306, b_ 2, c_ 7827, b_ 1, c_ 979, l_ 122, b_ 0, c_ 31] (bF (dF c8)) ?_
          refine .reg' [0, 1, 2, 3, 9, 10, 11, 12] [] ⟨[(0, (.sl true a0.length 2 (a0.flatMap (e28 true)))), (1, (I a1)), (2, (I a2)), (3, (I a3)), (9, (.rf 512 0 x3.length 2 (x3.length * 2))), (10, (I x4)), (11, (.pt 2049 0 2)), (12, (I (wrap64 (x6 + 1))))], [(512, (x3.flatMap e58)), (2049, [(I x7.f0), (I x7.f1)])], [], []⟩ [l_ 31306, b_ 2, c_ 7827, b_ 1, c_ 979, l_ 122, b_ 0, c_ 31] aln nocal ?_
          exact ih1 a0 a1 a2 a3 x3 x4 x7 (wrap64 (x6 + 1)) _ h
      · rw [if_neg c7] at h
        cases h
    · rw [if_neg c6] at h
      cases h
theorem spec_Board.J (k : Nat) (a0 : (List S28)) (a1 : Int) (a2 : Int) (a3 : Int) (r : (List S58)) (h : spec_Board.f k a0 a1 a2 a3 = some r) : J prog (.call 29 [(.sl true a0.length 2 (a0.flatMap (e28 true))), (I a1), (I a2), (I a3)] [] (.rf 512 0 r.length 2 (r.length * 2)) [(512, (r.flatMap e58))]) := by
  unfold spec_Board.f at h
  obtain ⟨ih0, ih1, ih2⟩ := spec_Board.lab k
  refine .call' [c_ 2, c_ 3] ?_
  refine .reg' [0, 1, 2, 3] [] ⟨[(0, (.sl true a0.length 2 (a0.flatMap (e28 true)))), (1, (I a1)), (2, (I a2)), (3, (I a3))], [], [], []⟩ [c_ 6, c_ 7] aln nocal ?_
  refine .reg' [0, 1, 2, 3, 9] [] ⟨[(0, (.sl true a0.length 2 (a0.flatMap (e28 true)))), (1, (I a1)), (2, (I a2)), (3, (I a3)), (9, (.rf 512 0 (([] : List S58).length) 2 (([] : List S58).length * 2)))], [(512, (([] : List S58).flatMap e58))], [], []⟩ [c_ 28, c_ 29, c_ 15] aln nocal ?_
  obtain ⟨x1, hx1, h⟩ := Option.bind_eq_some_iff.mp h
  by_cases c1 : x1 = true
  · rw [if_pos c1] at h
    obtain ⟨x2, hx2, h⟩ := Option.bind_eq_some_iff.mp h
    refine .reg' [0, 1, 2, 3, 9, 23] [.no, .c ⟨19, [(.sl true a0.length 2 (a0.flatMap (e28 true)))], [], (B x1), [], [], [], [], (B x1), []⟩, .no, .v (B false), .no, .c ⟨41, [(I a3), (I 0), (I 50)], [], (B x2), [], [], [], [], (B x2), []⟩] ⟨[(0, (.sl true a0.length 2 (a0.flatMap (e28 true)))), (1, (I a1)), (2, (I a2)), (3, (I a3)), (9, (.rf 512 0 (([] : List S58).length) 2 (([] : List S58).length * 2))), (23, (B (!x2)))], [(512, (([] : List S58).flatMap e58))], [COK (hget [(512, (([] : List S58).flatMap e58))]) [(.sl true a0.length 2 (a0.flatMap (e28 true)))] ⟨19, [(.sl true a0.length 2 (a0.flatMap (e28 true)))], [], (B x1), [], [], [], [], (B x1), []⟩, (B (!x1) : V) = B false, COK (hget [(512, (([] : List S58).flatMap e58))]) [(I a3), (I 0), (I 50)] ⟨41, [(I a3), (I 0), (I 50)], [], (B x2), [], [], [], [], (B x2), []⟩], [⟨19, [(.sl true a0.length 2 (a0.flatMap (e28 true)))], [], (B x1), [], [], [], [], (B x1), []⟩, ⟨41, [(I a3), (I 0), (I 50)], [], (B x2), [], [], [], [], (B x2), []⟩]⟩ [c_ 29, c_ 15] (alc (cok0 false (a2c (.z (frz_sl (e28_ok true) (fun h => h))) a2n) (.z .s) (fun h => absurd h (by decide))) (alc (bF (nF c1)) (alc (cok0 false (a2c (.z .s) (a2c (.z .s) (a2c (.z .s) a2n))) (.z .s) (fun h => absurd h (by decide))) aln))) (acal (spec_TableOk.J k a0 _ hx1) (acal (spec_l01In.J a3 0 50 _ hx2) nocal)) ?_
    by_cases c2 : x2 = true
    · rw [if_pos c2] at h
      refine .cond' (.tmp 23) false [c_ 60, c_ 61, c_ 31] (bF (nF c2)) ?_
      refine .reg' [0, 1, 2, 3, 9, 10] [] ⟨[(0, (.sl true a0.length 2 (a0.flatMap (e28 true)))), (1, (I a1)), (2, (I a2)), (3, (I a3)), (9, (.rf 512 0 (([] : List S58).length) 2 (([] : List S58).length * 2))), (10, (I 0))], [(512, (([] : List S58).flatMap e58))], [], []⟩ [l_ 122, b_ 0, c_ 31] aln nocal ?_
      exact ih0 a0 a1 a2 a3 ([] : List S58) 0 _ h
    · rw [if_neg c2] at h
      refine .cond' (.tmp 23) true [c_ 116, c_ 117, c_ 15] (bT (nT (vF c2))) ?_
      refine .reg' [8] [] ⟨[(8, nilS)], [(512, (([] : List S58).flatMap e58))], [], []⟩ [c_ 117, c_ 15] aln nocal ?_
      have h := Option.some.inj h
      subst h
      refine .nl' 513 ?_
      exact .fin' [] [(513, 512)] nilS [] aln (shc 513 (rowF e58_ok _) shn) (.nl (memP_mem (p := (513, 512)) rfl) rfl)
  · rw [if_neg c1] at h
    refine .reg' [0, 1, 2, 3, 9, 23] [.no, .c ⟨19, [(.sl true a0.length 2 (a0.flatMap (e28 true)))], [], (B x1), [], [], [], [], (B x1), []⟩, .no, .v (B true)] ⟨[(0, (.sl true a0.length 2 (a0.flatMap (e28 true)))), (1, (I a1)), (2, (I a2)), (3, (I a3)), (9, (.rf 512 0 (([] : List S58).length) 2 (([] : List S58).length * 2))), (23, (B true))], [(512, (([] : List S58).flatMap e58))], [COK (hget [(512, (([] : List S58).flatMap e58))]) [(.sl true a0.length 2 (a0.flatMap (e28 true)))] ⟨19, [(.sl true a0.length 2 (a0.flatMap (e28 true)))], [], (B x1), [], [], [], [], (B x1), []⟩, (B (!x1) : V) = B true], [⟨19, [(.sl true a0.length 2 (a0.flatMap (e28 true)))], [], (B x1), [], [], [], [], (B x1), []⟩]⟩ [c_ 29, c_ 15] (alc (cok0 false (a2c (.z (frz_sl (e28_ok true) (fun h => h))) a2n) (.z .s) (fun h => absurd h (by decide))) (alc (bT (nT (vF c1))) aln)) (acal (spec_TableOk.J k a0 _ hx1) nocal) ?_
    refine .cond' (.tmp 23) true [c_ 116, c_ 117, c_ 15] (rfl) ?_
    refine .reg' [8] [] ⟨[(8, nilS)], [(512, (([] : List S58).flatMap e58))], [], []⟩ [c_ 117, c_ 15] aln nocal ?_
    have h := Option.some.inj h
    subst h
    refine .nl' 513 ?_
    exact .fin' [] [(513, 512)] nilS [] aln (shc 513 (rowF e58_ok _) shn) (.nl (memP_mem (p := (513, 512)) rfl) rfl)
/-! impl_nameOk: function 43 -/
def impl_nameOk.l0 : Nat → ByteArray → Int → Option Bool
 | 0, _, _ => none
 | k + 1, a0, x1 => (if x1 < (a0.size : Int) then (if 0 ≤ x1 then (if (bt a0 x1) < 97 then (if (bt a0 x1) < 48 then (some false) else (if (bt a0 x1) > 57 then (some false) else (impl_nameOk.l0 k a0 (wrap64 (x1 + 1))))) else (if (bt a0 x1) > 122 then (if (bt a0 x1) < 48 then (some false) else (if (bt a0 x1) > 57 then (some false) else (impl_nameOk.l0 k a0 (wrap64 (x1 + 1))))) else (impl_nameOk.l0 k a0 (wrap64 (x1 + 1))))) else none) else (some true))
def impl_nameOk.f (k : Nat) (a0 : ByteArray) : Option Bool := (if (a0.size : Int) < 1 then (some false) else (if (a0.size : Int) > 12 then (some false) else (impl_nameOk.l0 k a0 0)))
theorem impl_nameOk.lab : ∀ k, (∀ (a0 : ByteArray) (x1 : Int) (r : Bool), impl_nameOk.l0 k a0 x1 = some r → J prog (.run 43 [] [l_ 58, b_ 0, c_ 15] [(0, (S a0)), (3, (I x1))] [] (B r) []))
 | 0 => (by intro a0 x1 r h; unfold impl_nameOk.l0 at h; cases h)
 | k + 1 => by
  have ih0 := impl_nameOk.lab k
  · intro a0 x1 r h
    unfold impl_nameOk.l0 at h
    refine .loop' [c_ 464, c_ 465, c_ 233, l_ 58, b_ 0, c_ 15] ?_
    refine .reg' [0, 3, 15] [] ⟨[(0, (S a0)), (3, (I x1)), (15, (B (decide (x1 < (a0.size : Int)))))], [], [], []⟩ [c_ 465, c_ 233, l_ 58, b_ 0, c_ 15] aln nocal ?_
    by_cases c3 : x1 < (a0.size : Int)
    · rw [if_pos c3] at h
      refine .cond' (.tmp 15) true [c_ 1864, c_ 1865, b_ 1, c_ 467, l_ 58, b_ 0, c_ 15] (bT (dT c3)) ?_
      by_cases c4 : 0 ≤ x1
      · rw [if_pos c4] at h
        by_cases c5 : (bt a0 x1) < 97
        · rw [if_pos c5] at h
          by_cases c6 : (bt a0 x1) < 48
          · rw [if_pos c6] at h
            refine .reg' [0, 3, 39] [.no, .no, .no, .no, .v (B true), .no, .no, .no, .no, .no, .no, .no, .no, .no, .no, .v (B true)] ⟨[(0, (S a0)), (3, (I x1)), (39, (B true))], [], [(0 : Int) ≤ x1 ∧ x1 < (a0.size : Int), (B (decide ((bt a0 x1) < 97)) : V) = B true, (0 : Int) ≤ x1 ∧ x1 < (a0.size : Int), (B (decide ((bt a0 x1) < 48)) : V) = B true], []⟩ [c_ 1865, b_ 1, c_ 467, l_ 58, b_ 0, c_ 15] (alc ⟨c4, c3⟩ (alc (bT (dT c5)) (alc ⟨c4, c3⟩ (alc (bT (dT c6)) aln)))) nocal ?_
            refine .cond' (.tmp 39) true [c_ 7460, c_ 7461, b_ 1, c_ 467, l_ 58, b_ 0, c_ 15] (rfl) ?_
            refine .reg' [2] [] ⟨[(2, (B false))], [], [], []⟩ [c_ 7461, b_ 1, c_ 467, l_ 58, b_ 0, c_ 15] aln nocal ?_
            have h := Option.some.inj h
            subst h
            exact .fin0 [] (B false) [] aln (.z .s)
          · rw [if_neg c6] at h
            refine .reg' [0, 3, 39] [.no, .no, .no, .no, .v (B true), .no, .no, .no, .no, .no, .no, .no, .no, .no, .no, .v (B false)] ⟨[(0, (S a0)), (3, (I x1)), (39, (B (decide ((bt a0 x1) > 57))))], [], [(0 : Int) ≤ x1 ∧ x1 < (a0.size : Int), (B (decide ((bt a0 x1) < 97)) : V) = B true, (0 : Int) ≤ x1 ∧ x1 < (a0.size : Int), (B (decide ((bt a0 x1) < 48)) : V) = B false, (0 : Int) ≤ x1 ∧ x1 < (a0.size : Int)], []⟩ [c_ 1865, b_ 1, c_ 467, l_ 58, b_ 0, c_ 15] (alc ⟨c4, c3⟩ (alc (bT (dT c5)) (alc ⟨c4, c3⟩ (alc (bF (dF c6)) (alc ⟨c4, c3⟩ aln))))) nocal ?_
            by_cases c7 : (bt a0 x1) > 57
            · rw [if_pos c7] at h
              refine .cond' (.tmp 39) true [c_ 7460, c_ 7461, b_ 1, c_ 467, l_ 58, b_ 0, c_ 15] (bT (dT c7)) ?_
              refine .reg' [2] [] ⟨[(2, (B false))], [], [], []⟩ [c_ 7461, b_ 1, c_ 467, l_ 58, b_ 0, c_ 15] aln nocal ?_
              have h := Option.some.inj h
              subst h
              exact .fin0 [] (B false) [] aln (.z .s)
            · rw [if_neg c7] at h
              refine .cond' (.tmp 39) false [c_ 467, l_ 58, b_ 0, c_ 15] (bF (dF c7)) ?_
              refine .reg' [0, 3] [] ⟨[(0, (S a0)), (3, (I (wrap64 (x1 + 1))))], [], [], []⟩ [l_ 58, b_ 0, c_ 15] aln nocal ?_
              exact ih0 a0 (wrap64 (x1 + 1)) _ h
        · rw [if_neg c5] at h
          by_cases c8 : (bt a0 x1) > 122
          · rw [if_pos c8] at h
            by_cases c9 : (bt a0 x1) < 48
            · rw [if_pos c9] at h
              refine .reg' [0, 3, 39] [.no, .no, .no, .no, .v (B false), .no, .no, .no, .no, .no, .v (B true), .no, .no, .no, .no, .v (B true)] ⟨[(0, (S a0)), (3, (I x1)), (39, (B true))], [], [(0 : Int) ≤ x1 ∧ x1 < (a0.size : Int), (B (decide ((bt a0 x1) < 97)) : V) = B false, (0 : Int) ≤ x1 ∧ x1 < (a0.size : Int), (B (decide ((bt a0 x1) > 122)) : V) = B true, (0 : Int) ≤ x1 ∧ x1 < (a0.size : Int), (B (decide ((bt a0 x1) < 48)) : V) = B true], []⟩ [c_ 1865, b_ 1, c_ 467, l_ 58, b_ 0, c_ 15] (alc ⟨c4, c3⟩ (alc (bF (dF c5)) (alc ⟨c4, c3⟩ (alc (bT (dT c8)) (alc ⟨c4, c3⟩ (alc (bT (dT c9)) aln)))))) nocal ?_
              refine .cond' (.tmp 39) true [c_ 7460, c_ 7461, b_ 1, c_ 467, l_ 58, b_ 0, c_ 15] (rfl) ?_
              refine .reg' [2] [] ⟨[(2, (B false))], [], [], []⟩ [c_ 7461, b_ 1, c_ 467, l_ 58, b_ 0, c_ 15] aln nocal ?_
              have h := Option.some.inj h
              subst h
              exact .fin0 [] (B false) [] aln (.z .s)
            · rw [if_neg c9] at h
              refine .reg' [0, 3, 39] [.no, .no, .no, .no, .v (B false), .no, .no, .no, .no, .no, .v (B true), .no, .no, .no, .no, .v (B false)] ⟨[(0, (S a0)), (3, (I x1)), (39, (B (decide ((bt a0 x1) > 57))))], [], [(0 : Int) ≤ x1 ∧ x1 < (a0.size : Int), (B (decide ((bt a0 x1) < 97)) : V) = B false, (0 : Int) ≤ x1 ∧ x1 < (a0.size : Int), (B (decide ((bt a0 x1) > 122)) : V) = B true, (0 : Int) ≤ x1 ∧ x1 < (a0.size : Int), (B (decide ((bt a0 x1) < 48)) : V) = B false, (0 : Int) ≤ x1 ∧ x1 < (a0.size : Int)], []⟩ [c_ 1865, b_ 1, c_ 467, l_ 58, b_ 0, c_ 15] (alc ⟨c4, c3⟩ (alc (bF (dF c5)) (alc ⟨c4, c3⟩ (alc (bT (dT c8)) (alc ⟨c4, c3⟩ (alc (bF (dF c9)) (alc ⟨c4, c3⟩ aln))))))) nocal ?_
              by_cases c10 : (bt a0 x1) > 57
              · rw [if_pos c10] at h
                refine .cond' (.tmp 39) true [c_ 7460, c_ 7461, b_ 1, c_ 467, l_ 58, b_ 0, c_ 15] (bT (dT c10)) ?_
                refine .reg' [2] [] ⟨[(2, (B false))], [], [], []⟩ [c_ 7461, b_ 1, c_ 467, l_ 58, b_ 0, c_ 15] aln nocal ?_
                have h := Option.some.inj h
                subst h
                exact .fin0 [] (B false) [] aln (.z .s)
              · rw [if_neg c10] at h
                refine .cond' (.tmp 39) false [c_ 467, l_ 58, b_ 0, c_ 15] (bF (dF c10)) ?_
                refine .reg' [0, 3] [] ⟨[(0, (S a0)), (3, (I (wrap64 (x1 + 1))))], [], [], []⟩ [l_ 58, b_ 0, c_ 15] aln nocal ?_
                exact ih0 a0 (wrap64 (x1 + 1)) _ h
          · rw [if_neg c8] at h
            refine .reg' [0, 3, 39] [.no, .no, .no, .no, .v (B false), .no, .no, .no, .no, .no, .v (B false)] ⟨[(0, (S a0)), (3, (I x1)), (39, (B false))], [], [(0 : Int) ≤ x1 ∧ x1 < (a0.size : Int), (B (decide ((bt a0 x1) < 97)) : V) = B false, (0 : Int) ≤ x1 ∧ x1 < (a0.size : Int), (B (decide ((bt a0 x1) > 122)) : V) = B false], []⟩ [c_ 1865, b_ 1, c_ 467, l_ 58, b_ 0, c_ 15] (alc ⟨c4, c3⟩ (alc (bF (dF c5)) (alc ⟨c4, c3⟩ (alc (bF (dF c8)) aln)))) nocal ?_
            refine .cond' (.tmp 39) false [c_ 467, l_ 58, b_ 0, c_ 15] (rfl) ?_
            refine .reg' [0, 3] [] ⟨[(0, (S a0)), (3, (I (wrap64 (x1 + 1))))], [], [], []⟩ [l_ 58, b_ 0, c_ 15] aln nocal ?_
            exact ih0 a0 (wrap64 (x1 + 1)) _ h
      · rw [if_neg c4] at h
        cases h
    · rw [if_neg c3] at h
      refine .cond' (.tmp 15) false [c_ 30, c_ 31] (bF (dF c3)) ?_
      refine .reg' [2] [] ⟨[(2, (B true))], [], [], []⟩ [c_ 31] aln nocal ?_
      have h := Option.some.inj h
      subst h
      exact .fin0 [] (B true) [] aln (.z .s)
theorem impl_nameOk.J (k : Nat) (a0 : ByteArray) (r : Bool) (h : impl_nameOk.f k a0 = some r) : J prog (.call 43 [(S a0)] [] (B r) []) := by
  unfold impl_nameOk.f at h
  have ih0 := impl_nameOk.lab k
  refine .call' [c_ 2, c_ 3] ?_
  refine .reg' [0] [] ⟨[(0, (S a0))], [], [], []⟩ [c_ 12, c_ 13, c_ 7] aln nocal ?_
  by_cases c1 : (a0.size : Int) < 1
  · rw [if_pos c1] at h
    refine .reg' [0, 11] [.no, .no, .no, .v (B true)] ⟨[(0, (S a0)), (11, (B true))], [], [(B (decide ((a0.size : Int) < 1)) : V) = B true], []⟩ [c_ 13, c_ 7] (alc (bT (dT c1)) aln) nocal ?_
    refine .cond' (.tmp 11) true [c_ 52, c_ 53, c_ 7] (rfl) ?_
    refine .reg' [2] [] ⟨[(2, (B false))], [], [], []⟩ [c_ 53, c_ 7] aln nocal ?_
    have h := Option.some.inj h
    subst h
    exact .fin0 [] (B false) [] aln (.z .s)
  · rw [if_neg c1] at h
    refine .reg' [0, 11] [.no, .no, .no, .v (B false)] ⟨[(0, (S a0)), (11, (B (decide ((a0.size : Int) > 12))))], [], [(B (decide ((a0.size : Int) < 1)) : V) = B false], []⟩ [c_ 13, c_ 7] (alc (bF (dF c1)) aln) nocal ?_
    by_cases c2 : (a0.size : Int) > 12
    · rw [if_pos c2] at h
      refine .cond' (.tmp 11) true [c_ 52, c_ 53, c_ 7] (bT (dT c2)) ?_
      refine .reg' [2] [] ⟨[(2, (B false))], [], [], []⟩ [c_ 53, c_ 7] aln nocal ?_
      have h := Option.some.inj h
      subst h
      exact .fin0 [] (B false) [] aln (.z .s)
    · rw [if_neg c2] at h
      refine .cond' (.tmp 11) false [c_ 28, c_ 29, c_ 15] (bF (dF c2)) ?_
      refine .reg' [0, 3] [] ⟨[(0, (S a0)), (3, (I 0))], [], [], []⟩ [l_ 58, b_ 0, c_ 15] aln nocal ?_
      exact ih0 a0 0 _ h
/-! impl_between: function 44 -/
def impl_between.f (a0 : Int) (a1 : Int) (a2 : Int) : Option Bool := (if a0 ≥ a1 then (some (decide (a0 ≤ a2))) else (some false))
theorem impl_between.J (a0 : Int) (a1 : Int) (a2 : Int) (r : Bool) (h : impl_between.f a0 a1 a2 = some r) : J prog (.call 44 [(I a0), (I a1), (I a2)] [] (B r) []) := by
  unfold impl_between.f at h
  refine .call' [c_ 2, c_ 3] ?_
  refine .reg' [0, 1, 2] [] ⟨[(0, (I a0)), (1, (I a1)), (2, (I a2))], [], [], []⟩ [c_ 6, c_ 7] aln nocal ?_
  by_cases c1 : a0 ≥ a1
  · rw [if_pos c1] at h
    refine .reg' [6] [.no, .no, .no, .v (B true)] ⟨[(6, (B (decide (a0 ≤ a2))))], [], [(B (decide (a0 ≥ a1)) : V) = B true], []⟩ [c_ 7] (alc (bT (dT c1)) aln) nocal ?_
    have h := Option.some.inj h
    subst h
    exact .fin0 [] (B (decide (a0 ≤ a2))) [] aln (.z .s)
  · rw [if_neg c1] at h
    refine .reg' [6] [.no, .no, .no, .v (B false)] ⟨[(6, (B false))], [], [(B (decide (a0 ≥ a1)) : V) = B false], []⟩ [c_ 7] (alc (bF (dF c1)) aln) nocal ?_
    have h := Option.some.inj h
    subst h
    exact .fin0 [] (B false) [] aln (.z .s)
/-! impl_isMinute: function 45 -/
def impl_isMinute.f (a0 : Int) : Option Bool := ((impl_between.f a0 0 100000).bind fun x1 => (some x1))
theorem impl_isMinute.J (a0 : Int) (r : Bool) (h : impl_isMinute.f a0 = some r) : J prog (.call 45 [(I a0)] [] (B r) []) := by
  unfold impl_isMinute.f at h
  refine .call' [c_ 2, c_ 3] ?_
  refine .reg' [0] [] ⟨[(0, (I a0))], [], [], []⟩ [c_ 6, c_ 7] aln nocal ?_
  obtain ⟨x1, hx1, h⟩ := Option.bind_eq_some_iff.mp h
  refine .reg' [2] [.no, .c ⟨44, [(I a0), (I 0), (I 100000)], [], (B x1), [], [], [], [], (B x1), []⟩] ⟨[(2, (B x1))], [], [COK (hget []) [(I a0), (I 0), (I 100000)] ⟨44, [(I a0), (I 0), (I 100000)], [], (B x1), [], [], [], [], (B x1), []⟩], [⟨44, [(I a0), (I 0), (I 100000)], [], (B x1), [], [], [], [], (B x1), []⟩]⟩ [c_ 7] (alc (cok0 false (a2c (.z .s) (a2c (.z .s) (a2c (.z .s) a2n))) (.z .s) (fun h => absurd h (by decide))) aln) (acal (impl_between.J a0 0 100000 _ hx1) nocal) ?_
  have h := Option.some.inj h
  subst h
  exact .fin0 [] (B x1) [] aln (.z .s)
/-! impl_TripOk: function 14 -/
def impl_TripOk.l0 : Nat → S28 → Int → Option Bool
 | 0, _, _ => none
 | k + 1, a0, x3 => (if x3 < (a0.f1.length : Int) then (if 0 ≤ x3 then ((impl_between.f ((at_ a0.f1 x3).f0) 0 29).bind fun x4 => (if x4 = true then ((impl_isMinute.f ((at_ a0.f1 x3).f1)).bind fun x5 => (if x5 = true then ((impl_isMinute.f ((at_ a0.f1 x3).f2)).bind fun x6 => (if x6 = true then (if (at_ a0.f1 x3).f1 > (at_ a0.f1 x3).f2 then (some false) else (if x3 > 0 then (if 0 ≤ (wrap64 (x3 - 1)) then (if (wrap64 (x3 - 1)) < (a0.f1.length : Int) then (if (at_ a0.f1 x3).f1 ≤ (at_ a0.f1 (wrap64 (x3 - 1))).f2 then (some false) else (if (at_ a0.f1 x3).f0 = (at_ a0.f1 (wrap64 (x3 - 1))).f0 then (some false) else (impl_TripOk.l0 k a0 (wrap64 (x3 + 1))))) else none) else none) else (impl_TripOk.l0 k a0 (wrap64 (x3 + 1))))) else (some false))) else (some false))) else (some false))) else none) else (some true))
def impl_TripOk.f (k : Nat) (a0 : S28) : Option Bool := ((impl_nameOk.f k a0.f0).bind fun x1 => (if x1 = true then ((impl_between.f (a0.f1.length : Int) 2 12).bind fun x2 => (if x2 = true then (impl_TripOk.l0 k a0 0) else (some false))) else (some false)))
theorem impl_TripOk.lab : ∀ k, (∀ (a0 : S28) (x3 : Int) (r : Bool), impl_TripOk.l0 k a0 x3 = some r → J prog (.run 14 [] [l_ 58, b_ 0, c_ 15] [(1, (.pt 256 0 2)), (17, (.sl true a0.f1.length 3 (a0.f1.flatMap e54))), (18, (I (a0.f1.length : Int))), (19, (I x3))] [(256, [(S a0.f0), (.sl true a0.f1.length 3 (a0.f1.flatMap e54))])] (B r) []))
 | 0 => (by intro a0 x3 r h; unfold impl_TripOk.l0 at h; cases h)
 | k + 1 => by
  have ih0 := impl_TripOk.lab k
  · intro a0 x3 r h
    unfold impl_TripOk.l0 at h
    refine .loop' [c_ 232, c_ 233, l_ 58, b_ 0, c_ 15] ?_
    refine .reg' [1, 17, 18, 19, 20] [] ⟨[(1, (.pt 256 0 2)), (17, (.sl true a0.f1.length 3 (a0.f1.flatMap e54))), (18, (I (a0.f1.length : Int))), (19, (I x3)), (20, (B (decide (x3 < (a0.f1.length : Int)))))], [(256, [(S a0.f0), (.sl true a0.f1.length 3 (a0.f1.flatMap e54))])], [], []⟩ [c_ 466, c_ 467, l_ 58, b_ 0, c_ 15] aln nocal ?_
    by_cases c3 : x3 < (a0.f1.length : Int)
    · rw [if_pos c3] at h
      refine .cond' (.tmp 20) true [c_ 3736, c_ 3737, b_ 1, c_ 935, l_ 58, b_ 0, c_ 15] (bT (dT c3)) ?_
      by_cases c4 : 0 ≤ x3
      · rw [if_pos c4] at h
        refine .reg' [1, 3, 4, 17, 18, 19] [.no, .no, .v (.ag [(I (at_ a0.f1 x3).f0), (I (at_ a0.f1 x3).f1), (I (at_ a0.f1 x3).f2)])] ⟨[(1, (.pt 256 0 2)), (3, (I x3)), (4, (.pt 1539 0 3)), (17, (.sl true a0.f1.length 3 (a0.f1.flatMap e54))), (18, (I (a0.f1.length : Int))), (19, (I x3))], [(256, [(S a0.f0), (.sl true a0.f1.length 3 (a0.f1.flatMap e54))]), (1539, [(I (at_ a0.f1 x3).f0), (I (at_ a0.f1 x3).f1), (I (at_ a0.f1 x3).f2)])], [(0 : Int) ≤ x3 ∧ x3 < (a0.f1.length : Int), rdC prog 55 ((a0.f1.flatMap e54).drop (x3.toNat * 3)) = (.ag [(I (at_ a0.f1 x3).f0), (I (at_ a0.f1 x3).f1), (I (at_ a0.f1 x3).f2)]), 3 ≤ ((a0.f1.flatMap e54).drop (x3.toNat * 3)).length, 3 = 3 ∧ 0 + 3 ≤ 3], []⟩ [c_ 14948, c_ 14949, c_ 7475, b_ 1, c_ 935, l_ 58, b_ 0, c_ 15] (alc ⟨c4, c3⟩ (alc (ldA e54_ok rfl rfl c4 c3) (alc (okI e54_ok c4 c3 (by decide)) (alc ⟨rfl, by decide⟩ aln)))) nocal ?_
        obtain ⟨x4, hx4, h⟩ := Option.bind_eq_some_iff.mp h
        by_cases c5 : x4 = true
        · rw [if_pos c5] at h
          obtain ⟨x5, hx5, h⟩ := Option.bind_eq_some_iff.mp h
          by_cases c6 : x5 = true
          · rw [if_pos c6] at h
            obtain ⟨x6, hx6, h⟩ := Option.bind_eq_some_iff.mp h
            by_cases c7 : x6 = true
            · rw [if_pos c7] at h
              refine .reg' [1, 3, 4, 17, 18, 19, 46] [.no, .no, .c ⟨44, [(I (at_ a0.f1 x3).f0), (I 0), (I 29)], [], (B x4), [], [], [], [], (B x4), []⟩, .no, .v (B false), .no, .no, .c ⟨45, [(I (at_ a0.f1 x3).f1)], [], (B x5), [], [], [], [], (B x5), []⟩, .no, .no, .v (B false), .no, .no, .c ⟨45, [(I (at_ a0.f1 x3).f2)], [], (B x6), [], [], [], [], (B x6), []⟩, .no, .no, .v (B false)] ⟨[(1, (.pt 256 0 2)), (3, (I x3)), (4, (.pt 1539 0 3)), (17, (.sl true a0.f1.length 3 (a0.f1.flatMap e54))), (18, (I (a0.f1.length : Int))), (19, (I x3)), (46, (B (decide ((at_ a0.f1 x3).f1 > (at_ a0.f1 x3).f2))))], [(256, [(S a0.f0), (.sl true a0.f1.length 3 (a0.f1.flatMap e54))]), (1539, [(I (at_ a0.f1 x3).f0), (I (at_ a0.f1 x3).f1), (I (at_ a0.f1 x3).f2)])], [3 = 3 ∧ 0 + 1 ≤ 3, COK (hget [(256, [(S a0.f0), (.sl true a0.f1.length 3 (a0.f1.flatMap e54))]), (1539, [(I (at_ a0.f1 x3).f0), (I (at_ a0.f1 x3).f1), (I (at_ a0.f1 x3).f2)])]) [(I (at_ a0.f1 x3).f0), (I 0), (I 29)] ⟨44, [(I (at_ a0.f1 x3).f0), (I 0), (I 29)], [], (B x4), [], [], [], [], (B x4), []⟩, (B (!x4) : V) = B false, 3 = 3 ∧ 1 + 1 ≤ 3, COK (hget [(256, [(S a0.f0), (.sl true a0.f1.length 3 (a0.f1.flatMap e54))]), (1539, [(I (at_ a0.f1 x3).f0), (I (at_ a0.f1 x3).f1), (I (at_ a0.f1 x3).f2)])]) [(I (at_ a0.f1 x3).f1)] ⟨45, [(I (at_ a0.f1 x3).f1)], [], (B x5), [], [], [], [], (B x5), []⟩, (B (!x5) : V) = B false, 3 = 3 ∧ 2 + 1 ≤ 3, COK (hget [(256, [(S a0.f0), (.sl true a0.f1.length 3 (a0.f1.flatMap e54))]), (1539, [(I (at_ a0.f1 x3).f0), (I (at_ a0.f1 x3).f1), (I (at_ a0.f1 x3).f2)])]) [(I (at_ a0.f1 x3).f2)] ⟨45, [(I (at_ a0.f1 x3).f2)], [], (B x6), [], [], [], [], (B x6), []⟩, (B (!x6) : V) = B false, 3 = 3 ∧ 1 + 1 ≤ 3, 3 = 3 ∧ 2 + 1 ≤ 3], [⟨44, [(I (at_ a0.f1 x3).f0), (I 0), (I 29)], [], (B x4), [], [], [], [], (B x4), []⟩, ⟨45, [(I (at_ a0.f1 x3).f1)], [], (B x5), [], [], [], [], (B x5), []⟩, ⟨45, [(I (at_ a0.f1 x3).f2)], [], (B x6), [], [], [], [], (B x6), []⟩]⟩ [c_ 14949, c_ 7475, b_ 1, c_ 935, l_ 58, b_ 0, c_ 15] (alc ⟨rfl, by decide⟩ (alc (cok0 false (a2c (.z .s) (a2c (.z .s) (a2c (.z .s) a2n))) (.z .s) (fun h => absurd h (by decide))) (alc (bF (nF c5)) (alc ⟨rfl, by decide⟩ (alc (cok0 false (a2c (.z .s) a2n) (.z .s) (fun h => absurd h (by decide))) (alc (bF (nF c6)) (alc ⟨rfl, by decide⟩ (alc (cok0 false (a2c (.z .s) a2n) (.z .s) (fun h => absurd h (by decide))) (alc (bF (nF c7)) (alc ⟨rfl, by decide⟩ (alc ⟨rfl, by decide⟩ aln))))))))))) (acal (impl_between.J ((at_ a0.f1 x3).f0) 0 29 _ hx4) (acal (impl_isMinute.J ((at_ a0.f1 x3).f1) _ hx5) (acal (impl_isMinute.J ((at_ a0.f1 x3).f2) _ hx6) nocal))) ?_
              by_cases c8 : (at_ a0.f1 x3).f1 > (at_ a0.f1 x3).f2
              · rw [if_pos c8] at h
                refine .cond' (.tmp 46) true [c_ 59796, c_ 59797, c_ 7475, b_ 1, c_ 935, l_ 58, b_ 0, c_ 15] (bT (dT c8)) ?_
                refine .reg' [2] [] ⟨[(2, (B false))], [(256, [(S a0.f0), (.sl true a0.f1.length 3 (a0.f1.flatMap e54))]), (1539, [(I (at_ a0.f1 x3).f0), (I (at_ a0.f1 x3).f1), (I (at_ a0.f1 x3).f2)])], [], []⟩ [c_ 59797, c_ 7475, b_ 1, c_ 935, l_ 58, b_ 0, c_ 15] aln nocal ?_
                have h := Option.some.inj h
                subst h
                exact .fin0 [] (B false) [] aln (.z .s)
              · rw [if_neg c8] at h
                refine .cond' (.tmp 46) false [c_ 14950, c_ 14951, b_ 1, c_ 935, l_ 58, b_ 0, c_ 15] (bF (dF c8)) ?_
                by_cases c9 : x3 > 0
                · rw [if_pos c9] at h
                  by_cases c10 : 0 ≤ (wrap64 (x3 - 1))
                  · rw [if_pos c10] at h
                    by_cases c11 : (wrap64 (x3 - 1)) < (a0.f1.length : Int)
                    · rw [if_pos c11] at h
                      by_cases c12 : (at_ a0.f1 x3).f1 ≤ (at_ a0.f1 (wrap64 (x3 - 1))).f2
                      · rw [if_pos c12] at h
                        refine .reg' [1, 17, 18, 19, 72] [.no, .no, .v (B true), .no, .no, .no, .no, .no, .no, .no, .no, .v (I (at_ a0.f1 (wrap64 (x3 - 1))).f2), .no, .v (B true)] ⟨[(1, (.pt 256 0 2)), (17, (.sl true a0.f1.length 3 (a0.f1.flatMap e54))), (18, (I (a0.f1.length : Int))), (19, (I x3)), (72, (B true))], [(256, [(S a0.f0), (.sl true a0.f1.length 3 (a0.f1.flatMap e54))]), (1539, [(I (at_ a0.f1 x3).f0), (I (at_ a0.f1 x3).f1), (I (at_ a0.f1 x3).f2)])], [(B (decide (x3 > 0)) : V) = B true, 3 = 3 ∧ 1 + 1 ≤ 3, 2 = 2 ∧ 1 + 1 ≤ 2, (0 : Int) ≤ (wrap64 (x3 - 1)) ∧ (wrap64 (x3 - 1)) < (a0.f1.length : Int), rdC prog 3 (((a0.f1.flatMap e54).drop ((wrap64 (x3 - 1)).toNat * 3)).drop 2) = (I (at_ a0.f1 (wrap64 (x3 - 1))).f2), 1 ≤ (((a0.f1.flatMap e54).drop ((wrap64 (x3 - 1)).toNat * 3)).drop 2).length, (B (decide ((at_ a0.f1 x3).f1 ≤ (at_ a0.f1 (wrap64 (x3 - 1))).f2)) : V) = B true], []⟩ [c_ 14951, b_ 1, c_ 935, l_ 58, b_ 0, c_ 15] (alc (bT (dT c9)) (alc ⟨rfl, by decide⟩ (alc ⟨rfl, by decide⟩ (alc ⟨c10, c11⟩ (alc (ldC e54_ok 2 (by decide) rfl c10 c11) (alc (okIj e54_ok c10 c11 (by decide)) (alc (bT (dT c12)) aln))))))) nocal ?_
                        refine .cond' (.tmp 72) true [c_ 59804, c_ 59805, b_ 1, c_ 935, l_ 58, b_ 0, c_ 15] (rfl) ?_
                        refine .reg' [2] [] ⟨[(2, (B false))], [(256, [(S a0.f0), (.sl true a0.f1.length 3 (a0.f1.flatMap e54))]), (1539, [(I (at_ a0.f1 x3).f0), (I (at_ a0.f1 x3).f1), (I (at_ a0.f1 x3).f2)])], [], []⟩ [c_ 59805, b_ 1, c_ 935, l_ 58, b_ 0, c_ 15] aln nocal ?_
                        have h := Option.some.inj h
                        subst h
                        exact .fin0 [] (B false) [] aln (.z .s)
                      · rw [if_neg c12] at h
                        refine .reg' [1, 17, 18, 19, 72] [.no, .no, .v (B true), .no, .no, .no, .no, .no, .no, .no, .no, .v (I (at_ a0.f1 (wrap64 (x3 - 1))).f2), .no, .v (B false), .no, .no, .no, .no, .no, .no, .no, .no, .v (I (at_ a0.f1 (wrap64 (x3 - 1))).f0)] ⟨[(1, (.pt 256 0 2)), (17, (.sl true a0.f1.length 3 (a0.f1.flatMap e54))), (18, (I (a0.f1.length : Int))), (19, (I x3)), (72, (B ((at_ a0.f1 x3).f0 == (at_ a0.f1 (wrap64 (x3 - 1))).f0)))], [(256, [(S a0.f0), (.sl true a0.f1.length 3 (a0.f1.flatMap e54))]), (1539, [(I (at_ a0.f1 x3).f0), (I (at_ a0.f1 x3).f1), (I (at_ a0.f1 x3).f2)])], [(B (decide (x3 > 0)) : V) = B true, 3 = 3 ∧ 1 + 1 ≤ 3, 2 = 2 ∧ 1 + 1 ≤ 2, (0 : Int) ≤ (wrap64 (x3 - 1)) ∧ (wrap64 (x3 - 1)) < (a0.f1.length : Int), rdC prog 3 (((a0.f1.flatMap e54).drop ((wrap64 (x3 - 1)).toNat * 3)).drop 2) = (I (at_ a0.f1 (wrap64 (x3 - 1))).f2), 1 ≤ (((a0.f1.flatMap e54).drop ((wrap64 (x3 - 1)).toNat * 3)).drop 2).length, (B (decide ((at_ a0.f1 x3).f1 ≤ (at_ a0.f1 (wrap64 (x3 - 1))).f2)) : V) = B false, 3 = 3 ∧ 0 + 1 ≤ 3, 2 = 2 ∧ 1 + 1 ≤ 2, (0 : Int) ≤ (wrap64 (x3 - 1)) ∧ (wrap64 (x3 - 1)) < (a0.f1.length : Int), rdC prog 3 (((a0.f1.flatMap e54).drop ((wrap64 (x3 - 1)).toNat * 3)).drop 0) = (I (at_ a0.f1 (wrap64 (x3 - 1))).f0), 1 ≤ (((a0.f1.flatMap e54).drop ((wrap64 (x3 - 1)).toNat * 3)).drop 0).length], []⟩ [c_ 14951, b_ 1, c_ 935, l_ 58, b_ 0, c_ 15] (alc (bT (dT c9)) (alc ⟨rfl, by decide⟩ (alc ⟨rfl, by decide⟩ (alc ⟨c10, c11⟩ (alc (ldC e54_ok 2 (by decide) rfl c10 c11) (alc (okIj e54_ok c10 c11 (by decide)) (alc (bF (dF c12)) (alc ⟨rfl, by decide⟩ (alc ⟨rfl, by decide⟩ (alc ⟨c10, c11⟩ (alc (ldC e54_ok 0 (by decide) rfl c10 c11) (alc (okIj e54_ok c10 c11 (by decide)) aln)))))))))))) nocal ?_
                        by_cases c13 : (at_ a0.f1 x3).f0 = (at_ a0.f1 (wrap64 (x3 - 1))).f0
                        · rw [if_pos c13] at h
                          refine .cond' (.tmp 72) true [c_ 59804, c_ 59805, b_ 1, c_ 935, l_ 58, b_ 0, c_ 15] (bT (qT c13)) ?_
                          refine .reg' [2] [] ⟨[(2, (B false))], [(256, [(S a0.f0), (.sl true a0.f1.length 3 (a0.f1.flatMap e54))]), (1539, [(I (at_ a0.f1 x3).f0), (I (at_ a0.f1 x3).f1), (I (at_ a0.f1 x3).f2)])], [], []⟩ [c_ 59805, b_ 1, c_ 935, l_ 58, b_ 0, c_ 15] aln nocal ?_
                          have h := Option.some.inj h
                          subst h
                          exact .fin0 [] (B false) [] aln (.z .s)
                        · rw [if_neg c13] at h
                          refine .cond' (.tmp 72) false [c_ 935, l_ 58, b_ 0, c_ 15] (bF (qF c13)) ?_
                          refine .reg' [1, 17, 18, 19] [] ⟨[(1, (.pt 256 0 2)), (17, (.sl true a0.f1.length 3 (a0.f1.flatMap e54))), (18, (I (a0.f1.length : Int))), (19, (I (wrap64 (x3 + 1))))], [(256, [(S a0.f0), (.sl true a0.f1.length 3 (a0.f1.flatMap e54))]), (1539, [(I (at_ a0.f1 x3).f0), (I (at_ a0.f1 x3).f1), (I (at_ a0.f1 x3).f2)])], [], []⟩ [l_ 58, b_ 0, c_ 15] aln nocal ?_
                          refine .wk' [] [(256, 256)] [(1, (.pt 256 0 2)), (17, (.sl true a0.f1.length 3 (a0.f1.flatMap e54))), (18, (I (a0.f1.length : Int))), (19, (I (wrap64 (x3 + 1))))] [(256, [(S a0.f0), (.sl true a0.f1.length 3 (a0.f1.flatMap e54))])] (shc 256 (a2c (.z .s) (a2c (.z (frz_sl e54_ok (fun h => h))) a2n)) shn) (enc_ (.pt (memP_mem (p := (256, 256)) rfl)) (enc_ (.z (frz_sl e54_ok (fun h => h))) (enc_ (.z .s) (enc_ (.z .s) enn)))) ?_
                          exact ih0 a0 (wrap64 (x3 + 1)) _ h
                    · rw [if_neg c11] at h
                      cases h
                  · rw [if_neg c10] at h
                    cases h
                · rw [if_neg c9] at h
                  refine .reg' [1, 17, 18, 19, 72] [.no, .no, .v (B false)] ⟨[(1, (.pt 256 0 2)), (17, (.sl true a0.f1.length 3 (a0.f1.flatMap e54))), (18, (I (a0.f1.length : Int))), (19, (I x3)), (72, (B false))], [(256, [(S a0.f0), (.sl true a0.f1.length 3 (a0.f1.flatMap e54))]), (1539, [(I (at_ a0.f1 x3).f0), (I (at_ a0.f1 x3).f1), (I (at_ a0.f1 x3).f2)])], [(B (decide (x3 > 0)) : V) = B false], []⟩ [c_ 14951, b_ 1, c_ 935, l_ 58, b_ 0, c_ 15] (alc (bF (dF c9)) aln) nocal ?_
                  refine .cond' (.tmp 72) false [c_ 935, l_ 58, b_ 0, c_ 15] (rfl) ?_
                  refine .reg' [1, 17, 18, 19] [] ⟨[(1, (.pt 256 0 2)), (17, (.sl true a0.f1.length 3 (a0.f1.flatMap e54))), (18, (I (a0.f1.length : Int))), (19, (I (wrap64 (x3 + 1))))], [(256, [(S a0.f0), (.sl true a0.f1.length 3 (a0.f1.flatMap e54))]), (1539, [(I (at_ a0.f1 x3).f0), (I (at_ a0.f1 x3).f1), (I (at_ a0.f1 x3).f2)])], [], []⟩ [l_ 58, b_ 0, c_ 15] aln nocal ?_
                  refine .wk' [] [(256, 256)] [(1, (.pt 256 0 2)), (17, (.sl true a0.f1.length 3 (a0.f1.flatMap e54))), (18, (I (a0.f1.length : Int))), (19, (I (wrap64 (x3 + 1))))] [(256, [(S a0.f0), (.sl true a0.f1.length 3 (a0.f1.flatMap e54))])] (shc 256 (a2c (.z .s) (a2c (.z (frz_sl e54_ok (fun h => h))) a2n)) shn) (enc_ (.pt (memP_mem (p := (256, 256)) rfl)) (enc_ (.z (frz_sl e54_ok (fun h => h))) (enc_ (.z .s) (enc_ (.z .s) enn)))) ?_
                  exact ih0 a0 (wrap64 (x3 + 1)) _ h
            · rw [if_neg c7] at h
              refine .reg' [1, 3, 4, 17, 18, 19, 46] [.no, .no, .c ⟨44, [(I (at_ a0.f1 x3).f0), (I 0), (I 29)], [], (B x4), [], [], [], [], (B x4), []⟩, .no, .v (B false), .no, .no, .c ⟨45, [(I (at_ a0.f1 x3).f1)], [], (B x5), [], [], [], [], (B x5), []⟩, .no, .no, .v (B false), .no, .no, .c ⟨45, [(I (at_ a0.f1 x3).f2)], [], (B x6), [], [], [], [], (B x6), []⟩, .no, .no, .v (B true)] ⟨[(1, (.pt 256 0 2)), (3, (I x3)), (4, (.pt 1539 0 3)), (17, (.sl true a0.f1.length 3 (a0.f1.flatMap e54))), (18, (I (a0.f1.length : Int))), (19, (I x3)), (46, (B true))], [(256, [(S a0.f0), (.sl true a0.f1.length 3 (a0.f1.flatMap e54))]), (1539, [(I (at_ a0.f1 x3).f0), (I (at_ a0.f1 x3).f1), (I (at_ a0.f1 x3).f2)])], [3 = 3 ∧ 0 + 1 ≤ 3, COK (hget [(256, [(S a0.f0), (.sl true a0.f1.length 3 (a0.f1.flatMap e54))]), (1539, [(I (at_ a0.f1 x3).f0), (I (at_ a0.f1 x3).f1), (I (at_ a0.f1 x3).f2)])]) [(I (at_ a0.f1 x3).f0), (I 0), (I 29)] ⟨44, [(I (at_ a0.f1 x3).f0), (I 0), (I 29)], [], (B x4), [], [], [], [], (B x4), []⟩, (B (!x4) : V) = B false, 3 = 3 ∧ 1 + 1 ≤ 3, COK (hget [(256, [(S a0.f0), (.sl true a0.f1.length 3 (a0.f1.flatMap e54))]), (1539, [(I (at_ a0.f1 x3).f0), (I (at_ a0.f1 x3).f1), (I (at_ a0.f1 x3).f2)])]) [(I (at_ a0.f1 x3).f1)] ⟨45, [(I (at_ a0.f1 x3).f1)], [], (B x5), [], [], [], [], (B x5), []⟩, (B (!x5) : V) = B false, 3 = 3 ∧ 2 + 1 ≤ 3, COK (hget [(256, [(S a0.f0), (.sl true a0.f1.length 3 (a0.f1.flatMap e54))]), (1539, [(I (at_ a0.f1 x3).f0), (I (at_ a0.f1 x3).f1), (I (at_ a0.f1 x3).f2)])]) [(I (at_ a0.f1 x3).f2)] ⟨45, [(I (at_ a0.f1 x3).f2)], [], (B x6), [], [], [], [], (B x6), []⟩, (B (!x6) : V) = B true], [⟨44, [(I (at_ a0.f1 x3).f0), (I 0), (I 29)], [], (B x4), [], [], [], [], (B x4), []⟩, ⟨45, [(I (at_ a0.f1 x3).f1)], [], (B x5), [], [], [], [], (B x5), []⟩, ⟨45, [(I (at_ a0.f1 x3).f2)], [], (B x6), [], [], [], [], (B x6), []⟩]⟩ [c_ 14949, c_ 7475, b_ 1, c_ 935, l_ 58, b_ 0, c_ 15] (alc ⟨rfl, by decide⟩ (alc (cok0 false (a2c (.z .s) (a2c (.z .s) (a2c (.z .s) a2n))) (.z .s) (fun h => absurd h (by decide))) (alc (bF (nF c5)) (alc ⟨rfl, by decide⟩ (alc (cok0 false (a2c (.z .s) a2n) (.z .s) (fun h => absurd h (by decide))) (alc (bF (nF c6)) (alc ⟨rfl, by decide⟩ (alc (cok0 false (a2c (.z .s) a2n) (.z .s) (fun h => absurd h (by decide))) (alc (bT (nT (vF c7))) aln))))))))) (acal (impl_between.J ((at_ a0.f1 x3).f0) 0 29 _ hx4) (acal (impl_isMinute.J ((at_ a0.f1 x3).f1) _ hx5) (acal (impl_isMinute.J ((at_ a0.f1 x3).f2) _ hx6) nocal))) ?_
              refine .cond' (.tmp 46) true [c_ 59796, c_ 59797, c_ 7475, b_ 1, c_ 935, l_ 58, b_ 0, c_ 15] (rfl) ?_
              refine .reg' [2] [] ⟨[(2, (B false))], [(256, [(S a0.f0), (.sl true a0.f1.length 3 (a0.f1.flatMap e54))]), (1539, [(I (at_ a0.f1 x3).f0), (I (at_ a0.f1 x3).f1), (I (at_ a0.f1 x3).f2)])], [], []⟩ [c_ 59797, c_ 7475, b_ 1, c_ 935, l_ 58, b_ 0, c_ 15] aln nocal ?_
              have h := Option.some.inj h
              subst h
              exact .fin0 [] (B false) [] aln (.z .s)
          · rw [if_neg c6] at h
            refine .reg' [1, 3, 4, 17, 18, 19, 46] [.no, .no, .c ⟨44, [(I (at_ a0.f1 x3).f0), (I 0), (I 29)], [], (B x4), [], [], [], [], (B x4), []⟩, .no, .v (B false), .no, .no, .c ⟨45, [(I (at_ a0.f1 x3).f1)], [], (B x5), [], [], [], [], (B x5), []⟩, .no, .no, .v (B true)] ⟨[(1, (.pt 256 0 2)), (3, (I x3)), (4, (.pt 1539 0 3)), (17, (.sl true a0.f1.length 3 (a0.f1.flatMap e54))), (18, (I (a0.f1.length : Int))), (19, (I x3)), (46, (B true))], [(256, [(S a0.f0), (.sl true a0.f1.length 3 (a0.f1.flatMap e54))]), (1539, [(I (at_ a0.f1 x3).f0), (I (at_ a0.f1 x3).f1), (I (at_ a0.f1 x3).f2)])], [3 = 3 ∧ 0 + 1 ≤ 3, COK (hget [(256, [(S a0.f0), (.sl true a0.f1.length 3 (a0.f1.flatMap e54))]), (1539, [(I (at_ a0.f1 x3).f0), (I (at_ a0.f1 x3).f1), (I (at_ a0.f1 x3).f2)])]) [(I (at_ a0.f1 x3).f0), (I 0), (I 29)] ⟨44, [(I (at_ a0.f1 x3).f0), (I 0), (I 29)], [], (B x4), [], [], [], [], (B x4), []⟩, (B (!x4) : V) = B false, 3 = 3 ∧ 1 + 1 ≤ 3, COK (hget [(256, [(S a0.f0), (.sl true a0.f1.length 3 (a0.f1.flatMap e54))]), (1539, [(I (at_ a0.f1 x3).f0), (I (at_ a0.f1 x3).f1), (I (at_ a0.f1 x3).f2)])]) [(I (at_ a0.f1 x3).f1)] ⟨45, [(I (at_ a0.f1 x3).f1)], [], (B x5), [], [], [], [], (B x5), []⟩, (B (!x5) : V) = B true], [⟨44, [(I (at_ a0.f1 x3).f0), (I 0), (I 29)], [], (B x4), [], [], [], [], (B x4), []⟩, ⟨45, [(I (at_ a0.f1 x3).f1)], [], (B x5), [], [], [], [], (B x5), []⟩]⟩ [c_ 14949, c_ 7475, b_ 1, c_ 935, l_ 58, b_ 0, c_ 15] (alc ⟨rfl, by decide⟩ (alc (cok0 false (a2c (.z .s) (a2c (.z .s) (a2c (.z .s) a2n))) (.z .s) (fun h => absurd h (by decide))) (alc (bF (nF c5)) (alc ⟨rfl, by decide⟩ (alc (cok0 false (a2c (.z .s) a2n) (.z .s) (fun h => absurd h (by decide))) (alc (bT (nT (vF c6))) aln)))))) (acal (impl_between.J ((at_ a0.f1 x3).f0) 0 29 _ hx4) (acal (impl_isMinute.J ((at_ a0.f1 x3).f1) _ hx5) nocal)) ?_
            refine .cond' (.tmp 46) true [c_ 59796, c_ 59797, c_ 7475, b_ 1, c_ 935, l_ 58, b_ 0, c_ 15] (rfl) ?_
            refine .reg' [2] [] ⟨[(2, (B false))], [(256, [(S a0.f0), (.sl true a0.f1.length 3 (a0.f1.flatMap e54))]), (1539, [(I (at_ a0.f1 x3).f0), (I (at_ a0.f1 x3).f1), (I (at_ a0.f1 x3).f2)])], [], []⟩ [c_ 59797, c_ 7475, b_ 1, c_ 935, l_ 58, b_ 0, c_ 15] aln nocal ?_
            have h := Option.some.inj h
            subst h
            exact .fin0 [] (B false) [] aln (.z .s)
        · rw [if_neg c5] at h
          refine .reg' [1, 3, 4, 17, 18, 19, 46] [.no, .no, .c ⟨44, [(I (at_ a0.f1 x3).f0), (I 0), (I 29)], [], (B x4), [], [], [], [], (B x4), []⟩, .no, .v (B true)] ⟨[(1, (.pt 256 0 2)), (3, (I x3)), (4, (.pt 1539 0 3)), (17, (.sl true a0.f1.length 3 (a0.f1.flatMap e54))), (18, (I (a0.f1.length : Int))), (19, (I x3)), (46, (B true))], [(256, [(S a0.f0), (.sl true a0.f1.length 3 (a0.f1.flatMap e54))]), (1539, [(I (at_ a0.f1 x3).f0), (I (at_ a0.f1 x3).f1), (I (at_ a0.f1 x3).f2)])], [3 = 3 ∧ 0 + 1 ≤ 3, COK (hget [(256, [(S a0.f0), (.sl true a0.f1.length 3 (a0.f1.flatMap e54))]), (1539, [(I (at_ a0.f1 x3).f0), (I (at_ a0.f1 x3).f1), (I (at_ a0.f1 x3).f2)])]) [(I (at_ a0.f1 x3).f0), (I 0), (I 29)] ⟨44, [(I (at_ a0.f1 x3).f0), (I 0), (I 29)], [], (B x4), [], [], [], [], (B x4), []⟩, (B (!x4) : V) = B true], [⟨44, [(I (at_ a0.f1 x3).f0), (I 0), (I 29)], [], (B x4), [], [], [], [], (B x4), []⟩]⟩ [c_ 14949, c_ 7475, b_ 1, c_ 935, l_ 58, b_ 0, c_ 15] (alc ⟨rfl, by decide⟩ (alc (cok0 false (a2c (.z .s) (a2c (.z .s) (a2c (.z .s) a2n))) (.z .s) (fun h => absurd h (by decide))) (alc (bT (nT (vF c5))) aln))) (acal (impl_between.J ((at_ a0.f1 x3).f0) 0 29 _ hx4) nocal) ?_
          refine .cond' (.tmp 46) true [c_ 59796, c_ 59797, c_ 7475, b_ 1, c_ 935, l_ 58, b_ 0, c_ 15] (rfl) ?_
          refine .reg' [2] [] ⟨[(2, (B false))], [(256, [(S a0.f0), (.sl true a0.f1.length 3 (a0.f1.flatMap e54))]), (1539, [(I (at_ a0.f1 x3).f0), (I (at_ a0.f1 x3).f1), (I (at_ a0.f1 x3).f2)])], [], []⟩ [c_ 59797, c_ 7475, b_ 1, c_ 935, l_ 58, b_ 0, c_ 15] aln nocal ?_
          have h := Option.some.inj h
          subst h
          exact .fin0 [] (B false) [] aln (.z .s)
      · rw [if_neg c4] at h
        cases h
    · rw [if_neg c3] at h
      refine .cond' (.tmp 20) false [c_ 30, c_ 31] (bF (dF c3)) ?_
      refine .reg' [2] [] ⟨[(2, (B true))], [(256, [(S a0.f0), (.sl true a0.f1.length 3 (a0.f1.flatMap e54))])], [], []⟩ [c_ 31] aln nocal ?_
      have h := Option.some.inj h
      subst h
      exact .fin0 [] (B true) [] aln (.z .s)
theorem impl_TripOk.J (k : Nat) (a0 : S28) (r : Bool) (h : impl_TripOk.f k a0 = some r) : J prog (.call 14 [(.ag [(S a0.f0), (.sl true a0.f1.length 3 (a0.f1.flatMap e54))])] [] (B r) []) := by
  unfold impl_TripOk.f at h
  have ih0 := impl_TripOk.lab k
  refine .call' [c_ 2, c_ 3] ?_
  refine .reg' [1] [] ⟨[(1, (.pt 256 0 2))], [(256, [(S a0.f0), (.sl true a0.f1.length 3 (a0.f1.flatMap e54))])], [], []⟩ [c_ 12, c_ 13, c_ 7] aln nocal ?_
  obtain ⟨x1, hx1, h⟩ := Option.bind_eq_some_iff.mp h
  by_cases c1 : x1 = true
  · rw [if_pos c1] at h
    obtain ⟨x2, hx2, h⟩ := Option.bind_eq_some_iff.mp h
    refine .reg' [1, 15] [.no, .no, .c ⟨43, [(S a0.f0)], [], (B x1), [], [], [], [], (B x1), []⟩, .no, .v (B false), .no, .no, .no, .c ⟨44, [(I (a0.f1.length : Int)), (I 2), (I 12)], [], (B x2), [], [], [], [], (B x2), []⟩] ⟨[(1, (.pt 256 0 2)), (15, (B (!x2)))], [(256, [(S a0.f0), (.sl true a0.f1.length 3 (a0.f1.flatMap e54))])], [2 = 2 ∧ 0 + 1 ≤ 2, COK (hget [(256, [(S a0.f0), (.sl true a0.f1.length 3 (a0.f1.flatMap e54))])]) [(S a0.f0)] ⟨43, [(S a0.f0)], [], (B x1), [], [], [], [], (B x1), []⟩, (B (!x1) : V) = B false, 2 = 2 ∧ 1 + 1 ≤ 2, COK (hget [(256, [(S a0.f0), (.sl true a0.f1.length 3 (a0.f1.flatMap e54))])]) [(I (a0.f1.length : Int)), (I 2), (I 12)] ⟨44, [(I (a0.f1.length : Int)), (I 2), (I 12)], [], (B x2), [], [], [], [], (B x2), []⟩], [⟨43, [(S a0.f0)], [], (B x1), [], [], [], [], (B x1), []⟩, ⟨44, [(I (a0.f1.length : Int)), (I 2), (I 12)], [], (B x2), [], [], [], [], (B x2), []⟩]⟩ [c_ 13, c_ 7] (alc ⟨rfl, by decide⟩ (alc (cok0 false (a2c (.z .s) a2n) (.z .s) (fun h => absurd h (by decide))) (alc (bF (nF c1)) (alc ⟨rfl, by decide⟩ (alc (cok0 false (a2c (.z .s) (a2c (.z .s) (a2c (.z .s) a2n))) (.z .s) (fun h => absurd h (by decide))) aln))))) (acal (impl_nameOk.J k a0.f0 _ hx1) (acal (impl_between.J (a0.f1.length : Int) 2 12 _ hx2) nocal)) ?_
    by_cases c2 : x2 = true
    · rw [if_pos c2] at h
      refine .cond' (.tmp 15) false [c_ 28, c_ 29, c_ 15] (bF (nF c2)) ?_
      refine .reg' [1, 17, 18, 19] [] ⟨[(1, (.pt 256 0 2)), (17, (.sl true a0.f1.length 3 (a0.f1.flatMap e54))), (18, (I (a0.f1.length : Int))), (19, (I 0))], [(256, [(S a0.f0), (.sl true a0.f1.length 3 (a0.f1.flatMap e54))])], [2 = 2 ∧ 1 + 1 ≤ 2], []⟩ [l_ 58, b_ 0, c_ 15] (alc ⟨rfl, by decide⟩ aln) nocal ?_
      exact ih0 a0 0 _ h
    · rw [if_neg c2] at h
      refine .cond' (.tmp 15) true [c_ 52, c_ 53, c_ 7] (bT (nT (vF c2))) ?_
      refine .reg' [2] [] ⟨[(2, (B false))], [(256, [(S a0.f0), (.sl true a0.f1.length 3 (a0.f1.flatMap e54))])], [], []⟩ [c_ 53, c_ 7] aln nocal ?_
      have h := Option.some.inj h
      subst h
      exact .fin0 [] (B false) [] aln (.z .s)
  · rw [if_neg c1] at h
    refine .reg' [1, 15] [.no, .no, .c ⟨43, [(S a0.f0)], [], (B x1), [], [], [], [], (B x1), []⟩, .no, .v (B true)] ⟨[(1, (.pt 256 0 2)), (15, (B true))], [(256, [(S a0.f0), (.sl true a0.f1.length 3 (a0.f1.flatMap e54))])], [2 = 2 ∧ 0 + 1 ≤ 2, COK (hget [(256, [(S a0.f0), (.sl true a0.f1.length 3 (a0.f1.flatMap e54))])]) [(S a0.f0)] ⟨43, [(S a0.f0)], [], (B x1), [], [], [], [], (B x1), []⟩, (B (!x1) : V) = B true], [⟨43, [(S a0.f0)], [], (B x1), [], [], [], [], (B x1), []⟩]⟩ [c_ 13, c_ 7] (alc ⟨rfl, by decide⟩ (alc (cok0 false (a2c (.z .s) a2n) (.z .s) (fun h => absurd h (by decide))) (alc (bT (nT (vF c1))) aln))) (acal (impl_nameOk.J k a0.f0 _ hx1) nocal) ?_
    refine .cond' (.tmp 15) true [c_ 52, c_ 53, c_ 7] (rfl) ?_
    refine .reg' [2] [] ⟨[(2, (B false))], [(256, [(S a0.f0), (.sl true a0.f1.length 3 (a0.f1.flatMap e54))])], [], []⟩ [c_ 53, c_ 7] aln nocal ?_
    have h := Option.some.inj h
    subst h
    exact .fin0 [] (B false) [] aln (.z .s)
/-! impl_tripNamed_1: function 64 -/
def impl_tripNamed_1.f (a0 : S28) (a1c0 : ByteArray) : Option (Bool × ByteArray) := (some ((sEq a0.f0 a1c0), a1c0))
theorem impl_tripNamed_1.J (a0 : S28) (a1c0 : ByteArray) (r : (Bool × ByteArray)) (h : impl_tripNamed_1.f a0 a1c0 = some r) : J prog (.call 64 [(.ag [(S a0.f0), (.sl true a0.f1.length 3 (a0.f1.flatMap e54))]), (.pt 24 0 1)] [(24, [(S a1c0)])] (B r.1) [(24, [(S r.2)])]) := by
  unfold impl_tripNamed_1.f at h
  refine .call' [c_ 2, c_ 3] ?_
  refine .reg' [1, 2] [] ⟨[(1, (.pt 24 0 1)), (2, (.pt 256 0 2))], [(24, [(S a1c0)]), (256, [(S a0.f0), (.sl true a0.f1.length 3 (a0.f1.flatMap e54))])], [], []⟩ [c_ 6, c_ 7] aln nocal ?_
  refine .reg' [3] [] ⟨[(3, (B (sEq a0.f0 a1c0)))], [(24, [(S a1c0)]), (256, [(S a0.f0), (.sl true a0.f1.length 3 (a0.f1.flatMap e54))])], [2 = 2 ∧ 0 + 1 ≤ 2, 1 = 1 ∧ 0 + 1 ≤ 1], []⟩ [c_ 7] (alc ⟨rfl, by decide⟩ (alc ⟨rfl, by decide⟩ aln)) nocal ?_
  have h := Option.some.inj h
  subst h
  exact .fin' [] [(24, 24)] (B (sEq a0.f0 a1c0)) [] aln (shc 24 (a2c (.z .s) a2n) shn) (.z .s)
/-! slices_IndexFunc_1: function 63 -/
def slices_IndexFunc_1.l0 : Nat → (List S28) → ByteArray → Int → Option (Int × ByteArray)
 | 0, _, _, _ => none
 | k + 1, a0, x1, x2 => (if x2 < (a0.length : Int) then (if 0 ≤ x2 then ((impl_tripNamed_1.f (at_ a0 x2) x1).bind fun x3 => (if x3.1 = true then (some (x2, x3.2)) else (slices_IndexFunc_1.l0 k a0 x3.2 (wrap64 (x2 + 1))))) else none) else (some ((-1), x1)))
def slices_IndexFunc_1.f (k : Nat) (a0 : (List S28)) (a1c0 : ByteArray) : Option (Int × ByteArray) := (slices_IndexFunc_1.l0 k a0 a1c0 0)
theorem slices_IndexFunc_1.lab : ∀ k, (∀ (a0 : (List S28)) (x1 : ByteArray) (x2 : Int) (r : (Int × ByteArray)), slices_IndexFunc_1.l0 k a0 x1 x2 = some r → J prog (.run 63 [24] [l_ 26, b_ 0, c_ 7] [(0, (.sl true a0.length 2 (a0.flatMap (e28 true)))), (1, (.fn (.func 64) [] [(.pt 24 0 1)])), (7, (I (a0.length : Int))), (8, (I x2))] [(24, [(S x1)])] (I r.1) [(24, [(S r.2)])]))
 | 0 => (by intro a0 x1 x2 r h; unfold slices_IndexFunc_1.l0 at h; cases h)
 | k + 1 => by
  have ih0 := slices_IndexFunc_1.lab k
  · intro a0 x1 x2 r h
    unfold slices_IndexFunc_1.l0 at h
    refine .loop' [c_ 104, c_ 105, l_ 26, b_ 0, c_ 7] ?_
    refine .reg' [0, 1, 7, 8, 9] [] ⟨[(0, (.sl true a0.length 2 (a0.flatMap (e28 true)))), (1, (.fn (.func 64) [] [(.pt 24 0 1)])), (7, (I (a0.length : Int))), (8, (I x2)), (9, (B (decide (x2 < (a0.length : Int)))))], [(24, [(S x1)])], [], []⟩ [c_ 210, c_ 211, l_ 26, b_ 0, c_ 7] aln nocal ?_
    by_cases c1 : x2 < (a0.length : Int)
    · rw [if_pos c1] at h
      refine .cond' (.tmp 9) true [c_ 1688, c_ 1689, b_ 1, c_ 423, l_ 26, b_ 0, c_ 7] (bT (dT c1)) ?_
      refine .reg' [0, 1, 5, 7, 8] [] ⟨[(0, (.sl true a0.length 2 (a0.flatMap (e28 true)))), (1, (.fn (.func 64) [] [(.pt 24 0 1)])), (5, (I x2)), (7, (I (a0.length : Int))), (8, (I x2))], [(24, [(S x1)])], [], []⟩ [c_ 3378, c_ 3379, b_ 1, c_ 423, l_ 26, b_ 0, c_ 7] aln nocal ?_
      by_cases c2 : 0 ≤ x2
      · rw [if_pos c2] at h
        obtain ⟨x3, hx3, h⟩ := Option.bind_eq_some_iff.mp h
        refine .reg' [0, 1, 5, 7, 8, 16] [.no, .no, .no, .no, .v (.ag [(S (at_ a0 x2).f0), (.sl true (at_ a0 x2).f1.length 3 ((at_ a0 x2).f1.flatMap e54))]), .c ⟨64, [(.ag [(S (at_ a0 x2).f0), (.sl true (at_ a0 x2).f1.length 3 ((at_ a0 x2).f1.flatMap e54))]), (.pt 24 0 1)], [(24, [(S x1)])], (B x3.1), [(24, [(S x3.2)])], [], [(24, 24)], [(24, 24)], (B x3.1), [(24, [(S x3.2)])]⟩] ⟨[(0, (.sl true a0.length 2 (a0.flatMap (e28 true)))), (1, (.fn (.func 64) [] [(.pt 24 0 1)])), (5, (I x2)), (7, (I (a0.length : Int))), (8, (I x2)), (16, (B x3.1))], [(24, [(S x3.2)])], [(0 : Int) ≤ x2 ∧ x2 < (a0.length : Int), rdC prog 29 ((a0.flatMap (e28 true)).drop (x2.toNat * 2)) = (.ag [(S (at_ a0 x2).f0), (.sl true (at_ a0 x2).f1.length 3 ((at_ a0 x2).f1.flatMap e54))]), 2 ≤ ((a0.flatMap (e28 true)).drop (x2.toNat * 2)).length, COK (hget [(24, [(S x1)])]) [(.ag [(S (at_ a0 x2).f0), (.sl true (at_ a0 x2).f1.length 3 ((at_ a0 x2).f1.flatMap e54))]), (.pt 24 0 1)] ⟨64, [(.ag [(S (at_ a0 x2).f0), (.sl true (at_ a0 x2).f1.length 3 ((at_ a0 x2).f1.flatMap e54))]), (.pt 24 0 1)], [(24, [(S x1)])], (B x3.1), [(24, [(S x3.2)])], [], [(24, 24)], [(24, 24)], (B x3.1), [(24, [(S x3.2)])]⟩], [⟨64, [(.ag [(S (at_ a0 x2).f0), (.sl true (at_ a0 x2).f1.length 3 ((at_ a0 x2).f1.flatMap e54))]), (.pt 24 0 1)], [(24, [(S x1)])], (B x3.1), [(24, [(S x3.2)])], [], [(24, 24)], [(24, 24)], (B x3.1), [(24, [(S x3.2)])]⟩]⟩ [c_ 3379, b_ 1, c_ 423, l_ 26, b_ 0, c_ 7] (alc ⟨c2, c1⟩ (alc (ldA (e28_ok true) rfl rfl c2 c1) (alc (okI (e28_ok true) c2 c1 (by decide)) (alc (cokW false (a2c (.z (frz_ag (a2c .s (a2c (frz_sl e54_ok (fun h => h)) a2n)))) (a2c (.pt (memP_mem (p := (24, 24)) rfl)) a2n)) (akc ⟨_, _, rfl, rfl, (a2c (.z .s) a2n)⟩ akn) (akc (.inl rfl) akn) (.z .s) (akc ⟨_, _, rfl, rfl, (a2c (.z .s) a2n)⟩ akn) (fun h => absurd h (by decide))) aln)))) (acal (impl_tripNamed_1.J (at_ a0 x2) x1 _ hx3) nocal) ?_
        by_cases c3 : x3.1 = true
        · rw [if_pos c3] at h
          refine .cond' (.tmp 16) true [c_ 13516, c_ 13517, b_ 1, c_ 423, l_ 26, b_ 0, c_ 7] (bT c3) ?_
          refine .reg' [4] [] ⟨[(4, (I x2))], [(24, [(S x3.2)])], [], []⟩ [c_ 13517, b_ 1, c_ 423, l_ 26, b_ 0, c_ 7] aln nocal ?_
          have h := Option.some.inj h
          subst h
          exact .fin' [] [(24, 24)] (I x2) [] aln (shc 24 (a2c (.z .s) a2n) shn) (.z .s)
        · rw [if_neg c3] at h
          refine .cond' (.tmp 16) false [c_ 423, l_ 26, b_ 0, c_ 7] (bF (vF c3)) ?_
          refine .reg' [0, 1, 7, 8] [] ⟨[(0, (.sl true a0.length 2 (a0.flatMap (e28 true)))), (1, (.fn (.func 64) [] [(.pt 24 0 1)])), (7, (I (a0.length : Int))), (8, (I (wrap64 (x2 + 1))))], [(24, [(S x3.2)])], [], []⟩ [l_ 26, b_ 0, c_ 7] aln nocal ?_
          exact ih0 a0 x3.2 (wrap64 (x2 + 1)) _ h
      · rw [if_neg c2] at h
        cases h
    · rw [if_neg c1] at h
      refine .cond' (.tmp 9) false [c_ 14, c_ 15] (bF (dF c1)) ?_
      refine .reg' [4] [] ⟨[(4, (I (-1)))], [(24, [(S x1)])], [], []⟩ [c_ 15] aln nocal ?_
      have h := Option.some.inj h
      subst h
      exact .fin' [] [(24, 24)] (I (-1)) [] aln (shc 24 (a2c (.z .s) a2n) shn) (.z .s)
theorem slices_IndexFunc_1.J (k : Nat) (a0 : (List S28)) (a1c0 : ByteArray) (r : (Int × ByteArray)) (h : slices_IndexFunc_1.f k a0 a1c0 = some r) : J prog (.call 63 [(.sl true a0.length 2 (a0.flatMap (e28 true))), (.fn (.func 64) [] [(.pt 24 0 1)])] [(24, [(S a1c0)])] (I r.1) [(24, [(S r.2)])]) := by
  unfold slices_IndexFunc_1.f at h
  have ih0 := slices_IndexFunc_1.lab k
  refine .call' [c_ 2, c_ 3] ?_
  refine .reg' [0, 1] [] ⟨[(0, (.sl true a0.length 2 (a0.flatMap (e28 true)))), (1, (.fn (.func 64) [] [(.pt 24 0 1)]))], [(24, [(S a1c0)])], [], []⟩ [c_ 12, c_ 13, c_ 7] aln nocal ?_
  refine .reg' [0, 1, 7, 8] [] ⟨[(0, (.sl true a0.length 2 (a0.flatMap (e28 true)))), (1, (.fn (.func 64) [] [(.pt 24 0 1)])), (7, (I (a0.length : Int))), (8, (I 0))], [(24, [(S a1c0)])], [], []⟩ [l_ 26, b_ 0, c_ 7] aln nocal ?_
  exact ih0 a0 a1c0 0 _ h
/-! impl_tripNamed: function 47 -/
def impl_tripNamed.f (k : Nat) (a0 : (List S28)) (a1 : ByteArray) : Option Int := ((slices_IndexFunc_1.f k a0 a1).bind fun x1 => (some x1.1))
theorem impl_tripNamed.J (k : Nat) (a0 : (List S28)) (a1 : ByteArray) (r : Int) (h : impl_tripNamed.f k a0 a1 = some r) : J prog (.call 47 [(.sl true a0.length 2 (a0.flatMap (e28 true))), (S a1)] [] (I r) []) := by
  unfold impl_tripNamed.f at h
  refine .call' [c_ 2, c_ 3] ?_
  refine .reg' [0, 3] [] ⟨[(0, (.sl true a0.length 2 (a0.flatMap (e28 true)))), (3, (.pt 256 0 1))], [(256, [(S a1)])], [], []⟩ [c_ 6, c_ 7] aln nocal ?_
  obtain ⟨x1, hx1, h⟩ := Option.bind_eq_some_iff.mp h
  refine .reg' [4] [.no, .no, .c ⟨63, [(.sl true a0.length 2 (a0.flatMap (e28 true))), (.fn (.func 64) [] [(.pt 24 0 1)])], [(24, [(S a1)])], (I x1.1), [(24, [(S x1.2)])], [], [(256, 24)], [(256, 24)], (I x1.1), [(256, [(S x1.2)])]⟩] ⟨[(4, (I x1.1))], [(256, [(S x1.2)])], [COK (hget [(256, [(S a1)])]) [(.sl true a0.length 2 (a0.flatMap (e28 true))), (.fn (.func 64) [] [(.pt 256 0 1)])] ⟨63, [(.sl true a0.length 2 (a0.flatMap (e28 true))), (.fn (.func 64) [] [(.pt 24 0 1)])], [(24, [(S a1)])], (I x1.1), [(24, [(S x1.2)])], [], [(256, 24)], [(256, 24)], (I x1.1), [(256, [(S x1.2)])]⟩], [⟨63, [(.sl true a0.length 2 (a0.flatMap (e28 true))), (.fn (.func 64) [] [(.pt 24 0 1)])], [(24, [(S a1)])], (I x1.1), [(24, [(S x1.2)])], [], [(256, 24)], [(256, 24)], (I x1.1), [(256, [(S x1.2)])]⟩]⟩ [c_ 7] (alc (cokW false (a2c (.z (frz_sl (e28_ok true) (fun h => h))) (a2c (cnv_fn a2n (a2c (.pt (memP_mem (p := (256, 24)) rfl)) a2n)) a2n)) (akc ⟨_, _, rfl, rfl, (a2c (.z .s) a2n)⟩ akn) (akc (.inl rfl) akn) (.z .s) (akc ⟨_, _, rfl, rfl, (a2c (.z .s) a2n)⟩ akn) (fun h => absurd h (by decide))) aln) (acal (slices_IndexFunc_1.J k a0 a1 _ hx1) nocal) ?_
  have h := Option.some.inj h
  subst h
  exact .fin0 [] (I x1.1) [] aln (.z .s)
/-! impl_TableOk: function 21 -/
def impl_TableOk.l0 : Nat → (List S28) → Int → Option Bool
 | 0, _, _ => none
 | k + 1, a0, x1 => (if x1 < (a0.length : Int) then (if 0 ≤ x1 then ((impl_TripOk.f k (at_ a0 x1)).bind fun x2 => (if x2 = true then (if x1 ≤ (a0.length : Int) then ((impl_tripNamed.f k ((a0.drop (0 : Int).toNat).take (x1.toNat - (0 : Int).toNat)) ((at_ a0 x1).f0)).bind fun x3 => (if x3 ≥ 0 then (some false) else (impl_TableOk.l0 k a0 (wrap64 (x1 + 1))))) else none) else (some false))) else none) else (some true))
def impl_TableOk.f (k : Nat) (a0 : (List S28)) : Option Bool := (if (a0.length : Int) > 24 then (some false) else (impl_TableOk.l0 k a0 0))
end Go.Proofs.Ytoeedickghjdbaa.Fns
