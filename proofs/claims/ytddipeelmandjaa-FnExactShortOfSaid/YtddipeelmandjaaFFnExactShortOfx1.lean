/- The functions that the law FnExactShortOf reaches, by the engine. Printed by a program of this seat. -/
import Derived.Test.YtddipeelmandjaaE5
import Derived.Test.YtddipeelmandjaaProg
import Derived.Test.YtddipeelmandjaaFFnExactShortOfx0
namespace Go.Proofs.Ytddipeelmandjaa.Fns
open Go.Proofs.Try Go.Proofs.Ytddipeelmandjaa.Eng Go.RowKit
set_option maxRecDepth 100000
set_option linter.unusedVariables false
set_option linter.unusedSimpArgs false
theorem spec_Assign.lab : ∀ k, (∀ (a0 : (List Int)) (a1 : (List S49)) (a2 : Int) (x4 : (List Int)) (x5 : Int) (r : (List Int)), spec_Assign.l0 k a0 a1 a2 x4 x5 = some r → J prog (.run 30 [] [l_ 122, b_ 0, c_ 31] [(0, (.sl true a0.length 1 (a0.flatMap encI))), (1, (.sl true a1.length 3 (a1.flatMap e49))), (2, (I a2)), (7, (.rf 1024 0 x4.length 1 (x4.length * 1))), (8, (I x5))] [(1024, (x4.flatMap encI))] (.rf 1024 0 r.length 1 (r.length * 1)) [(1024, (r.flatMap encI))])) ∧ (∀ (a0 : (List Int)) (a1 : (List S49)) (a2 : Int) (x6 : (List Int)) (x7 : (List Int)) (x8 : Int) (r : (List Int)), spec_Assign.l1 k a0 a1 a2 x6 x7 x8 = some r → J prog (.run 30 [] [l_ 506, b_ 2, c_ 127] [(0, (.sl true a0.length 1 (a0.flatMap encI))), (1, (.sl true a1.length 3 (a1.flatMap e49))), (2, (I a2)), (7, (.rf 1024 0 x7.length 1 (x7.length * 1))), (9, (.rf 1002305 0 x6.length 1 (x6.length * 1))), (10, (I x8))] [(1024, (x7.flatMap encI)), (1002305, (x6.flatMap encI))] (.rf 1024 0 r.length 1 (r.length * 1)) [(1024, (r.flatMap encI))])) ∧ (∀ (a0 : (List Int)) (a1 : (List S49)) (a2 : Int) (x6 : (List Int)) (x8 : Int) (x9 : (List Int)) (x10 : Int) (r : (List Int)), spec_Assign.l2 k a0 a1 a2 x6 x8 x9 x10 = some r → J prog (.run 30 [] [l_ 64806, b_ 4, b_ 3, c_ 4051, l_ 506, b_ 2, c_ 127] [(0, (.sl true a0.length 1 (a0.flatMap encI))), (1, (.sl true a1.length 3 (a1.flatMap e49))), (2, (I a2)), (7, (.rf 1024 0 x9.length 1 (x9.length * 1))), (9, (.rf 1002305 0 x6.length 1 (x6.length * 1))), (10, (I x8)), (11, (I (at_ x6 x8))), (12, (I x10))] [(1024, (x9.flatMap encI)), (1002305, (x6.flatMap encI))] (.rf 1024 0 r.length 1 (r.length * 1)) [(1024, (r.flatMap encI))])) ∧ (∀ (a0 : (List Int)) (a1 : (List S49)) (a2 : Int) (x6 : (List Int)) (x8 : Int) (x9 : (List Int)) (x10 : Int) (x11 : Bool) (x12 : Int) (r : (List Int)), spec_Assign.l3 k a0 a1 a2 x6 x8 x9 x10 x11 x12 = some r → J prog (.run 30 [] [l_ 16590410, b_ 6, c_ 4147603, b_ 5, c_ 518451, l_ 64806, b_ 4, b_ 3, c_ 4051, l_ 506, b_ 2, c_ 127] [(0, (.sl true a0.length 1 (a0.flatMap encI))), (1, (.sl true a1.length 3 (a1.flatMap e49))), (2, (I a2)), (7, (.rf 1024 0 x9.length 1 (x9.length * 1))), (9, (.rf 1002305 0 x6.length 1 (x6.length * 1))), (10, (I x8)), (11, (I (at_ x6 x8))), (12, (I x10)), (13, (B x11)), (14, (I x12))] [(1024, (x9.flatMap encI)), (1002305, (x6.flatMap encI))] (.rf 1024 0 r.length 1 (r.length * 1)) [(1024, (r.flatMap encI))]))
 | 0 => ⟨(by intro a0 a1 a2 x4 x5 r h; unfold spec_Assign.l0 at h; cases h), (by intro a0 a1 a2 x6 x7 x8 r h; unfold spec_Assign.l1 at h; cases h), (by intro a0 a1 a2 x6 x8 x9 x10 r h; unfold spec_Assign.l2 at h; cases h), (by intro a0 a1 a2 x6 x8 x9 x10 x11 x12 r h; unfold spec_Assign.l3 at h; cases h)⟩
 | k + 1 => by
  obtain ⟨ih0, ih1, ih2, ih3⟩ := spec_Assign.lab k
  refine ⟨?_, ?_, ?_, ?_⟩
  · intro a0 a1 a2 x4 x5 r h
    unfold spec_Assign.l0 at h
    refine .loop' [c_ 976, c_ 977, c_ 489, l_ 122, b_ 0, c_ 31] ?_
    refine .reg' [0, 1, 2, 7, 8, 32] [] ⟨[(0, (.sl true a0.length 1 (a0.flatMap encI))), (1, (.sl true a1.length 3 (a1.flatMap e49))), (2, (I a2)), (7, (.rf 1024 0 x4.length 1 (x4.length * 1))), (8, (I x5)), (32, (B (decide (x5 < (a1.length : Int)))))], [(1024, (x4.flatMap encI))], [], []⟩ [c_ 977, c_ 489, l_ 122, b_ 0, c_ 31] aln nocal ?_
    by_cases c4 : x5 < (a1.length : Int)
    · rw [if_pos c4] at h
      refine .cond' (.tmp 32) true [c_ 1956, b_ 1, c_ 979, l_ 122, b_ 0, c_ 31] (bT (dT c4)) ?_
      by_cases c5 : (x4.length + ([(-1)] : List Int).length) * 8 ≤ 70368744177664
      · rw [if_pos c5] at h
        refine .reg' [0, 1, 2, 7, 8] [.no, .no, .w (.rf 1024 0 ((x4 ++ ([(-1)] : List Int)).length) 1 ((x4 ++ ([(-1)] : List Int)).length * 1)) ((x4 ++ ([(-1)] : List Int)).flatMap encI)] ⟨[(0, (.sl true a0.length 1 (a0.flatMap encI))), (1, (.sl true a1.length 3 (a1.flatMap e49))), (2, (I a2)), (7, (.rf 1024 0 ((x4 ++ ([(-1)] : List Int)).length) 1 ((x4 ++ ([(-1)] : List Int)).length * 1))), (8, (I x5))], [(1024, ((x4 ++ ([(-1)] : List Int)).flatMap encI)), (2049, (([(-1)] : List Int).flatMap encI))], [V.rf 1024 0 (x4.length + ([(-1)] : List Int).length) 1 (x4.length * 1 + ([(-1)] : List Int).length * 1) = (.rf 1024 0 ((x4 ++ ([(-1)] : List Int)).length) 1 ((x4 ++ ([(-1)] : List Int)).length * 1)), x4.flatMap encI ++ (((([(-1)] : List Int).flatMap encI).drop 0).take (([(-1)] : List Int).length * 1)) = ((x4 ++ ([(-1)] : List Int)).flatMap encI), (([(-1)] : List Int).length * 1 = (([(-1)] : List Int).flatMap encI).length ∧ 0 + ([(-1)] : List Int).length * 1 ≤ (([(-1)] : List Int).flatMap encI).length) ∧ x4.length * 1 = (x4.flatMap encI).length ∧ x4.length * 1 = (x4.flatMap encI).length ∧ (x4.length + ([(-1)] : List Int).length) * 8 ≤ 70368744177664], []⟩ [c_ 979, l_ 122, b_ 0, c_ 31] (alc (apV rfl) (alc (apR encI_ok rfl) (alc (apO encI_ok rfl c5 rfl) aln))) nocal ?_
        refine .reg' [0, 1, 2, 7, 8] [] ⟨[(0, (.sl true a0.length 1 (a0.flatMap encI))), (1, (.sl true a1.length 3 (a1.flatMap e49))), (2, (I a2)), (7, (.rf 1024 0 ((x4 ++ ([(-1)] : List Int)).length) 1 ((x4 ++ ([(-1)] : List Int)).length * 1))), (8, (I (wrap64 (x5 + 1))))], [(1024, ((x4 ++ ([(-1)] : List Int)).flatMap encI)), (2049, (([(-1)] : List Int).flatMap encI))], [], []⟩ [l_ 122, b_ 0, c_ 31] aln nocal ?_
        refine .wk' [] [(1024, 1024)] [(0, (.sl true a0.length 1 (a0.flatMap encI))), (1, (.sl true a1.length 3 (a1.flatMap e49))), (2, (I a2)), (7, (.rf 1024 0 ((x4 ++ ([(-1)] : List Int)).length) 1 ((x4 ++ ([(-1)] : List Int)).length * 1))), (8, (I (wrap64 (x5 + 1))))] [(1024, ((x4 ++ ([(-1)] : List Int)).flatMap encI))] (shc 1024 (rowF encI_ok _) shn) (enc_ (.z (frz_sl encI_ok (fun h => h))) (enc_ (.z (frz_sl e49_ok (fun h => h))) (enc_ (.z .s) (enc_ (.rf (memP_mem (p := (1024, 1024)) rfl)) (enc_ (.z .s) enn))))) ?_
        exact ih0 a0 a1 a2 (x4 ++ ([(-1)] : List Int)) (wrap64 (x5 + 1)) _ h
      · rw [if_neg c5] at h
        cases h
    · rw [if_neg c4] at h
      refine .cond' (.tmp 32) false [c_ 62, c_ 63] (bF (dF c4)) ?_
      obtain ⟨x6, hx6, h⟩ := Option.bind_eq_some_iff.mp h
      refine .reg' [0, 1, 2, 7, 9] [.no, .c ⟨50, [(.sl true a1.length 3 (a1.flatMap e49))], [], (.rf 512 0 x6.length 1 (x6.length * 1)), [(512, (x6.flatMap encI))], [], [], [(1002305, 512)], (.rf 1002305 0 x6.length 1 (x6.length * 1)), [(1002305, (x6.flatMap encI))]⟩] ⟨[(0, (.sl true a0.length 1 (a0.flatMap encI))), (1, (.sl true a1.length 3 (a1.flatMap e49))), (2, (I a2)), (7, (.rf 1024 0 x4.length 1 (x4.length * 1))), (9, (.rf 1002305 0 x6.length 1 (x6.length * 1)))], [(1024, (x4.flatMap encI)), (1002305, (x6.flatMap encI))], [COK (hget [(1024, (x4.flatMap encI))]) [(.sl true a1.length 3 (a1.flatMap e49))] ⟨50, [(.sl true a1.length 3 (a1.flatMap e49))], [], (.rf 512 0 x6.length 1 (x6.length * 1)), [(512, (x6.flatMap encI))], [], [], [(1002305, 512)], (.rf 1002305 0 x6.length 1 (x6.length * 1)), [(1002305, (x6.flatMap encI))]⟩], [⟨50, [(.sl true a1.length 3 (a1.flatMap e49))], [], (.rf 512 0 x6.length 1 (x6.length * 1)), [(512, (x6.flatMap encI))], [], [], [(1002305, 512)], (.rf 1002305 0 x6.length 1 (x6.length * 1)), [(1002305, (x6.flatMap encI))]⟩]⟩ [c_ 252, c_ 253, c_ 127] (alc (cokW false (a2c (.z (frz_sl e49_ok (fun h => h))) a2n) akn (akc (.inr rfl) akn) (.rf (memP_mem (p := (1002305, 512)) rfl)) (akc ⟨_, _, rfl, rfl, rowB encI_c _⟩ akn) (fun h => absurd h (by decide))) aln) (acal (spec_l10Order.J k a1 _ hx6) nocal) ?_
      refine .reg' [0, 1, 2, 7, 9, 10] [] ⟨[(0, (.sl true a0.length 1 (a0.flatMap encI))), (1, (.sl true a1.length 3 (a1.flatMap e49))), (2, (I a2)), (7, (.rf 1024 0 x4.length 1 (x4.length * 1))), (9, (.rf 1002305 0 x6.length 1 (x6.length * 1))), (10, (I 0))], [(1024, (x4.flatMap encI)), (1002305, (x6.flatMap encI))], [], []⟩ [l_ 506, b_ 2, c_ 127] aln nocal ?_
      exact ih1 a0 a1 a2 x6 x4 0 _ h
  · intro a0 a1 a2 x6 x7 x8 r h
    unfold spec_Assign.l1 at h
    refine .loop' [c_ 4048, c_ 4049, c_ 2025, l_ 506, b_ 2, c_ 127] ?_
    refine .reg' [0, 1, 2, 7, 9, 10, 43] [] ⟨[(0, (.sl true a0.length 1 (a0.flatMap encI))), (1, (.sl true a1.length 3 (a1.flatMap e49))), (2, (I a2)), (7, (.rf 1024 0 x7.length 1 (x7.length * 1))), (9, (.rf 1002305 0 x6.length 1 (x6.length * 1))), (10, (I x8)), (43, (B (decide (x8 < (x6.length : Int)))))], [(1024, (x7.flatMap encI)), (1002305, (x6.flatMap encI))], [], []⟩ [c_ 4049, c_ 2025, l_ 506, b_ 2, c_ 127] aln nocal ?_
    by_cases c6 : x8 < (x6.length : Int)
    · rw [if_pos c6] at h
      refine .cond' (.tmp 43) true [c_ 16200, c_ 16201, b_ 3, c_ 4051, l_ 506, b_ 2, c_ 127] (bT (dT c6)) ?_
      by_cases c7 : 0 ≤ x8
      · rw [if_pos c7] at h
        refine .reg' [0, 1, 2, 7, 9, 10, 11] [.no, .no, .no, .v (I (at_ x6 x8))] ⟨[(0, (.sl true a0.length 1 (a0.flatMap encI))), (1, (.sl true a1.length 3 (a1.flatMap e49))), (2, (I a2)), (7, (.rf 1024 0 x7.length 1 (x7.length * 1))), (9, (.rf 1002305 0 x6.length 1 (x6.length * 1))), (10, (I x8)), (11, (I (at_ x6 x8)))], [(1024, (x7.flatMap encI)), (1002305, (x6.flatMap encI))], [(0 : Int) ≤ x8 ∧ x8 < (x6.length : Int), rdC prog 3 ((x6.flatMap encI).drop (0 + x8.toNat * 1)) = (I (at_ x6 x8)), x6.length * 1 = (x6.flatMap encI).length ∧ 0 + x8.toNat * 1 + 1 ≤ (x6.flatMap encI).length], []⟩ [c_ 32402, c_ 32403, b_ 3, c_ 4051, l_ 506, b_ 2, c_ 127] (alc ⟨c7, c6⟩ (alc (ldC01 encI_ok rfl c7 c6) (alc (okA0 encI_ok c7 c6 (by decide)) aln))) nocal ?_
        refine .reg' [0, 1, 2, 7, 9, 10, 11, 12] [] ⟨[(0, (.sl true a0.length 1 (a0.flatMap encI))), (1, (.sl true a1.length 3 (a1.flatMap e49))), (2, (I a2)), (7, (.rf 1024 0 x7.length 1 (x7.length * 1))), (9, (.rf 1002305 0 x6.length 1 (x6.length * 1))), (10, (I x8)), (11, (I (at_ x6 x8))), (12, (I (wrap64 ((a0.length : Int) - 1))))], [(1024, (x7.flatMap encI)), (1002305, (x6.flatMap encI))], [], []⟩ [l_ 64806, b_ 4, b_ 3, c_ 4051, l_ 506, b_ 2, c_ 127] aln nocal ?_
        exact ih2 a0 a1 a2 x6 x8 x7 (wrap64 ((a0.length : Int) - 1)) _ h
      · rw [if_neg c7] at h
        cases h
    · rw [if_neg c6] at h
      refine .cond' (.tmp 43) false [c_ 254, c_ 255] (bF (dF c6)) ?_
      refine .reg' [6] [] ⟨[(6, (.rf 1024 0 x7.length 1 (x7.length * 1)))], [(1024, (x7.flatMap encI)), (1002305, (x6.flatMap encI))], [], []⟩ [c_ 255] aln nocal ?_
      have h := Option.some.inj h
      subst h
      exact .fin' [] [(1024, 1024)] (.rf 1024 0 x7.length 1 (x7.length * 1)) [] aln (shc 1024 (rowF encI_ok _) shn) (.rf (memP_mem (p := (1024, 1024)) rfl))
  · intro a0 a1 a2 x6 x8 x9 x10 r h
    unfold spec_Assign.l2 at h
    refine .loop' [c_ 518448, c_ 518449, c_ 259225, l_ 64806, b_ 4, b_ 3, c_ 4051, l_ 506, b_ 2, c_ 127] ?_
    refine .reg' [0, 1, 2, 7, 9, 10, 11, 12, 54] [] ⟨[(0, (.sl true a0.length 1 (a0.flatMap encI))), (1, (.sl true a1.length 3 (a1.flatMap e49))), (2, (I a2)), (7, (.rf 1024 0 x9.length 1 (x9.length * 1))), (9, (.rf 1002305 0 x6.length 1 (x6.length * 1))), (10, (I x8)), (11, (I (at_ x6 x8))), (12, (I x10)), (54, (B (decide (x10 ≥ 0))))], [(1024, (x9.flatMap encI)), (1002305, (x6.flatMap encI))], [], []⟩ [c_ 518449, c_ 259225, l_ 64806, b_ 4, b_ 3, c_ 4051, l_ 506, b_ 2, c_ 127] aln nocal ?_
    by_cases c8 : x10 ≥ 0
    · rw [if_pos c8] at h
      refine .cond' (.tmp 54) true [c_ 2073800, c_ 2073801, b_ 5, c_ 518451, l_ 64806, b_ 4, b_ 3, c_ 4051, l_ 506, b_ 2, c_ 127] (bT (dT c8)) ?_
      by_cases c9 : 0 ≤ x10
      · rw [if_pos c9] at h
        by_cases c10 : x10 < (a0.length : Int)
        · rw [if_pos c10] at h
          by_cases c11 : 0 ≤ (at_ x6 x8)
          · rw [if_pos c11] at h
            by_cases c12 : (at_ x6 x8) < (a1.length : Int)
            · rw [if_pos c12] at h
              refine .reg' [0, 1, 2, 7, 9, 10, 11, 12, 13] [.no, .no, .no, .v (I (at_ a0 x10)), .no, .no, .no, .no, .v (I (at_ a1 (at_ x6 x8)).f2)] ⟨[(0, (.sl true a0.length 1 (a0.flatMap encI))), (1, (.sl true a1.length 3 (a1.flatMap e49))), (2, (I a2)), (7, (.rf 1024 0 x9.length 1 (x9.length * 1))), (9, (.rf 1002305 0 x6.length 1 (x6.length * 1))), (10, (I x8)), (11, (I (at_ x6 x8))), (12, (I x10)), (13, (B (decide ((at_ a0 x10) ≥ (at_ a1 (at_ x6 x8)).f2))))], [(1024, (x9.flatMap encI)), (1002305, (x6.flatMap encI))], [(0 : Int) ≤ x10 ∧ x10 < (a0.length : Int), rdC prog 3 ((a0.flatMap encI).drop (x10.toNat * 1)) = (I (at_ a0 x10)), 1 ≤ ((a0.flatMap encI).drop (x10.toNat * 1)).length, (0 : Int) ≤ (at_ x6 x8) ∧ (at_ x6 x8) < (a1.length : Int), rdC prog 3 (((a1.flatMap e49).drop ((at_ x6 x8).toNat * 3)).drop 2) = (I (at_ a1 (at_ x6 x8)).f2), 1 ≤ (((a1.flatMap e49).drop ((at_ x6 x8).toNat * 3)).drop 2).length], []⟩ [c_ 8295204, c_ 8295205, c_ 4147603, b_ 5, c_ 518451, l_ 64806, b_ 4, b_ 3, c_ 4051, l_ 506, b_ 2, c_ 127] (alc ⟨c9, c10⟩ (alc (ldC1 encI_ok rfl c9 c10) (alc (okI encI_ok c9 c10 (by decide)) (alc ⟨c11, c12⟩ (alc (ldC e49_ok 2 (by decide) rfl c11 c12) (alc (okIj e49_ok c11 c12 (by decide)) aln)))))) nocal ?_
              refine .reg' [0, 1, 2, 7, 9, 10, 11, 12, 13, 14] [] ⟨[(0, (.sl true a0.length 1 (a0.flatMap encI))), (1, (.sl true a1.length 3 (a1.flatMap e49))), (2, (I a2)), (7, (.rf 1024 0 x9.length 1 (x9.length * 1))), (9, (.rf 1002305 0 x6.length 1 (x6.length * 1))), (10, (I x8)), (11, (I (at_ x6 x8))), (12, (I x10)), (13, (B (decide ((at_ a0 x10) ≥ (at_ a1 (at_ x6 x8)).f2)))), (14, (I 0))], [(1024, (x9.flatMap encI)), (1002305, (x6.flatMap encI))], [], []⟩ [l_ 16590410, b_ 6, c_ 4147603, b_ 5, c_ 518451, l_ 64806, b_ 4, b_ 3, c_ 4051, l_ 506, b_ 2, c_ 127] aln nocal ?_
              exact ih3 a0 a1 a2 x6 x8 x9 x10 (decide ((at_ a0 x10) ≥ (at_ a1 (at_ x6 x8)).f2)) 0 _ h
            · rw [if_neg c12] at h
              cases h
          · rw [if_neg c11] at h
            cases h
        · rw [if_neg c10] at h
          cases h
      · rw [if_neg c9] at h
        cases h
    · rw [if_neg c8] at h
      refine .cond' (.tmp 54) false [c_ 4051, l_ 506, b_ 2, c_ 127] (bF (dF c8)) ?_
      refine .reg' [0, 1, 2, 7, 9, 10] [] ⟨[(0, (.sl true a0.length 1 (a0.flatMap encI))), (1, (.sl true a1.length 3 (a1.flatMap e49))), (2, (I a2)), (7, (.rf 1024 0 x9.length 1 (x9.length * 1))), (9, (.rf 1002305 0 x6.length 1 (x6.length * 1))), (10, (I (wrap64 (x8 + 1))))], [(1024, (x9.flatMap encI)), (1002305, (x6.flatMap encI))], [], []⟩ [l_ 506, b_ 2, c_ 127] aln nocal ?_
      exact ih1 a0 a1 a2 x6 x9 (wrap64 (x8 + 1)) _ h
  · intro a0 a1 a2 x6 x8 x9 x10 x11 x12 r h
    unfold spec_Assign.l3 at h
    refine .loop' [c_ 132723280, c_ 132723281, c_ 66361641, l_ 16590410, b_ 6, c_ 4147603, b_ 5, c_ 518451, l_ 64806, b_ 4, b_ 3, c_ 4051, l_ 506, b_ 2, c_ 127] ?_
    refine .reg' [0, 1, 2, 7, 9, 10, 11, 12, 13, 14, 69] [] ⟨[(0, (.sl true a0.length 1 (a0.flatMap encI))), (1, (.sl true a1.length 3 (a1.flatMap e49))), (2, (I a2)), (7, (.rf 1024 0 x9.length 1 (x9.length * 1))), (9, (.rf 1002305 0 x6.length 1 (x6.length * 1))), (10, (I x8)), (11, (I (at_ x6 x8))), (12, (I x10)), (13, (B x11)), (14, (I x12)), (69, (B (decide (x12 < x8))))], [(1024, (x9.flatMap encI)), (1002305, (x6.flatMap encI))], [], []⟩ [c_ 132723281, c_ 66361641, l_ 16590410, b_ 6, c_ 4147603, b_ 5, c_ 518451, l_ 64806, b_ 4, b_ 3, c_ 4051, l_ 506, b_ 2, c_ 127] aln nocal ?_
    by_cases c13 : x12 < x8
    · rw [if_pos c13] at h
      refine .cond' (.tmp 69) true [c_ 530893128, c_ 530893129, b_ 7, c_ 132723283, l_ 16590410, b_ 6, c_ 4147603, b_ 5, c_ 518451, l_ 64806, b_ 4, b_ 3, c_ 4051, l_ 506, b_ 2, c_ 127] (bT (dT c13)) ?_
      by_cases c14 : 0 ≤ x12
      · rw [if_pos c14] at h
        by_cases c15 : x12 < (x6.length : Int)
        · rw [if_pos c15] at h
          by_cases c16 : 0 ≤ (at_ x6 x12)
          · rw [if_pos c16] at h
            by_cases c17 : (at_ x6 x12) < (x9.length : Int)
            · rw [if_pos c17] at h
              by_cases c18 : (at_ x9 (at_ x6 x12)) = x10
              · rw [if_pos c18] at h
                by_cases c19 : 0 ≤ (at_ x6 x8)
                · rw [if_pos c19] at h
                  by_cases c20 : (at_ x6 x8) < (a1.length : Int)
                  · rw [if_pos c20] at h
                    by_cases c21 : (at_ x6 x12) < (a1.length : Int)
                    · rw [if_pos c21] at h
                      obtain ⟨x13, hx13, h⟩ := Option.bind_eq_some_iff.mp h
                      refine .reg' [0, 1, 2, 7, 9, 10, 11, 12, 13, 14, 95] [.no, .no, .no, .no, .v (I (at_ x6 x12)), .no, .v (I (at_ x9 (at_ x6 x12))), .no, .no, .v (B true), .no, .no, .no, .v (.ag [(I (at_ a1 (at_ x6 x8)).f0), (I (at_ a1 (at_ x6 x8)).f1), (I (at_ a1 (at_ x6 x8)).f2)]), .no, .no, .no, .no, .v (I (at_ x6 x12)), .no, .v (.ag [(I (at_ a1 (at_ x6 x12)).f0), (I (at_ a1 (at_ x6 x12)).f1), (I (at_ a1 (at_ x6 x12)).f2)]), .no, .c ⟨48, [(.ag [(I (at_ a1 (at_ x6 x8)).f0), (I (at_ a1 (at_ x6 x8)).f1), (I (at_ a1 (at_ x6 x8)).f2)]), (.ag [(I (at_ a1 (at_ x6 x12)).f0), (I (at_ a1 (at_ x6 x12)).f1), (I (at_ a1 (at_ x6 x12)).f2)]), (I a2)], [], (B x13), [], [], [], [], (B x13), []⟩] ⟨[(0, (.sl true a0.length 1 (a0.flatMap encI))), (1, (.sl true a1.length 3 (a1.flatMap e49))), (2, (I a2)), (7, (.rf 1024 0 x9.length 1 (x9.length * 1))), (9, (.rf 1002305 0 x6.length 1 (x6.length * 1))), (10, (I x8)), (11, (I (at_ x6 x8))), (12, (I x10)), (13, (B x11)), (14, (I x12)), (95, (B x13))], [(1024, (x9.flatMap encI)), (1002305, (x6.flatMap encI))], [(0 : Int) ≤ x12 ∧ x12 < (x6.length : Int), rdC prog 3 ((x6.flatMap encI).drop (0 + x12.toNat * 1)) = (I (at_ x6 x12)), x6.length * 1 = (x6.flatMap encI).length ∧ 0 + x12.toNat * 1 + 1 ≤ (x6.flatMap encI).length, (0 : Int) ≤ (at_ x6 x12) ∧ (at_ x6 x12) < (x9.length : Int), rdC prog 3 ((x9.flatMap encI).drop (0 + (at_ x6 x12).toNat * 1)) = (I (at_ x9 (at_ x6 x12))), x9.length * 1 = (x9.flatMap encI).length ∧ 0 + (at_ x6 x12).toNat * 1 + 1 ≤ (x9.flatMap encI).length, (B ((at_ x9 (at_ x6 x12)) == x10) : V) = B true, (0 : Int) ≤ (at_ x6 x8) ∧ (at_ x6 x8) < (a1.length : Int), rdC prog 50 ((a1.flatMap e49).drop ((at_ x6 x8).toNat * 3)) = (.ag [(I (at_ a1 (at_ x6 x8)).f0), (I (at_ a1 (at_ x6 x8)).f1), (I (at_ a1 (at_ x6 x8)).f2)]), 3 ≤ ((a1.flatMap e49).drop ((at_ x6 x8).toNat * 3)).length, (0 : Int) ≤ x12 ∧ x12 < (x6.length : Int), rdC prog 3 ((x6.flatMap encI).drop (0 + x12.toNat * 1)) = (I (at_ x6 x12)), x6.length * 1 = (x6.flatMap encI).length ∧ 0 + x12.toNat * 1 + 1 ≤ (x6.flatMap encI).length, (0 : Int) ≤ (at_ x6 x12) ∧ (at_ x6 x12) < (a1.length : Int), rdC prog 50 ((a1.flatMap e49).drop ((at_ x6 x12).toNat * 3)) = (.ag [(I (at_ a1 (at_ x6 x12)).f0), (I (at_ a1 (at_ x6 x12)).f1), (I (at_ a1 (at_ x6 x12)).f2)]), 3 ≤ ((a1.flatMap e49).drop ((at_ x6 x12).toNat * 3)).length, COK (hget [(1024, (x9.flatMap encI)), (1002305, (x6.flatMap encI))]) [(.ag [(I (at_ a1 (at_ x6 x8)).f0), (I (at_ a1 (at_ x6 x8)).f1), (I (at_ a1 (at_ x6 x8)).f2)]), (.ag [(I (at_ a1 (at_ x6 x12)).f0), (I (at_ a1 (at_ x6 x12)).f1), (I (at_ a1 (at_ x6 x12)).f2)]), (I a2)] ⟨48, [(.ag [(I (at_ a1 (at_ x6 x8)).f0), (I (at_ a1 (at_ x6 x8)).f1), (I (at_ a1 (at_ x6 x8)).f2)]), (.ag [(I (at_ a1 (at_ x6 x12)).f0), (I (at_ a1 (at_ x6 x12)).f1), (I (at_ a1 (at_ x6 x12)).f2)]), (I a2)], [], (B x13), [], [], [], [], (B x13), []⟩], [⟨48, [(.ag [(I (at_ a1 (at_ x6 x8)).f0), (I (at_ a1 (at_ x6 x8)).f1), (I (at_ a1 (at_ x6 x8)).f2)]), (.ag [(I (at_ a1 (at_ x6 x12)).f0), (I (at_ a1 (at_ x6 x12)).f1), (I (at_ a1 (at_ x6 x12)).f2)]), (I a2)], [], (B x13), [], [], [], [], (B x13), []⟩]⟩ [c_ 530893129, b_ 7, c_ 132723283, l_ 16590410, b_ 6, c_ 4147603, b_ 5, c_ 518451, l_ 64806, b_ 4, b_ 3, c_ 4051, l_ 506, b_ 2, c_ 127] (alc ⟨c14, c15⟩ (alc (ldC01 encI_ok rfl c14 c15) (alc (okA0 encI_ok c14 c15 (by decide)) (alc ⟨c16, c17⟩ (alc (ldC01 encI_ok rfl c16 c17) (alc (okA0 encI_ok c16 c17 (by decide)) (alc (bT (qT c18)) (alc ⟨c19, c20⟩ (alc (ldA e49_ok rfl rfl c19 c20) (alc (okI e49_ok c19 c20 (by decide)) (alc ⟨c14, c15⟩ (alc (ldC01 encI_ok rfl c14 c15) (alc (okA0 encI_ok c14 c15 (by decide)) (alc ⟨c16, c21⟩ (alc (ldA e49_ok rfl rfl c16 c21) (alc (okI e49_ok c16 c21 (by decide)) (alc (cok0 false (a2c (.z (frz_ag (a2c .s (a2c .s (a2c .s a2n))))) (a2c (.z (frz_ag (a2c .s (a2c .s (a2c .s a2n))))) (a2c (.z .s) a2n))) (.z .s) (fun h => absurd h (by decide))) aln))))))))))))))))) (acal (spec_l10Meet.J (at_ a1 (at_ x6 x8)) (at_ a1 (at_ x6 x12)) a2 _ hx13) nocal) ?_
                      by_cases c22 : x13 = true
                      · rw [if_pos c22] at h
                        refine .cond' (.tmp 95) true [c_ 1061786258, b_ 7, c_ 132723283, l_ 16590410, b_ 6, c_ 4147603, b_ 5, c_ 518451, l_ 64806, b_ 4, b_ 3, c_ 4051, l_ 506, b_ 2, c_ 127] (bT c22) ?_
                        refine .reg' [0, 1, 2, 7, 9, 10, 11, 12, 13, 14] [] ⟨[(0, (.sl true a0.length 1 (a0.flatMap encI))), (1, (.sl true a1.length 3 (a1.flatMap e49))), (2, (I a2)), (7, (.rf 1024 0 x9.length 1 (x9.length * 1))), (9, (.rf 1002305 0 x6.length 1 (x6.length * 1))), (10, (I x8)), (11, (I (at_ x6 x8))), (12, (I x10)), (13, (B false)), (14, (I x12))], [(1024, (x9.flatMap encI)), (1002305, (x6.flatMap encI))], [], []⟩ [c_ 132723283, l_ 16590410, b_ 6, c_ 4147603, b_ 5, c_ 518451, l_ 64806, b_ 4, b_ 3, c_ 4051, l_ 506, b_ 2, c_ 127] aln nocal ?_
                        refine .reg' [0, 1, 2, 7, 9, 10, 11, 12, 13, 14] [] ⟨[(0, (.sl true a0.length 1 (a0.flatMap encI))), (1, (.sl true a1.length 3 (a1.flatMap e49))), (2, (I a2)), (7, (.rf 1024 0 x9.length 1 (x9.length * 1))), (9, (.rf 1002305 0 x6.length 1 (x6.length * 1))), (10, (I x8)), (11, (I (at_ x6 x8))), (12, (I x10)), (13, (B false)), (14, (I (wrap64 (x12 + 1))))], [(1024, (x9.flatMap encI)), (1002305, (x6.flatMap encI))], [], []⟩ [l_ 16590410, b_ 6, c_ 4147603, b_ 5, c_ 518451, l_ 64806, b_ 4, b_ 3, c_ 4051, l_ 506, b_ 2, c_ 127] aln nocal ?_
                        exact ih3 a0 a1 a2 x6 x8 x9 x10 false (wrap64 (x12 + 1)) _ h
                      · rw [if_neg c22] at h
                        refine .cond' (.tmp 95) false [c_ 132723283, l_ 16590410, b_ 6, c_ 4147603, b_ 5, c_ 518451, l_ 64806, b_ 4, b_ 3, c_ 4051, l_ 506, b_ 2, c_ 127] (bF (vF c22)) ?_
                        refine .reg' [0, 1, 2, 7, 9, 10, 11, 12, 13, 14] [] ⟨[(0, (.sl true a0.length 1 (a0.flatMap encI))), (1, (.sl true a1.length 3 (a1.flatMap e49))), (2, (I a2)), (7, (.rf 1024 0 x9.length 1 (x9.length * 1))), (9, (.rf 1002305 0 x6.length 1 (x6.length * 1))), (10, (I x8)), (11, (I (at_ x6 x8))), (12, (I x10)), (13, (B x11)), (14, (I (wrap64 (x12 + 1))))], [(1024, (x9.flatMap encI)), (1002305, (x6.flatMap encI))], [], []⟩ [l_ 16590410, b_ 6, c_ 4147603, b_ 5, c_ 518451, l_ 64806, b_ 4, b_ 3, c_ 4051, l_ 506, b_ 2, c_ 127] aln nocal ?_
                        exact ih3 a0 a1 a2 x6 x8 x9 x10 x11 (wrap64 (x12 + 1)) _ h
                    · rw [if_neg c21] at h
                      cases h
                  · rw [if_neg c20] at h
                    cases h
                · rw [if_neg c19] at h
                  cases h
              · rw [if_neg c18] at h
                refine .reg' [0, 1, 2, 7, 9, 10, 11, 12, 13, 14, 95] [.no, .no, .no, .no, .v (I (at_ x6 x12)), .no, .v (I (at_ x9 (at_ x6 x12))), .no, .no, .v (B false)] ⟨[(0, (.sl true a0.length 1 (a0.flatMap encI))), (1, (.sl true a1.length 3 (a1.flatMap e49))), (2, (I a2)), (7, (.rf 1024 0 x9.length 1 (x9.length * 1))), (9, (.rf 1002305 0 x6.length 1 (x6.length * 1))), (10, (I x8)), (11, (I (at_ x6 x8))), (12, (I x10)), (13, (B x11)), (14, (I x12)), (95, (B false))], [(1024, (x9.flatMap encI)), (1002305, (x6.flatMap encI))], [(0 : Int) ≤ x12 ∧ x12 < (x6.length : Int), rdC prog 3 ((x6.flatMap encI).drop (0 + x12.toNat * 1)) = (I (at_ x6 x12)), x6.length * 1 = (x6.flatMap encI).length ∧ 0 + x12.toNat * 1 + 1 ≤ (x6.flatMap encI).length, (0 : Int) ≤ (at_ x6 x12) ∧ (at_ x6 x12) < (x9.length : Int), rdC prog 3 ((x9.flatMap encI).drop (0 + (at_ x6 x12).toNat * 1)) = (I (at_ x9 (at_ x6 x12))), x9.length * 1 = (x9.flatMap encI).length ∧ 0 + (at_ x6 x12).toNat * 1 + 1 ≤ (x9.flatMap encI).length, (B ((at_ x9 (at_ x6 x12)) == x10) : V) = B false], []⟩ [c_ 530893129, b_ 7, c_ 132723283, l_ 16590410, b_ 6, c_ 4147603, b_ 5, c_ 518451, l_ 64806, b_ 4, b_ 3, c_ 4051, l_ 506, b_ 2, c_ 127] (alc ⟨c14, c15⟩ (alc (ldC01 encI_ok rfl c14 c15) (alc (okA0 encI_ok c14 c15 (by decide)) (alc ⟨c16, c17⟩ (alc (ldC01 encI_ok rfl c16 c17) (alc (okA0 encI_ok c16 c17 (by decide)) (alc (bF (qF c18)) aln))))))) nocal ?_
                refine .cond' (.tmp 95) false [c_ 132723283, l_ 16590410, b_ 6, c_ 4147603, b_ 5, c_ 518451, l_ 64806, b_ 4, b_ 3, c_ 4051, l_ 506, b_ 2, c_ 127] (rfl) ?_
                refine .reg' [0, 1, 2, 7, 9, 10, 11, 12, 13, 14] [] ⟨[(0, (.sl true a0.length 1 (a0.flatMap encI))), (1, (.sl true a1.length 3 (a1.flatMap e49))), (2, (I a2)), (7, (.rf 1024 0 x9.length 1 (x9.length * 1))), (9, (.rf 1002305 0 x6.length 1 (x6.length * 1))), (10, (I x8)), (11, (I (at_ x6 x8))), (12, (I x10)), (13, (B x11)), (14, (I (wrap64 (x12 + 1))))], [(1024, (x9.flatMap encI)), (1002305, (x6.flatMap encI))], [], []⟩ [l_ 16590410, b_ 6, c_ 4147603, b_ 5, c_ 518451, l_ 64806, b_ 4, b_ 3, c_ 4051, l_ 506, b_ 2, c_ 127] aln nocal ?_
                exact ih3 a0 a1 a2 x6 x8 x9 x10 x11 (wrap64 (x12 + 1)) _ h
            · rw [if_neg c17] at h
              cases h
          · rw [if_neg c16] at h
            cases h
        · rw [if_neg c15] at h
          cases h
      · rw [if_neg c14] at h
        cases h
    · rw [if_neg c13] at h
      refine .cond' (.tmp 69) false [c_ 8295206, c_ 8295207, b_ 5, c_ 518451, l_ 64806, b_ 4, b_ 3, c_ 4051, l_ 506, b_ 2, c_ 127] (bF (dF c13)) ?_
      refine .reg' [0, 1, 2, 7, 9, 10, 11, 12, 96] [] ⟨[(0, (.sl true a0.length 1 (a0.flatMap encI))), (1, (.sl true a1.length 3 (a1.flatMap e49))), (2, (I a2)), (7, (.rf 1024 0 x9.length 1 (x9.length * 1))), (9, (.rf 1002305 0 x6.length 1 (x6.length * 1))), (10, (I x8)), (11, (I (at_ x6 x8))), (12, (I x10)), (96, (B x11))], [(1024, (x9.flatMap encI)), (1002305, (x6.flatMap encI))], [], []⟩ [c_ 8295207, b_ 5, c_ 518451, l_ 64806, b_ 4, b_ 3, c_ 4051, l_ 506, b_ 2, c_ 127] aln nocal ?_
      by_cases c23 : x11 = true
      · rw [if_pos c23] at h
        refine .cond' (.tmp 96) true [c_ 16590414, b_ 5, c_ 518451, l_ 64806, b_ 4, b_ 3, c_ 4051, l_ 506, b_ 2, c_ 127] (bT c23) ?_
        by_cases c24 : 0 ≤ (at_ x6 x8)
        · rw [if_pos c24] at h
          by_cases c25 : (at_ x6 x8) < (x9.length : Int)
          · rw [if_pos c25] at h
            refine .reg' [0, 1, 2, 7, 9, 10, 11, 12] [.no, .no, .no, .no, .w .un ((x9.set (at_ x6 x8).toNat x10).flatMap encI)] ⟨[(0, (.sl true a0.length 1 (a0.flatMap encI))), (1, (.sl true a1.length 3 (a1.flatMap e49))), (2, (I a2)), (7, (.rf 1024 0 x9.length 1 (x9.length * 1))), (9, (.rf 1002305 0 x6.length 1 (x6.length * 1))), (10, (I x8)), (11, (I (at_ x6 x8))), (12, (I x10))], [(1024, ((x9.set (at_ x6 x8).toNat x10).flatMap encI)), (1002305, (x6.flatMap encI))], [(0 : Int) ≤ (at_ x6 x8) ∧ (at_ x6 x8) < (x9.length : Int), V.un = V.un, spl (x9.flatMap encI) (0 + (at_ x6 x8).toNat * 1) [(I x10)] = ((x9.set (at_ x6 x8).toNat x10).flatMap encI), x9.length * 1 = (x9.flatMap encI).length ∧ 0 + (at_ x6 x8).toNat * 1 + 1 ≤ (x9.flatMap encI).length], []⟩ [c_ 518451, l_ 64806, b_ 4, b_ 3, c_ 4051, l_ 506, b_ 2, c_ 127] (alc ⟨c24, c25⟩ (alc rfl (alc (st_row1 encI_ok c24 c25 (I x10) rfl) (alc (okA0 encI_ok c24 c25 (by decide)) aln)))) nocal ?_
            refine .eqs (env2 := [(0, (.sl true a0.length 1 (a0.flatMap encI))), (1, (.sl true a1.length 3 (a1.flatMap e49))), (2, (I a2)), (7, (.rf 1024 0 ((x9.set (at_ x6 x8).toNat x10).length) 1 ((x9.set (at_ x6 x8).toNat x10).length * 1))), (9, (.rf 1002305 0 x6.length 1 (x6.length * 1))), (10, (I x8)), (11, (I (at_ x6 x8))), (12, (I x10))]) (H2 := [(1024, ((x9.set (at_ x6 x8).toNat x10).flatMap encI)), (1002305, (x6.flatMap encI))]) (by first | (simp only [List.length_set]; done) | simp) (by first | rfl | (simp only [List.length_set]; done) | simp) ?_
            refine .reg' [0, 1, 2, 7, 9, 10, 11, 12] [] ⟨[(0, (.sl true a0.length 1 (a0.flatMap encI))), (1, (.sl true a1.length 3 (a1.flatMap e49))), (2, (I a2)), (7, (.rf 1024 0 ((x9.set (at_ x6 x8).toNat x10).length) 1 ((x9.set (at_ x6 x8).toNat x10).length * 1))), (9, (.rf 1002305 0 x6.length 1 (x6.length * 1))), (10, (I x8)), (11, (I (at_ x6 x8))), (12, (I (wrap64 (x10 - 1))))], [(1024, ((x9.set (at_ x6 x8).toNat x10).flatMap encI)), (1002305, (x6.flatMap encI))], [], []⟩ [l_ 64806, b_ 4, b_ 3, c_ 4051, l_ 506, b_ 2, c_ 127] aln nocal ?_
            exact ih2 a0 a1 a2 x6 x8 (x9.set (at_ x6 x8).toNat x10) (wrap64 (x10 - 1)) _ h
          · rw [if_neg c25] at h
            cases h
        · rw [if_neg c24] at h
          cases h
      · rw [if_neg c23] at h
        refine .cond' (.tmp 96) false [c_ 518451, l_ 64806, b_ 4, b_ 3, c_ 4051, l_ 506, b_ 2, c_ 127] (bF (vF c23)) ?_
        refine .reg' [0, 1, 2, 7, 9, 10, 11, 12] [] ⟨[(0, (.sl true a0.length 1 (a0.flatMap encI))), (1, (.sl true a1.length 3 (a1.flatMap e49))), (2, (I a2)), (7, (.rf 1024 0 x9.length 1 (x9.length * 1))), (9, (.rf 1002305 0 x6.length 1 (x6.length * 1))), (10, (I x8)), (11, (I (at_ x6 x8))), (12, (I (wrap64 (x10 - 1))))], [(1024, (x9.flatMap encI)), (1002305, (x6.flatMap encI))], [], []⟩ [l_ 64806, b_ 4, b_ 3, c_ 4051, l_ 506, b_ 2, c_ 127] aln nocal ?_
        exact ih2 a0 a1 a2 x6 x8 x9 (wrap64 (x10 - 1)) _ h
theorem spec_Assign.J (k : Nat) (a0 : (List Int)) (a1 : (List S49)) (a2 : Int) (r : (List Int)) (h : spec_Assign.f k a0 a1 a2 = some r) : J prog (.call 30 [(.sl true a0.length 1 (a0.flatMap encI)), (.sl true a1.length 3 (a1.flatMap e49)), (I a2)] [] (.rf 1024 0 r.length 1 (r.length * 1)) [(1024, (r.flatMap encI))]) := by
  unfold spec_Assign.f at h
  obtain ⟨ih0, ih1, ih2, ih3⟩ := spec_Assign.lab k
  refine .call' [c_ 2, c_ 3] ?_
  refine .reg' [0, 1, 2] [] ⟨[(0, (.sl true a0.length 1 (a0.flatMap encI))), (1, (.sl true a1.length 3 (a1.flatMap e49))), (2, (I a2))], [], [], []⟩ [c_ 12, c_ 13, c_ 7] aln nocal ?_
  obtain ⟨x1, hx1, h⟩ := Option.bind_eq_some_iff.mp h
  by_cases c1 : x1 = true
  · rw [if_pos c1] at h
    obtain ⟨x2, hx2, h⟩ := Option.bind_eq_some_iff.mp h
    by_cases c2 : x2 = true
    · rw [if_pos c2] at h
      obtain ⟨x3, hx3, h⟩ := Option.bind_eq_some_iff.mp h
      refine .reg' [0, 1, 2, 27] [.no, .c ⟨12, [(.sl true a0.length 1 (a0.flatMap encI))], [], (B x1), [], [], [], [], (B x1), []⟩, .no, .v (B false), .no, .c ⟨17, [(.sl true a1.length 3 (a1.flatMap e49))], [], (B x2), [], [], [], [], (B x2), []⟩, .no, .no, .v (B false), .no, .c ⟨44, [(I a2)], [], (B x3), [], [], [], [], (B x3), []⟩] ⟨[(0, (.sl true a0.length 1 (a0.flatMap encI))), (1, (.sl true a1.length 3 (a1.flatMap e49))), (2, (I a2)), (27, (B (!x3)))], [], [COK (hget []) [(.sl true a0.length 1 (a0.flatMap encI))] ⟨12, [(.sl true a0.length 1 (a0.flatMap encI))], [], (B x1), [], [], [], [], (B x1), []⟩, (B (!x1) : V) = B false, COK (hget []) [(.sl true a1.length 3 (a1.flatMap e49))] ⟨17, [(.sl true a1.length 3 (a1.flatMap e49))], [], (B x2), [], [], [], [], (B x2), []⟩, (B (!x2) : V) = B false, COK (hget []) [(I a2)] ⟨44, [(I a2)], [], (B x3), [], [], [], [], (B x3), []⟩], [⟨12, [(.sl true a0.length 1 (a0.flatMap encI))], [], (B x1), [], [], [], [], (B x1), []⟩, ⟨17, [(.sl true a1.length 3 (a1.flatMap e49))], [], (B x2), [], [], [], [], (B x2), []⟩, ⟨44, [(I a2)], [], (B x3), [], [], [], [], (B x3), []⟩]⟩ [c_ 13, c_ 7] (alc (cok0 false (a2c (.z (frz_sl encI_ok (fun h => h))) a2n) (.z .s) (fun h => absurd h (by decide))) (alc (bF (nF c1)) (alc (cok0 false (a2c (.z (frz_sl e49_ok (fun h => h))) a2n) (.z .s) (fun h => absurd h (by decide))) (alc (bF (nF c2)) (alc (cok0 false (a2c (.z .s) a2n) (.z .s) (fun h => absurd h (by decide))) aln))))) (acal (spec_BaysOk.J k a0 _ hx1) (acal (spec_StaysOk.J k a1 _ hx2) (acal (spec_l10Gap.J a2 _ hx3) nocal))) ?_
      by_cases c3 : x3 = true
      · rw [if_pos c3] at h
        refine .cond' (.tmp 27) false [c_ 14, c_ 15] (bF (nF c3)) ?_
        refine .reg' [0, 1, 2, 7] [] ⟨[(0, (.sl true a0.length 1 (a0.flatMap encI))), (1, (.sl true a1.length 3 (a1.flatMap e49))), (2, (I a2)), (7, (.rf 1024 0 (([] : List Int).length) 1 (([] : List Int).length * 1)))], [(1024, (([] : List Int).flatMap encI))], [], []⟩ [c_ 60, c_ 61, c_ 31] aln nocal ?_
        refine .reg' [0, 1, 2, 7, 8] [] ⟨[(0, (.sl true a0.length 1 (a0.flatMap encI))), (1, (.sl true a1.length 3 (a1.flatMap e49))), (2, (I a2)), (7, (.rf 1024 0 (([] : List Int).length) 1 (([] : List Int).length * 1))), (8, (I 0))], [(1024, (([] : List Int).flatMap encI))], [], []⟩ [l_ 122, b_ 0, c_ 31] aln nocal ?_
        exact ih0 a0 a1 a2 ([] : List Int) 0 _ h
      · rw [if_neg c3] at h
        refine .cond' (.tmp 27) true [c_ 52, c_ 53, c_ 7] (bT (nT (vF c3))) ?_
        refine .reg' [6] [] ⟨[(6, nilS)], [], [], []⟩ [c_ 53, c_ 7] aln nocal ?_
        have h := Option.some.inj h
        subst h
        refine .nl' 1024 ?_
        exact .fin' [] [(1024, 1024)] nilS [] aln (shc 1024 (rowF encI_ok _) shn) (.nl (memP_mem (p := (1024, 1024)) rfl) rfl)
    · rw [if_neg c2] at h
      refine .reg' [0, 1, 2, 27] [.no, .c ⟨12, [(.sl true a0.length 1 (a0.flatMap encI))], [], (B x1), [], [], [], [], (B x1), []⟩, .no, .v (B false), .no, .c ⟨17, [(.sl true a1.length 3 (a1.flatMap e49))], [], (B x2), [], [], [], [], (B x2), []⟩, .no, .no, .v (B true)] ⟨[(0, (.sl true a0.length 1 (a0.flatMap encI))), (1, (.sl true a1.length 3 (a1.flatMap e49))), (2, (I a2)), (27, (B true))], [], [COK (hget []) [(.sl true a0.length 1 (a0.flatMap encI))] ⟨12, [(.sl true a0.length 1 (a0.flatMap encI))], [], (B x1), [], [], [], [], (B x1), []⟩, (B (!x1) : V) = B false, COK (hget []) [(.sl true a1.length 3 (a1.flatMap e49))] ⟨17, [(.sl true a1.length 3 (a1.flatMap e49))], [], (B x2), [], [], [], [], (B x2), []⟩, (B (!x2) : V) = B true], [⟨12, [(.sl true a0.length 1 (a0.flatMap encI))], [], (B x1), [], [], [], [], (B x1), []⟩, ⟨17, [(.sl true a1.length 3 (a1.flatMap e49))], [], (B x2), [], [], [], [], (B x2), []⟩]⟩ [c_ 13, c_ 7] (alc (cok0 false (a2c (.z (frz_sl encI_ok (fun h => h))) a2n) (.z .s) (fun h => absurd h (by decide))) (alc (bF (nF c1)) (alc (cok0 false (a2c (.z (frz_sl e49_ok (fun h => h))) a2n) (.z .s) (fun h => absurd h (by decide))) (alc (bT (nT (vF c2))) aln)))) (acal (spec_BaysOk.J k a0 _ hx1) (acal (spec_StaysOk.J k a1 _ hx2) nocal)) ?_
      refine .cond' (.tmp 27) true [c_ 52, c_ 53, c_ 7] (rfl) ?_
      refine .reg' [6] [] ⟨[(6, nilS)], [], [], []⟩ [c_ 53, c_ 7] aln nocal ?_
      have h := Option.some.inj h
      subst h
      refine .nl' 1024 ?_
      exact .fin' [] [(1024, 1024)] nilS [] aln (shc 1024 (rowF encI_ok _) shn) (.nl (memP_mem (p := (1024, 1024)) rfl) rfl)
  · rw [if_neg c1] at h
    refine .reg' [0, 1, 2, 27] [.no, .c ⟨12, [(.sl true a0.length 1 (a0.flatMap encI))], [], (B x1), [], [], [], [], (B x1), []⟩, .no, .v (B true)] ⟨[(0, (.sl true a0.length 1 (a0.flatMap encI))), (1, (.sl true a1.length 3 (a1.flatMap e49))), (2, (I a2)), (27, (B true))], [], [COK (hget []) [(.sl true a0.length 1 (a0.flatMap encI))] ⟨12, [(.sl true a0.length 1 (a0.flatMap encI))], [], (B x1), [], [], [], [], (B x1), []⟩, (B (!x1) : V) = B true], [⟨12, [(.sl true a0.length 1 (a0.flatMap encI))], [], (B x1), [], [], [], [], (B x1), []⟩]⟩ [c_ 13, c_ 7] (alc (cok0 false (a2c (.z (frz_sl encI_ok (fun h => h))) a2n) (.z .s) (fun h => absurd h (by decide))) (alc (bT (nT (vF c1))) aln)) (acal (spec_BaysOk.J k a0 _ hx1) nocal) ?_
    refine .cond' (.tmp 27) true [c_ 52, c_ 53, c_ 7] (rfl) ?_
    refine .reg' [6] [] ⟨[(6, nilS)], [], [], []⟩ [c_ 53, c_ 7] aln nocal ?_
    have h := Option.some.inj h
    subst h
    refine .nl' 1024 ?_
    exact .fin' [] [(1024, 1024)] nilS [] aln (shc 1024 (rowF encI_ok _) shn) (.nl (memP_mem (p := (1024, 1024)) rfl) rfl)
/-! spec_ShortOf: function 32 -/
def spec_ShortOf.l0 : Nat → (List Int) → (List Int) → Int → Option Int
 | 0, _, _, _ => none
 | k + 1, x1, x2, x3 => (if x3 < (x2.length : Int) then (if 0 ≤ x3 then (if 0 ≤ (at_ x2 x3) then (if (at_ x2 x3) < (x1.length : Int) then (if (at_ x1 (at_ x2 x3)) < 0 then (some (at_ x2 x3)) else (spec_ShortOf.l0 k x1 x2 (wrap64 (x3 + 1)))) else none) else none) else none) else (some (-1)))
def spec_ShortOf.f (k : Nat) (a0 : (List Int)) (a1 : (List S49)) (a2 : Int) : Option Int := ((spec_Assign.f k a0 a1 a2).bind fun x1 => (if (x1.length : Int) = 0 then (some (-1)) else ((spec_l10Order.f k a1).bind fun x2 => (spec_ShortOf.l0 k x1 x2 0))))
theorem spec_ShortOf.lab : ∀ k, (∀ (x1 : (List Int)) (x2 : (List Int)) (x3 : Int) (r : Int), spec_ShortOf.l0 k x1 x2 x3 = some r → J prog (.run 32 [] [l_ 250, b_ 0, c_ 63] [(7, (.rf 1000515 0 x1.length 1 (x1.length * 1))), (8, (.rf 1001281 0 x2.length 1 (x2.length * 1))), (9, (I x3))] [(1000515, (x1.flatMap encI)), (1001281, (x2.flatMap encI))] (I r) []))
 | 0 => (by intro x1 x2 x3 r h; unfold spec_ShortOf.l0 at h; cases h)
 | k + 1 => by
  have ih0 := spec_ShortOf.lab k
  · intro x1 x2 x3 r h
    unfold spec_ShortOf.l0 at h
    refine .loop' [c_ 2000, c_ 2001, c_ 1001, l_ 250, b_ 0, c_ 63] ?_
    refine .reg' [7, 8, 9, 22] [] ⟨[(7, (.rf 1000515 0 x1.length 1 (x1.length * 1))), (8, (.rf 1001281 0 x2.length 1 (x2.length * 1))), (9, (I x3)), (22, (B (decide (x3 < (x2.length : Int)))))], [(1000515, (x1.flatMap encI)), (1001281, (x2.flatMap encI))], [], []⟩ [c_ 2001, c_ 1001, l_ 250, b_ 0, c_ 63] aln nocal ?_
    by_cases c2 : x3 < (x2.length : Int)
    · rw [if_pos c2] at h
      refine .cond' (.tmp 22) true [c_ 8008, c_ 8009, b_ 1, c_ 2003, l_ 250, b_ 0, c_ 63] (bT (dT c2)) ?_
      by_cases c3 : 0 ≤ x3
      · rw [if_pos c3] at h
        by_cases c4 : 0 ≤ (at_ x2 x3)
        · rw [if_pos c4] at h
          by_cases c5 : (at_ x2 x3) < (x1.length : Int)
          · rw [if_pos c5] at h
            refine .reg' [7, 8, 9, 32] [.no, .no, .no, .no, .v (I (at_ x2 x3)), .no, .v (I (at_ x1 (at_ x2 x3)))] ⟨[(7, (.rf 1000515 0 x1.length 1 (x1.length * 1))), (8, (.rf 1001281 0 x2.length 1 (x2.length * 1))), (9, (I x3)), (32, (B (decide ((at_ x1 (at_ x2 x3)) < 0))))], [(1000515, (x1.flatMap encI)), (1001281, (x2.flatMap encI))], [(0 : Int) ≤ x3 ∧ x3 < (x2.length : Int), rdC prog 3 ((x2.flatMap encI).drop (0 + x3.toNat * 1)) = (I (at_ x2 x3)), x2.length * 1 = (x2.flatMap encI).length ∧ 0 + x3.toNat * 1 + 1 ≤ (x2.flatMap encI).length, (0 : Int) ≤ (at_ x2 x3) ∧ (at_ x2 x3) < (x1.length : Int), rdC prog 3 ((x1.flatMap encI).drop (0 + (at_ x2 x3).toNat * 1)) = (I (at_ x1 (at_ x2 x3))), x1.length * 1 = (x1.flatMap encI).length ∧ 0 + (at_ x2 x3).toNat * 1 + 1 ≤ (x1.flatMap encI).length], []⟩ [c_ 8009, b_ 1, c_ 2003, l_ 250, b_ 0, c_ 63] (alc ⟨c3, c2⟩ (alc (ldC01 encI_ok rfl c3 c2) (alc (okA0 encI_ok c3 c2 (by decide)) (alc ⟨c4, c5⟩ (alc (ldC01 encI_ok rfl c4 c5) (alc (okA0 encI_ok c4 c5 (by decide)) aln)))))) nocal ?_
            by_cases c6 : (at_ x1 (at_ x2 x3)) < 0
            · rw [if_pos c6] at h
              refine .cond' (.tmp 32) true [c_ 32036, c_ 32037, b_ 1, c_ 2003, l_ 250, b_ 0, c_ 63] (bT (dT c6)) ?_
              refine .reg' [6] [.no, .no, .no, .v (I (at_ x2 x3))] ⟨[(6, (I (at_ x2 x3)))], [(1000515, (x1.flatMap encI)), (1001281, (x2.flatMap encI))], [(0 : Int) ≤ x3 ∧ x3 < (x2.length : Int), rdC prog 3 ((x2.flatMap encI).drop (0 + x3.toNat * 1)) = (I (at_ x2 x3)), x2.length * 1 = (x2.flatMap encI).length ∧ 0 + x3.toNat * 1 + 1 ≤ (x2.flatMap encI).length], []⟩ [c_ 32037, b_ 1, c_ 2003, l_ 250, b_ 0, c_ 63] (alc ⟨c3, c2⟩ (alc (ldC01 encI_ok rfl c3 c2) (alc (okA0 encI_ok c3 c2 (by decide)) aln))) nocal ?_
              have h := Option.some.inj h
              subst h
              exact .fin0 [] (I (at_ x2 x3)) [] aln (.z .s)
            · rw [if_neg c6] at h
              refine .cond' (.tmp 32) false [c_ 2003, l_ 250, b_ 0, c_ 63] (bF (dF c6)) ?_
              refine .reg' [7, 8, 9] [] ⟨[(7, (.rf 1000515 0 x1.length 1 (x1.length * 1))), (8, (.rf 1001281 0 x2.length 1 (x2.length * 1))), (9, (I (wrap64 (x3 + 1))))], [(1000515, (x1.flatMap encI)), (1001281, (x2.flatMap encI))], [], []⟩ [l_ 250, b_ 0, c_ 63] aln nocal ?_
              exact ih0 x1 x2 (wrap64 (x3 + 1)) _ h
          · rw [if_neg c5] at h
            cases h
        · rw [if_neg c4] at h
          cases h
      · rw [if_neg c3] at h
        cases h
    · rw [if_neg c2] at h
      refine .cond' (.tmp 22) false [c_ 126, c_ 127] (bF (dF c2)) ?_
      refine .reg' [6] [] ⟨[(6, (I (-1)))], [(1000515, (x1.flatMap encI)), (1001281, (x2.flatMap encI))], [], []⟩ [c_ 127] aln nocal ?_
      have h := Option.some.inj h
      subst h
      exact .fin0 [] (I (-1)) [] aln (.z .s)
theorem spec_ShortOf.J (k : Nat) (a0 : (List Int)) (a1 : (List S49)) (a2 : Int) (r : Int) (h : spec_ShortOf.f k a0 a1 a2 = some r) : J prog (.call 32 [(.sl true a0.length 1 (a0.flatMap encI)), (.sl true a1.length 3 (a1.flatMap e49)), (I a2)] [] (I r) []) := by
  unfold spec_ShortOf.f at h
  have ih0 := spec_ShortOf.lab k
  refine .call' [c_ 2, c_ 3] ?_
  refine .reg' [0, 1, 2] [] ⟨[(0, (.sl true a0.length 1 (a0.flatMap encI))), (1, (.sl true a1.length 3 (a1.flatMap e49))), (2, (I a2))], [], [], []⟩ [c_ 6, c_ 7] aln nocal ?_
  obtain ⟨x1, hx1, h⟩ := Option.bind_eq_some_iff.mp h
  refine .reg' [1, 7] [.no, .no, .no, .c ⟨30, [(.sl true a0.length 1 (a0.flatMap encI)), (.sl true a1.length 3 (a1.flatMap e49)), (I a2)], [], (.rf 1024 0 x1.length 1 (x1.length * 1)), [(1024, (x1.flatMap encI))], [], [], [(1000515, 1024)], (.rf 1000515 0 x1.length 1 (x1.length * 1)), [(1000515, (x1.flatMap encI))]⟩] ⟨[(1, (.sl true a1.length 3 (a1.flatMap e49))), (7, (.rf 1000515 0 x1.length 1 (x1.length * 1)))], [(1000515, (x1.flatMap encI))], [COK (hget []) [(.sl true a0.length 1 (a0.flatMap encI)), (.sl true a1.length 3 (a1.flatMap e49)), (I a2)] ⟨30, [(.sl true a0.length 1 (a0.flatMap encI)), (.sl true a1.length 3 (a1.flatMap e49)), (I a2)], [], (.rf 1024 0 x1.length 1 (x1.length * 1)), [(1024, (x1.flatMap encI))], [], [], [(1000515, 1024)], (.rf 1000515 0 x1.length 1 (x1.length * 1)), [(1000515, (x1.flatMap encI))]⟩], [⟨30, [(.sl true a0.length 1 (a0.flatMap encI)), (.sl true a1.length 3 (a1.flatMap e49)), (I a2)], [], (.rf 1024 0 x1.length 1 (x1.length * 1)), [(1024, (x1.flatMap encI))], [], [], [(1000515, 1024)], (.rf 1000515 0 x1.length 1 (x1.length * 1)), [(1000515, (x1.flatMap encI))]⟩]⟩ [c_ 28, c_ 29, c_ 15] (alc (cokW false (a2c (.z (frz_sl encI_ok (fun h => h))) (a2c (.z (frz_sl e49_ok (fun h => h))) (a2c (.z .s) a2n))) akn (akc (.inr rfl) akn) (.rf (memP_mem (p := (1000515, 1024)) rfl)) (akc ⟨_, _, rfl, rfl, rowB encI_c _⟩ akn) (fun h => absurd h (by decide))) aln) (acal (spec_Assign.J k a0 a1 a2 _ hx1) nocal) ?_
  refine .reg' [1, 7, 16] [] ⟨[(1, (.sl true a1.length 3 (a1.flatMap e49))), (7, (.rf 1000515 0 x1.length 1 (x1.length * 1))), (16, (B ((x1.length : Int) == 0)))], [(1000515, (x1.flatMap encI))], [], []⟩ [c_ 29, c_ 15] aln nocal ?_
  by_cases c1 : (x1.length : Int) = 0
  · rw [if_pos c1] at h
    refine .cond' (.tmp 16) true [c_ 116, c_ 117, c_ 15] (bT (qT c1)) ?_
    refine .reg' [6] [] ⟨[(6, (I (-1)))], [(1000515, (x1.flatMap encI))], [], []⟩ [c_ 117, c_ 15] aln nocal ?_
    have h := Option.some.inj h
    subst h
    exact .fin0 [] (I (-1)) [] aln (.z .s)
  · rw [if_neg c1] at h
    refine .cond' (.tmp 16) false [c_ 30, c_ 31] (bF (qF c1)) ?_
    obtain ⟨x2, hx2, h⟩ := Option.bind_eq_some_iff.mp h
    refine .reg' [7, 8] [.no, .c ⟨50, [(.sl true a1.length 3 (a1.flatMap e49))], [], (.rf 512 0 x2.length 1 (x2.length * 1)), [(512, (x2.flatMap encI))], [], [], [(1001281, 512)], (.rf 1001281 0 x2.length 1 (x2.length * 1)), [(1001281, (x2.flatMap encI))]⟩] ⟨[(7, (.rf 1000515 0 x1.length 1 (x1.length * 1))), (8, (.rf 1001281 0 x2.length 1 (x2.length * 1)))], [(1000515, (x1.flatMap encI)), (1001281, (x2.flatMap encI))], [COK (hget [(1000515, (x1.flatMap encI))]) [(.sl true a1.length 3 (a1.flatMap e49))] ⟨50, [(.sl true a1.length 3 (a1.flatMap e49))], [], (.rf 512 0 x2.length 1 (x2.length * 1)), [(512, (x2.flatMap encI))], [], [], [(1001281, 512)], (.rf 1001281 0 x2.length 1 (x2.length * 1)), [(1001281, (x2.flatMap encI))]⟩], [⟨50, [(.sl true a1.length 3 (a1.flatMap e49))], [], (.rf 512 0 x2.length 1 (x2.length * 1)), [(512, (x2.flatMap encI))], [], [], [(1001281, 512)], (.rf 1001281 0 x2.length 1 (x2.length * 1)), [(1001281, (x2.flatMap encI))]⟩]⟩ [c_ 124, c_ 125, c_ 63] (alc (cokW false (a2c (.z (frz_sl e49_ok (fun h => h))) a2n) akn (akc (.inr rfl) akn) (.rf (memP_mem (p := (1001281, 512)) rfl)) (akc ⟨_, _, rfl, rfl, rowB encI_c _⟩ akn) (fun h => absurd h (by decide))) aln) (acal (spec_l10Order.J k a1 _ hx2) nocal) ?_
    refine .reg' [7, 8, 9] [] ⟨[(7, (.rf 1000515 0 x1.length 1 (x1.length * 1))), (8, (.rf 1001281 0 x2.length 1 (x2.length * 1))), (9, (I 0))], [(1000515, (x1.flatMap encI)), (1001281, (x2.flatMap encI))], [], []⟩ [l_ 250, b_ 0, c_ 63] aln nocal ?_
    exact ih0 x1 x2 0 _ h
/-! impl_between: function 40 -/
def impl_between.f (a0 : Int) (a1 : Int) (a2 : Int) : Option Bool := (if a0 ≥ a1 then (some (decide (a0 ≤ a2))) else (some false))
theorem impl_between.J (a0 : Int) (a1 : Int) (a2 : Int) (r : Bool) (h : impl_between.f a0 a1 a2 = some r) : J prog (.call 40 [(I a0), (I a1), (I a2)] [] (B r) []) := by
  unfold impl_between.f at h
  refine .call' [c_ 2, c_ 3] ?_
  refine .reg' [0, 1, 2] [] ⟨[(0, (I a0)), (1, (I a1)), (2, (I a2))], [], [], []⟩ [c_ 6, c_ 7] aln nocal ?_
  by_cases c1 : a0 ≥ a1
  · rw [if_pos c1] at h
    refine .reg' [6] [.no, .no, .no, .v (B true)] ⟨[(6, (B (decide (a0 ≤ a2))))], [], [(B (decide (a0 ≥ a1)) : V) = B true], []⟩ [c_ 7] (alc (bT (dT c1)) aln) nocal ?_
    have h := Option.some.inj h
    subst h
    exact .fin0 [] (B (decide (a0 ≤ a2))) [] aln (.z .s)
  · rw [if_neg c1] at h
    refine .reg' [6] [.no, .no, .no, .v (B false)] ⟨[(6, (B false))], [], [(B (decide (a0 ≥ a1)) : V) = B false], []⟩ [c_ 7] (alc (bF (dF c1)) aln) nocal ?_
    have h := Option.some.inj h
    subst h
    exact .fin0 [] (B false) [] aln (.z .s)
/-! impl_BaysOk: function 14 -/
def impl_BaysOk.l0 : Nat → (List Int) → Int → Option Bool
 | 0, _, _ => none
 | k + 1, a0, x2 => (if x2 < (a0.length : Int) then (if 0 ≤ x2 then ((impl_between.f (at_ a0 x2) 1 1000).bind fun x3 => (if x3 = true then (impl_BaysOk.l0 k a0 (wrap64 (x2 + 1))) else (some false))) else none) else (some true))
def impl_BaysOk.f (k : Nat) (a0 : (List Int)) : Option Bool := ((impl_between.f (a0.length : Int) 1 12).bind fun x1 => (if x1 = true then (impl_BaysOk.l0 k a0 0) else (some false)))
theorem impl_BaysOk.lab : ∀ k, (∀ (a0 : (List Int)) (x2 : Int) (r : Bool), impl_BaysOk.l0 k a0 x2 = some r → J prog (.run 14 [] [l_ 58, b_ 0, c_ 15] [(9, (.sl true a0.length 1 (a0.flatMap encI))), (10, (I (a0.length : Int))), (11, (I x2))] [] (B r) []))
 | 0 => (by intro a0 x2 r h; unfold impl_BaysOk.l0 at h; cases h)
 | k + 1 => by
  have ih0 := impl_BaysOk.lab k
  · intro a0 x2 r h
    unfold impl_BaysOk.l0 at h
    refine .loop' [c_ 232, c_ 233, l_ 58, b_ 0, c_ 15] ?_
    refine .reg' [9, 10, 11, 12] [] ⟨[(9, (.sl true a0.length 1 (a0.flatMap encI))), (10, (I (a0.length : Int))), (11, (I x2)), (12, (B (decide (x2 < (a0.length : Int)))))], [], [], []⟩ [c_ 466, c_ 467, l_ 58, b_ 0, c_ 15] aln nocal ?_
    by_cases c2 : x2 < (a0.length : Int)
    · rw [if_pos c2] at h
      refine .cond' (.tmp 12) true [c_ 3736, c_ 3737, b_ 1, c_ 935, l_ 58, b_ 0, c_ 15] (bT (dT c2)) ?_
      by_cases c3 : 0 ≤ x2
      · rw [if_pos c3] at h
        refine .reg' [4, 9, 10, 11] [.no, .v (I (at_ a0 x2))] ⟨[(4, (I (at_ a0 x2))), (9, (.sl true a0.length 1 (a0.flatMap encI))), (10, (I (a0.length : Int))), (11, (I x2))], [], [(0 : Int) ≤ x2 ∧ x2 < (a0.length : Int), rdC prog 3 ((a0.flatMap encI).drop (x2.toNat * 1)) = (I (at_ a0 x2)), 1 ≤ ((a0.flatMap encI).drop (x2.toNat * 1)).length], []⟩ [c_ 7474, c_ 7475, b_ 1, c_ 935, l_ 58, b_ 0, c_ 15] (alc ⟨c3, c2⟩ (alc (ldC1 encI_ok rfl c3 c2) (alc (okI encI_ok c3 c2 (by decide)) aln))) nocal ?_
        obtain ⟨x3, hx3, h⟩ := Option.bind_eq_some_iff.mp h
        refine .reg' [9, 10, 11, 17] [.no, .c ⟨40, [(I (at_ a0 x2)), (I 1), (I 1000)], [], (B x3), [], [], [], [], (B x3), []⟩] ⟨[(9, (.sl true a0.length 1 (a0.flatMap encI))), (10, (I (a0.length : Int))), (11, (I x2)), (17, (B (!x3)))], [], [COK (hget []) [(I (at_ a0 x2)), (I 1), (I 1000)] ⟨40, [(I (at_ a0 x2)), (I 1), (I 1000)], [], (B x3), [], [], [], [], (B x3), []⟩], [⟨40, [(I (at_ a0 x2)), (I 1), (I 1000)], [], (B x3), [], [], [], [], (B x3), []⟩]⟩ [c_ 7475, b_ 1, c_ 935, l_ 58, b_ 0, c_ 15] (alc (cok0 false (a2c (.z .s) (a2c (.z .s) (a2c (.z .s) a2n))) (.z .s) (fun h => absurd h (by decide))) aln) (acal (impl_between.J (at_ a0 x2) 1 1000 _ hx3) nocal) ?_
        by_cases c4 : x3 = true
        · rw [if_pos c4] at h
          refine .cond' (.tmp 17) false [c_ 935, l_ 58, b_ 0, c_ 15] (bF (nF c4)) ?_
          refine .reg' [9, 10, 11] [] ⟨[(9, (.sl true a0.length 1 (a0.flatMap encI))), (10, (I (a0.length : Int))), (11, (I (wrap64 (x2 + 1))))], [], [], []⟩ [l_ 58, b_ 0, c_ 15] aln nocal ?_
          exact ih0 a0 (wrap64 (x2 + 1)) _ h
        · rw [if_neg c4] at h
          refine .cond' (.tmp 17) true [c_ 29900, c_ 29901, b_ 1, c_ 935, l_ 58, b_ 0, c_ 15] (bT (nT (vF c4))) ?_
          refine .reg' [2] [] ⟨[(2, (B false))], [], [], []⟩ [c_ 29901, b_ 1, c_ 935, l_ 58, b_ 0, c_ 15] aln nocal ?_
          have h := Option.some.inj h
          subst h
          exact .fin0 [] (B false) [] aln (.z .s)
      · rw [if_neg c3] at h
        cases h
    · rw [if_neg c2] at h
      refine .cond' (.tmp 12) false [c_ 30, c_ 31] (bF (dF c2)) ?_
      refine .reg' [2] [] ⟨[(2, (B true))], [], [], []⟩ [c_ 31] aln nocal ?_
      have h := Option.some.inj h
      subst h
      exact .fin0 [] (B true) [] aln (.z .s)
theorem impl_BaysOk.J (k : Nat) (a0 : (List Int)) (r : Bool) (h : impl_BaysOk.f k a0 = some r) : J prog (.call 14 [(.sl true a0.length 1 (a0.flatMap encI))] [] (B r) []) := by
  unfold impl_BaysOk.f at h
  have ih0 := impl_BaysOk.lab k
  refine .call' [c_ 2, c_ 3] ?_
  refine .reg' [0] [] ⟨[(0, (.sl true a0.length 1 (a0.flatMap encI)))], [], [], []⟩ [c_ 12, c_ 13, c_ 7] aln nocal ?_
  obtain ⟨x1, hx1, h⟩ := Option.bind_eq_some_iff.mp h
  refine .reg' [0, 8] [.no, .no, .c ⟨40, [(I (a0.length : Int)), (I 1), (I 12)], [], (B x1), [], [], [], [], (B x1), []⟩] ⟨[(0, (.sl true a0.length 1 (a0.flatMap encI))), (8, (B (!x1)))], [], [COK (hget []) [(I (a0.length : Int)), (I 1), (I 12)] ⟨40, [(I (a0.length : Int)), (I 1), (I 12)], [], (B x1), [], [], [], [], (B x1), []⟩], [⟨40, [(I (a0.length : Int)), (I 1), (I 12)], [], (B x1), [], [], [], [], (B x1), []⟩]⟩ [c_ 13, c_ 7] (alc (cok0 false (a2c (.z .s) (a2c (.z .s) (a2c (.z .s) a2n))) (.z .s) (fun h => absurd h (by decide))) aln) (acal (impl_between.J (a0.length : Int) 1 12 _ hx1) nocal) ?_
  by_cases c1 : x1 = true
  · rw [if_pos c1] at h
    refine .cond' (.tmp 8) false [c_ 28, c_ 29, c_ 15] (bF (nF c1)) ?_
    refine .reg' [9, 10, 11] [] ⟨[(9, (.sl true a0.length 1 (a0.flatMap encI))), (10, (I (a0.length : Int))), (11, (I 0))], [], [], []⟩ [l_ 58, b_ 0, c_ 15] aln nocal ?_
    exact ih0 a0 0 _ h
  · rw [if_neg c1] at h
    refine .cond' (.tmp 8) true [c_ 52, c_ 53, c_ 7] (bT (nT (vF c1))) ?_
    refine .reg' [2] [] ⟨[(2, (B false))], [], [], []⟩ [c_ 53, c_ 7] aln nocal ?_
    have h := Option.some.inj h
    subst h
    exact .fin0 [] (B false) [] aln (.z .s)
/-! impl_isMinute: function 42 -/
def impl_isMinute.f (a0 : Int) : Option Bool := ((impl_between.f a0 0 100000).bind fun x1 => (some x1))
theorem impl_isMinute.J (a0 : Int) (r : Bool) (h : impl_isMinute.f a0 = some r) : J prog (.call 42 [(I a0)] [] (B r) []) := by
  unfold impl_isMinute.f at h
  refine .call' [c_ 2, c_ 3] ?_
  refine .reg' [0] [] ⟨[(0, (I a0))], [], [], []⟩ [c_ 6, c_ 7] aln nocal ?_
  obtain ⟨x1, hx1, h⟩ := Option.bind_eq_some_iff.mp h
  refine .reg' [2] [.no, .c ⟨40, [(I a0), (I 0), (I 100000)], [], (B x1), [], [], [], [], (B x1), []⟩] ⟨[(2, (B x1))], [], [COK (hget []) [(I a0), (I 0), (I 100000)] ⟨40, [(I a0), (I 0), (I 100000)], [], (B x1), [], [], [], [], (B x1), []⟩], [⟨40, [(I a0), (I 0), (I 100000)], [], (B x1), [], [], [], [], (B x1), []⟩]⟩ [c_ 7] (alc (cok0 false (a2c (.z .s) (a2c (.z .s) (a2c (.z .s) a2n))) (.z .s) (fun h => absurd h (by decide))) aln) (acal (impl_between.J a0 0 100000 _ hx1) nocal) ?_
  have h := Option.some.inj h
  subst h
  exact .fin0 [] (B x1) [] aln (.z .s)
/-! impl_StaysOk: function 19 -/
def impl_StaysOk.l0 : Nat → (List S49) → Int → Option Bool
 | 0, _, _ => none
 | k + 1, a0, x1 => (if x1 < (a0.length : Int) then (if 0 ≤ x1 then ((impl_isMinute.f ((at_ a0 x1).f0)).bind fun x2 => (if x2 = true then ((impl_isMinute.f ((at_ a0 x1).f1)).bind fun x3 => (if x3 = true then (if (at_ a0 x1).f0 > (at_ a0 x1).f1 then (some false) else ((impl_between.f ((at_ a0 x1).f2) 1 1000).bind fun x4 => (if x4 = true then (impl_StaysOk.l0 k a0 (wrap64 (x1 + 1))) else (some false)))) else (some false))) else (some false))) else none) else (some true))
def impl_StaysOk.f (k : Nat) (a0 : (List S49)) : Option Bool := (if (a0.length : Int) > 60 then (some false) else (impl_StaysOk.l0 k a0 0))
theorem impl_StaysOk.lab : ∀ k, (∀ (a0 : (List S49)) (x1 : Int) (r : Bool), impl_StaysOk.l0 k a0 x1 = some r → J prog (.run 19 [] [l_ 58, b_ 0, c_ 15] [(8, (.sl true a0.length 3 (a0.flatMap e49))), (9, (I (a0.length : Int))), (10, (I x1))] [] (B r) []))
 | 0 => (by intro a0 x1 r h; unfold impl_StaysOk.l0 at h; cases h)
 | k + 1 => by
  have ih0 := impl_StaysOk.lab k
  · intro a0 x1 r h
    unfold impl_StaysOk.l0 at h
    refine .loop' [c_ 232, c_ 233, l_ 58, b_ 0, c_ 15] ?_
    refine .reg' [8, 9, 10, 11] [] ⟨[(8, (.sl true a0.length 3 (a0.flatMap e49))), (9, (I (a0.length : Int))), (10, (I x1)), (11, (B (decide (x1 < (a0.length : Int)))))], [], [], []⟩ [c_ 466, c_ 467, l_ 58, b_ 0, c_ 15] aln nocal ?_
    by_cases c2 : x1 < (a0.length : Int)
    · rw [if_pos c2] at h
      refine .cond' (.tmp 11) true [c_ 3736, c_ 3737, b_ 1, c_ 935, l_ 58, b_ 0, c_ 15] (bT (dT c2)) ?_
      by_cases c3 : 0 ≤ x1
      · rw [if_pos c3] at h
        refine .reg' [4, 8, 9, 10] [.no, .v (.ag [(I (at_ a0 x1).f0), (I (at_ a0 x1).f1), (I (at_ a0 x1).f2)])] ⟨[(4, (.pt 1538 0 3)), (8, (.sl true a0.length 3 (a0.flatMap e49))), (9, (I (a0.length : Int))), (10, (I x1))], [(1538, [(I (at_ a0 x1).f0), (I (at_ a0 x1).f1), (I (at_ a0 x1).f2)])], [(0 : Int) ≤ x1 ∧ x1 < (a0.length : Int), rdC prog 50 ((a0.flatMap e49).drop (x1.toNat * 3)) = (.ag [(I (at_ a0 x1).f0), (I (at_ a0 x1).f1), (I (at_ a0 x1).f2)]), 3 ≤ ((a0.flatMap e49).drop (x1.toNat * 3)).length, 3 = 3 ∧ 0 + 3 ≤ 3], []⟩ [c_ 7474, c_ 7475, b_ 1, c_ 935, l_ 58, b_ 0, c_ 15] (alc ⟨c3, c2⟩ (alc (ldA e49_ok rfl rfl c3 c2) (alc (okI e49_ok c3 c2 (by decide)) (alc ⟨rfl, by decide⟩ aln)))) nocal ?_
        obtain ⟨x2, hx2, h⟩ := Option.bind_eq_some_iff.mp h
        by_cases c4 : x2 = true
        · rw [if_pos c4] at h
          obtain ⟨x3, hx3, h⟩ := Option.bind_eq_some_iff.mp h
          by_cases c5 : x3 = true
          · rw [if_pos c5] at h
            by_cases c6 : (at_ a0 x1).f0 > (at_ a0 x1).f1
            · rw [if_pos c6] at h
              refine .reg' [8, 9, 10, 36] [.no, .no, .c ⟨42, [(I (at_ a0 x1).f0)], [], (B x2), [], [], [], [], (B x2), []⟩, .no, .v (B false), .no, .no, .c ⟨42, [(I (at_ a0 x1).f1)], [], (B x3), [], [], [], [], (B x3), []⟩, .no, .no, .v (B false), .no, .no, .no, .no, .no, .no, .v (B true)] ⟨[(8, (.sl true a0.length 3 (a0.flatMap e49))), (9, (I (a0.length : Int))), (10, (I x1)), (36, (B true))], [(1538, [(I (at_ a0 x1).f0), (I (at_ a0 x1).f1), (I (at_ a0 x1).f2)])], [3 = 3 ∧ 0 + 1 ≤ 3, COK (hget [(1538, [(I (at_ a0 x1).f0), (I (at_ a0 x1).f1), (I (at_ a0 x1).f2)])]) [(I (at_ a0 x1).f0)] ⟨42, [(I (at_ a0 x1).f0)], [], (B x2), [], [], [], [], (B x2), []⟩, (B (!x2) : V) = B false, 3 = 3 ∧ 1 + 1 ≤ 3, COK (hget [(1538, [(I (at_ a0 x1).f0), (I (at_ a0 x1).f1), (I (at_ a0 x1).f2)])]) [(I (at_ a0 x1).f1)] ⟨42, [(I (at_ a0 x1).f1)], [], (B x3), [], [], [], [], (B x3), []⟩, (B (!x3) : V) = B false, 3 = 3 ∧ 0 + 1 ≤ 3, 3 = 3 ∧ 1 + 1 ≤ 3, (B (decide ((at_ a0 x1).f0 > (at_ a0 x1).f1)) : V) = B true], [⟨42, [(I (at_ a0 x1).f0)], [], (B x2), [], [], [], [], (B x2), []⟩, ⟨42, [(I (at_ a0 x1).f1)], [], (B x3), [], [], [], [], (B x3), []⟩]⟩ [c_ 7475, b_ 1, c_ 935, l_ 58, b_ 0, c_ 15] (alc ⟨rfl, by decide⟩ (alc (cok0 false (a2c (.z .s) a2n) (.z .s) (fun h => absurd h (by decide))) (alc (bF (nF c4)) (alc ⟨rfl, by decide⟩ (alc (cok0 false (a2c (.z .s) a2n) (.z .s) (fun h => absurd h (by decide))) (alc (bF (nF c5)) (alc ⟨rfl, by decide⟩ (alc ⟨rfl, by decide⟩ (alc (bT (dT c6)) aln))))))))) (acal (impl_isMinute.J ((at_ a0 x1).f0) _ hx2) (acal (impl_isMinute.J ((at_ a0 x1).f1) _ hx3) nocal)) ?_
              refine .cond' (.tmp 36) true [c_ 29900, c_ 29901, b_ 1, c_ 935, l_ 58, b_ 0, c_ 15] (rfl) ?_
              refine .reg' [2] [] ⟨[(2, (B false))], [(1538, [(I (at_ a0 x1).f0), (I (at_ a0 x1).f1), (I (at_ a0 x1).f2)])], [], []⟩ [c_ 29901, b_ 1, c_ 935, l_ 58, b_ 0, c_ 15] aln nocal ?_
              have h := Option.some.inj h
              subst h
              exact .fin0 [] (B false) [] aln (.z .s)
            · rw [if_neg c6] at h
              obtain ⟨x4, hx4, h⟩ := Option.bind_eq_some_iff.mp h
              refine .reg' [8, 9, 10, 36] [.no, .no, .c ⟨42, [(I (at_ a0 x1).f0)], [], (B x2), [], [], [], [], (B x2), []⟩, .no, .v (B false), .no, .no, .c ⟨42, [(I (at_ a0 x1).f1)], [], (B x3), [], [], [], [], (B x3), []⟩, .no, .no, .v (B false), .no, .no, .no, .no, .no, .no, .v (B false), .no, .no, .c ⟨40, [(I (at_ a0 x1).f2), (I 1), (I 1000)], [], (B x4), [], [], [], [], (B x4), []⟩] ⟨[(8, (.sl true a0.length 3 (a0.flatMap e49))), (9, (I (a0.length : Int))), (10, (I x1)), (36, (B (!x4)))], [(1538, [(I (at_ a0 x1).f0), (I (at_ a0 x1).f1), (I (at_ a0 x1).f2)])], [3 = 3 ∧ 0 + 1 ≤ 3, COK (hget [(1538, [(I (at_ a0 x1).f0), (I (at_ a0 x1).f1), (I (at_ a0 x1).f2)])]) [(I (at_ a0 x1).f0)] ⟨42, [(I (at_ a0 x1).f0)], [], (B x2), [], [], [], [], (B x2), []⟩, (B (!x2) : V) = B false, 3 = 3 ∧ 1 + 1 ≤ 3, COK (hget [(1538, [(I (at_ a0 x1).f0), (I (at_ a0 x1).f1), (I (at_ a0 x1).f2)])]) [(I (at_ a0 x1).f1)] ⟨42, [(I (at_ a0 x1).f1)], [], (B x3), [], [], [], [], (B x3), []⟩, (B (!x3) : V) = B false, 3 = 3 ∧ 0 + 1 ≤ 3, 3 = 3 ∧ 1 + 1 ≤ 3, (B (decide ((at_ a0 x1).f0 > (at_ a0 x1).f1)) : V) = B false, 3 = 3 ∧ 2 + 1 ≤ 3, COK (hget [(1538, [(I (at_ a0 x1).f0), (I (at_ a0 x1).f1), (I (at_ a0 x1).f2)])]) [(I (at_ a0 x1).f2), (I 1), (I 1000)] ⟨40, [(I (at_ a0 x1).f2), (I 1), (I 1000)], [], (B x4), [], [], [], [], (B x4), []⟩], [⟨42, [(I (at_ a0 x1).f0)], [], (B x2), [], [], [], [], (B x2), []⟩, ⟨42, [(I (at_ a0 x1).f1)], [], (B x3), [], [], [], [], (B x3), []⟩, ⟨40, [(I (at_ a0 x1).f2), (I 1), (I 1000)], [], (B x4), [], [], [], [], (B x4), []⟩]⟩ [c_ 7475, b_ 1, c_ 935, l_ 58, b_ 0, c_ 15] (alc ⟨rfl, by decide⟩ (alc (cok0 false (a2c (.z .s) a2n) (.z .s) (fun h => absurd h (by decide))) (alc (bF (nF c4)) (alc ⟨rfl, by decide⟩ (alc (cok0 false (a2c (.z .s) a2n) (.z .s) (fun h => absurd h (by decide))) (alc (bF (nF c5)) (alc ⟨rfl, by decide⟩ (alc ⟨rfl, by decide⟩ (alc (bF (dF c6)) (alc ⟨rfl, by decide⟩ (alc (cok0 false (a2c (.z .s) (a2c (.z .s) (a2c (.z .s) a2n))) (.z .s) (fun h => absurd h (by decide))) aln))))))))))) (acal (impl_isMinute.J ((at_ a0 x1).f0) _ hx2) (acal (impl_isMinute.J ((at_ a0 x1).f1) _ hx3) (acal (impl_between.J ((at_ a0 x1).f2) 1 1000 _ hx4) nocal))) ?_
              by_cases c7 : x4 = true
              · rw [if_pos c7] at h
                refine .cond' (.tmp 36) false [c_ 935, l_ 58, b_ 0, c_ 15] (bF (nF c7)) ?_
                refine .reg' [8, 9, 10] [] ⟨[(8, (.sl true a0.length 3 (a0.flatMap e49))), (9, (I (a0.length : Int))), (10, (I (wrap64 (x1 + 1))))], [(1538, [(I (at_ a0 x1).f0), (I (at_ a0 x1).f1), (I (at_ a0 x1).f2)])], [], []⟩ [l_ 58, b_ 0, c_ 15] aln nocal ?_
                refine .wk' [] [] [(8, (.sl true a0.length 3 (a0.flatMap e49))), (9, (I (a0.length : Int))), (10, (I (wrap64 (x1 + 1))))] [] shn (enc_ (.z (frz_sl e49_ok (fun h => h))) (enc_ (.z .s) (enc_ (.z .s) enn))) ?_
                exact ih0 a0 (wrap64 (x1 + 1)) _ h
              · rw [if_neg c7] at h
                refine .cond' (.tmp 36) true [c_ 29900, c_ 29901, b_ 1, c_ 935, l_ 58, b_ 0, c_ 15] (bT (nT (vF c7))) ?_
                refine .reg' [2] [] ⟨[(2, (B false))], [(1538, [(I (at_ a0 x1).f0), (I (at_ a0 x1).f1), (I (at_ a0 x1).f2)])], [], []⟩ [c_ 29901, b_ 1, c_ 935, l_ 58, b_ 0, c_ 15] aln nocal ?_
                have h := Option.some.inj h
                subst h
                exact .fin0 [] (B false) [] aln (.z .s)
          · rw [if_neg c5] at h
            refine .reg' [8, 9, 10, 36] [.no, .no, .c ⟨42, [(I (at_ a0 x1).f0)], [], (B x2), [], [], [], [], (B x2), []⟩, .no, .v (B false), .no, .no, .c ⟨42, [(I (at_ a0 x1).f1)], [], (B x3), [], [], [], [], (B x3), []⟩, .no, .no, .v (B true)] ⟨[(8, (.sl true a0.length 3 (a0.flatMap e49))), (9, (I (a0.length : Int))), (10, (I x1)), (36, (B true))], [(1538, [(I (at_ a0 x1).f0), (I (at_ a0 x1).f1), (I (at_ a0 x1).f2)])], [3 = 3 ∧ 0 + 1 ≤ 3, COK (hget [(1538, [(I (at_ a0 x1).f0), (I (at_ a0 x1).f1), (I (at_ a0 x1).f2)])]) [(I (at_ a0 x1).f0)] ⟨42, [(I (at_ a0 x1).f0)], [], (B x2), [], [], [], [], (B x2), []⟩, (B (!x2) : V) = B false, 3 = 3 ∧ 1 + 1 ≤ 3, COK (hget [(1538, [(I (at_ a0 x1).f0), (I (at_ a0 x1).f1), (I (at_ a0 x1).f2)])]) [(I (at_ a0 x1).f1)] ⟨42, [(I (at_ a0 x1).f1)], [], (B x3), [], [], [], [], (B x3), []⟩, (B (!x3) : V) = B true], [⟨42, [(I (at_ a0 x1).f0)], [], (B x2), [], [], [], [], (B x2), []⟩, ⟨42, [(I (at_ a0 x1).f1)], [], (B x3), [], [], [], [], (B x3), []⟩]⟩ [c_ 7475, b_ 1, c_ 935, l_ 58, b_ 0, c_ 15] (alc ⟨rfl, by decide⟩ (alc (cok0 false (a2c (.z .s) a2n) (.z .s) (fun h => absurd h (by decide))) (alc (bF (nF c4)) (alc ⟨rfl, by decide⟩ (alc (cok0 false (a2c (.z .s) a2n) (.z .s) (fun h => absurd h (by decide))) (alc (bT (nT (vF c5))) aln)))))) (acal (impl_isMinute.J ((at_ a0 x1).f0) _ hx2) (acal (impl_isMinute.J ((at_ a0 x1).f1) _ hx3) nocal)) ?_
            refine .cond' (.tmp 36) true [c_ 29900, c_ 29901, b_ 1, c_ 935, l_ 58, b_ 0, c_ 15] (rfl) ?_
            refine .reg' [2] [] ⟨[(2, (B false))], [(1538, [(I (at_ a0 x1).f0), (I (at_ a0 x1).f1), (I (at_ a0 x1).f2)])], [], []⟩ [c_ 29901, b_ 1, c_ 935, l_ 58, b_ 0, c_ 15] aln nocal ?_
            have h := Option.some.inj h
            subst h
            exact .fin0 [] (B false) [] aln (.z .s)
        · rw [if_neg c4] at h
          refine .reg' [8, 9, 10, 36] [.no, .no, .c ⟨42, [(I (at_ a0 x1).f0)], [], (B x2), [], [], [], [], (B x2), []⟩, .no, .v (B true)] ⟨[(8, (.sl true a0.length 3 (a0.flatMap e49))), (9, (I (a0.length : Int))), (10, (I x1)), (36, (B true))], [(1538, [(I (at_ a0 x1).f0), (I (at_ a0 x1).f1), (I (at_ a0 x1).f2)])], [3 = 3 ∧ 0 + 1 ≤ 3, COK (hget [(1538, [(I (at_ a0 x1).f0), (I (at_ a0 x1).f1), (I (at_ a0 x1).f2)])]) [(I (at_ a0 x1).f0)] ⟨42, [(I (at_ a0 x1).f0)], [], (B x2), [], [], [], [], (B x2), []⟩, (B (!x2) : V) = B true], [⟨42, [(I (at_ a0 x1).f0)], [], (B x2), [], [], [], [], (B x2), []⟩]⟩ [c_ 7475, b_ 1, c_ 935, l_ 58, b_ 0, c_ 15] (alc ⟨rfl, by decide⟩ (alc (cok0 false (a2c (.z .s) a2n) (.z .s) (fun h => absurd h (by decide))) (alc (bT (nT (vF c4))) aln))) (acal (impl_isMinute.J ((at_ a0 x1).f0) _ hx2) nocal) ?_
          refine .cond' (.tmp 36) true [c_ 29900, c_ 29901, b_ 1, c_ 935, l_ 58, b_ 0, c_ 15] (rfl) ?_
          refine .reg' [2] [] ⟨[(2, (B false))], [(1538, [(I (at_ a0 x1).f0), (I (at_ a0 x1).f1), (I (at_ a0 x1).f2)])], [], []⟩ [c_ 29901, b_ 1, c_ 935, l_ 58, b_ 0, c_ 15] aln nocal ?_
          have h := Option.some.inj h
          subst h
          exact .fin0 [] (B false) [] aln (.z .s)
      · rw [if_neg c3] at h
        cases h
    · rw [if_neg c2] at h
      refine .cond' (.tmp 11) false [c_ 30, c_ 31] (bF (dF c2)) ?_
      refine .reg' [2] [] ⟨[(2, (B true))], [], [], []⟩ [c_ 31] aln nocal ?_
      have h := Option.some.inj h
      subst h
      exact .fin0 [] (B true) [] aln (.z .s)
theorem impl_StaysOk.J (k : Nat) (a0 : (List S49)) (r : Bool) (h : impl_StaysOk.f k a0 = some r) : J prog (.call 19 [(.sl true a0.length 3 (a0.flatMap e49))] [] (B r) []) := by
  unfold impl_StaysOk.f at h
  have ih0 := impl_StaysOk.lab k
  refine .call' [c_ 2, c_ 3] ?_
  refine .reg' [0] [] ⟨[(0, (.sl true a0.length 3 (a0.flatMap e49)))], [], [], []⟩ [c_ 12, c_ 13, c_ 7] aln nocal ?_
  refine .reg' [0, 7] [] ⟨[(0, (.sl true a0.length 3 (a0.flatMap e49))), (7, (B (decide ((a0.length : Int) > 60))))], [], [], []⟩ [c_ 13, c_ 7] aln nocal ?_
  by_cases c1 : (a0.length : Int) > 60
  · rw [if_pos c1] at h
    refine .cond' (.tmp 7) true [c_ 52, c_ 53, c_ 7] (bT (dT c1)) ?_
    refine .reg' [2] [] ⟨[(2, (B false))], [], [], []⟩ [c_ 53, c_ 7] aln nocal ?_
    have h := Option.some.inj h
    subst h
    exact .fin0 [] (B false) [] aln (.z .s)
  · rw [if_neg c1] at h
    refine .cond' (.tmp 7) false [c_ 28, c_ 29, c_ 15] (bF (dF c1)) ?_
    refine .reg' [8, 9, 10] [] ⟨[(8, (.sl true a0.length 3 (a0.flatMap e49))), (9, (I (a0.length : Int))), (10, (I 0))], [], [], []⟩ [l_ 58, b_ 0, c_ 15] aln nocal ?_
    exact ih0 a0 0 _ h
/-! impl_gapOk: function 46 -/
def impl_gapOk.f (a0 : Int) : Option Bool := ((impl_between.f a0 1 60).bind fun x1 => (some x1))
theorem impl_gapOk.J (a0 : Int) (r : Bool) (h : impl_gapOk.f a0 = some r) : J prog (.call 46 [(I a0)] [] (B r) []) := by
  unfold impl_gapOk.f at h
  refine .call' [c_ 2, c_ 3] ?_
  refine .reg' [0] [] ⟨[(0, (I a0))], [], [], []⟩ [c_ 6, c_ 7] aln nocal ?_
  obtain ⟨x1, hx1, h⟩ := Option.bind_eq_some_iff.mp h
  refine .reg' [2] [.no, .c ⟨40, [(I a0), (I 1), (I 60)], [], (B x1), [], [], [], [], (B x1), []⟩] ⟨[(2, (B x1))], [], [COK (hget []) [(I a0), (I 1), (I 60)] ⟨40, [(I a0), (I 1), (I 60)], [], (B x1), [], [], [], [], (B x1), []⟩], [⟨40, [(I a0), (I 1), (I 60)], [], (B x1), [], [], [], [], (B x1), []⟩]⟩ [c_ 7] (alc (cok0 false (a2c (.z .s) (a2c (.z .s) (a2c (.z .s) a2n))) (.z .s) (fun h => absurd h (by decide))) aln) (acal (impl_between.J a0 1 60 _ hx1) nocal) ?_
  have h := Option.some.inj h
  subst h
  exact .fin0 [] (B x1) [] aln (.z .s)
/-! cmp_isNaN: function 64 -/
def cmp_isNaN.f (a0 : Int) : Option Bool := (some (!(a0 == a0)))
theorem cmp_isNaN.J (a0 : Int) (r : Bool) (h : cmp_isNaN.f a0 = some r) : J prog (.call 64 [(I a0)] [] (B r) []) := by
  unfold cmp_isNaN.f at h
  refine .call' [c_ 2, c_ 3] ?_
  refine .reg' [0] [] ⟨[(0, (I a0))], [], [], []⟩ [c_ 6, c_ 7] aln nocal ?_
  refine .reg' [2] [] ⟨[(2, (B (!(a0 == a0))))], [], [], []⟩ [c_ 7] aln nocal ?_
  have h := Option.some.inj h
  subst h
  exact .fin0 [] (B (!(a0 == a0))) [] aln (.z .s)
/-! cmp_Compare: function 60 -/
def cmp_Compare.f (a0 : Int) (a1 : Int) : Option Int := ((cmp_isNaN.f a0).bind fun x1 => ((cmp_isNaN.f a1).bind fun x2 => (if x1 = true then (if x2 = true then (some 0) else (some (-1))) else (if x2 = true then (some 1) else (if a0 < a1 then (some (-1)) else (if a0 > a1 then (some 1) else (some 0)))))))
theorem cmp_Compare.J (a0 : Int) (a1 : Int) (r : Int) (h : cmp_Compare.f a0 a1 = some r) : J prog (.call 60 [(I a0), (I a1)] [] (I r) []) := by
  unfold cmp_Compare.f at h
  refine .call' [c_ 2, c_ 3] ?_
  refine .reg' [0, 1] [] ⟨[(0, (I a0)), (1, (I a1))], [], [], []⟩ [c_ 6, c_ 7] aln nocal ?_
  obtain ⟨x1, hx1, h⟩ := Option.bind_eq_some_iff.mp h
  refine .reg' [0, 1, 5] [.no, .c ⟨64, [(I a0)], [], (B x1), [], [], [], [], (B x1), []⟩] ⟨[(0, (I a0)), (1, (I a1)), (5, (B x1))], [], [COK (hget []) [(I a0)] ⟨64, [(I a0)], [], (B x1), [], [], [], [], (B x1), []⟩], [⟨64, [(I a0)], [], (B x1), [], [], [], [], (B x1), []⟩]⟩ [c_ 14, c_ 15] (alc (cok0 false (a2c (.z .s) a2n) (.z .s) (fun h => absurd h (by decide))) aln) (acal (cmp_isNaN.J a0 _ hx1) nocal) ?_
  obtain ⟨x2, hx2, h⟩ := Option.bind_eq_some_iff.mp h
  refine .reg' [0, 1, 5, 6] [.no, .c ⟨64, [(I a1)], [], (B x2), [], [], [], [], (B x2), []⟩] ⟨[(0, (I a0)), (1, (I a1)), (5, (B x1)), (6, (B x2))], [], [COK (hget []) [(I a1)] ⟨64, [(I a1)], [], (B x2), [], [], [], [], (B x2), []⟩], [⟨64, [(I a1)], [], (B x2), [], [], [], [], (B x2), []⟩]⟩ [c_ 60, c_ 61, c_ 31] (alc (cok0 false (a2c (.z .s) a2n) (.z .s) (fun h => absurd h (by decide))) aln) (acal (cmp_isNaN.J a1 _ hx2) nocal) ?_
  refine .reg' [0, 1, 6, 11] [] ⟨[(0, (I a0)), (1, (I a1)), (6, (B x2)), (11, (B x1))], [], [], []⟩ [c_ 61, c_ 31] aln nocal ?_
  by_cases c1 : x1 = true
  · rw [if_pos c1] at h
    refine .cond' (.tmp 11) true [c_ 488, c_ 489, c_ 245, c_ 31] (bT c1) ?_
    refine .reg' [12] [] ⟨[(12, (B x2))], [], [], []⟩ [c_ 489, c_ 245, c_ 31] aln nocal ?_
    by_cases c2 : x2 = true
    · rw [if_pos c2] at h
      refine .cond' (.tmp 12) true [c_ 1956, c_ 1957, c_ 245, c_ 31] (bT c2) ?_
      refine .reg' [4] [] ⟨[(4, (I 0))], [], [], []⟩ [c_ 1957, c_ 245, c_ 31] aln nocal ?_
      have h := Option.some.inj h
      subst h
      exact .fin0 [] (I 0) [] aln (.z .s)
    · rw [if_neg c2] at h
      refine .cond' (.tmp 12) false [c_ 490, c_ 491, c_ 31] (bF (vF c2)) ?_
      refine .reg' [4] [] ⟨[(4, (I (-1)))], [], [], []⟩ [c_ 491, c_ 31] aln nocal ?_
      have h := Option.some.inj h
      subst h
      exact .fin0 [] (I (-1)) [] aln (.z .s)
  · rw [if_neg c1] at h
    refine .cond' (.tmp 11) false [c_ 124, c_ 125, c_ 63] (bF (vF c1)) ?_
    refine .reg' [0, 1, 13] [] ⟨[(0, (I a0)), (1, (I a1)), (13, (B x2))], [], [], []⟩ [c_ 125, c_ 63] aln nocal ?_
    by_cases c3 : x2 = true
    · rw [if_pos c3] at h
      refine .cond' (.tmp 13) true [c_ 500, c_ 501, c_ 63] (bT c3) ?_
      refine .reg' [4] [] ⟨[(4, (I 1))], [], [], []⟩ [c_ 501, c_ 63] aln nocal ?_
      have h := Option.some.inj h
      subst h
      exact .fin0 [] (I 1) [] aln (.z .s)
    · rw [if_neg c3] at h
      refine .cond' (.tmp 13) false [c_ 252, c_ 253, c_ 127] (bF (vF c3)) ?_
      refine .reg' [0, 1, 16] [] ⟨[(0, (I a0)), (1, (I a1)), (16, (B (decide (a0 < a1))))], [], [], []⟩ [c_ 253, c_ 127] aln nocal ?_
      by_cases c4 : a0 < a1
      · rw [if_pos c4] at h
        refine .cond' (.tmp 16) true [c_ 1012, c_ 1013, c_ 127] (bT (dT c4)) ?_
        refine .reg' [4] [] ⟨[(4, (I (-1)))], [], [], []⟩ [c_ 1013, c_ 127] aln nocal ?_
        have h := Option.some.inj h
        subst h
        exact .fin0 [] (I (-1)) [] aln (.z .s)
      · rw [if_neg c4] at h
        refine .cond' (.tmp 16) false [c_ 508, c_ 509, c_ 255] (bF (dF c4)) ?_
        refine .reg' [19] [] ⟨[(19, (B (decide (a0 > a1))))], [], [], []⟩ [c_ 509, c_ 255] aln nocal ?_
        by_cases c5 : a0 > a1
        · rw [if_pos c5] at h
          refine .cond' (.tmp 19) true [c_ 2036, c_ 2037, c_ 255] (bT (dT c5)) ?_
          refine .reg' [4] [] ⟨[(4, (I 1))], [], [], []⟩ [c_ 2037, c_ 255] aln nocal ?_
          have h := Option.some.inj h
          subst h
          exact .fin0 [] (I 1) [] aln (.z .s)
        · rw [if_neg c5] at h
          refine .cond' (.tmp 19) false [c_ 510, c_ 511] (bF (dF c5)) ?_
          refine .reg' [4] [] ⟨[(4, (I 0))], [], [], []⟩ [c_ 511] aln nocal ?_
          have h := Option.some.inj h
          subst h
          exact .fin0 [] (I 0) [] aln (.z .s)
/-! impl_inTurn_1: function 59 -/
def impl_inTurn_1.f (a0 : Int) (a1 : Int) (a2c0 : (List S49)) : Option (Int × (List S49)) := (if 0 ≤ a0 then (if a0 < (a2c0.length : Int) then (if 0 ≤ a1 then (if a1 < (a2c0.length : Int) then ((cmp_Compare.f ((at_ a2c0 a0).f0) ((at_ a2c0 a1).f0)).bind fun x1 => (some (x1, a2c0))) else none) else none) else none) else none)
theorem impl_inTurn_1.J (a0 : Int) (a1 : Int) (a2c0 : (List S49)) (r : (Int × (List S49))) (h : impl_inTurn_1.f a0 a1 a2c0 = some r) : J prog (.call 59 [(I a0), (I a1), (.pt 40 0 1)] [(40, [(.sl true a2c0.length 3 (a2c0.flatMap e49))])] (I r.1) [(40, [(.sl true r.2.length 3 (r.2.flatMap e49))])]) := by
  unfold impl_inTurn_1.f at h
  refine .call' [c_ 2, c_ 3] ?_
  refine .reg' [0, 1, 2] [] ⟨[(0, (I a0)), (1, (I a1)), (2, (.pt 40 0 1))], [(40, [(.sl true a2c0.length 3 (a2c0.flatMap e49))])], [], []⟩ [c_ 6, c_ 7] aln nocal ?_
  by_cases c1 : 0 ≤ a0
  · rw [if_pos c1] at h
    by_cases c2 : a0 < (a2c0.length : Int)
    · rw [if_pos c2] at h
      by_cases c3 : 0 ≤ a1
      · rw [if_pos c3] at h
        by_cases c4 : a1 < (a2c0.length : Int)
        · rw [if_pos c4] at h
          obtain ⟨x1, hx1, h⟩ := Option.bind_eq_some_iff.mp h
          refine .reg' [5] [.no, .no, .no, .no, .v (I (at_ a2c0 a0).f0), .no, .no, .no, .no, .v (I (at_ a2c0 a1).f0), .c ⟨60, [(I (at_ a2c0 a0).f0), (I (at_ a2c0 a1).f0)], [], (I x1), [], [], [], [], (I x1), []⟩] ⟨[(5, (I x1))], [(40, [(.sl true a2c0.length 3 (a2c0.flatMap e49))])], [1 = 1 ∧ 0 + 1 ≤ 1, (0 : Int) ≤ a0 ∧ a0 < (a2c0.length : Int), rdC prog 3 (((a2c0.flatMap e49).drop (a0.toNat * 3)).drop 0) = (I (at_ a2c0 a0).f0), 1 ≤ (((a2c0.flatMap e49).drop (a0.toNat * 3)).drop 0).length, 1 = 1 ∧ 0 + 1 ≤ 1, (0 : Int) ≤ a1 ∧ a1 < (a2c0.length : Int), rdC prog 3 (((a2c0.flatMap e49).drop (a1.toNat * 3)).drop 0) = (I (at_ a2c0 a1).f0), 1 ≤ (((a2c0.flatMap e49).drop (a1.toNat * 3)).drop 0).length, COK (hget [(40, [(.sl true a2c0.length 3 (a2c0.flatMap e49))])]) [(I (at_ a2c0 a0).f0), (I (at_ a2c0 a1).f0)] ⟨60, [(I (at_ a2c0 a0).f0), (I (at_ a2c0 a1).f0)], [], (I x1), [], [], [], [], (I x1), []⟩], [⟨60, [(I (at_ a2c0 a0).f0), (I (at_ a2c0 a1).f0)], [], (I x1), [], [], [], [], (I x1), []⟩]⟩ [c_ 7] (alc ⟨rfl, by decide⟩ (alc ⟨c1, c2⟩ (alc (ldC e49_ok 0 (by decide) rfl c1 c2) (alc (okIj e49_ok c1 c2 (by decide)) (alc ⟨rfl, by decide⟩ (alc ⟨c3, c4⟩ (alc (ldC e49_ok 0 (by decide) rfl c3 c4) (alc (okIj e49_ok c3 c4 (by decide)) (alc (cok0 false (a2c (.z .s) (a2c (.z .s) a2n)) (.z .s) (fun h => absurd h (by decide))) aln))))))))) (acal (cmp_Compare.J ((at_ a2c0 a0).f0) ((at_ a2c0 a1).f0) _ hx1) nocal) ?_
          have h := Option.some.inj h
          subst h
          exact .fin' [] [(40, 40)] (I x1) [] aln (shc 40 (a2c (.z (frz_sl e49_ok (fun h => h))) a2n) shn) (.z .s)
        · rw [if_neg c4] at h
          cases h
      · rw [if_neg c3] at h
        cases h
    · rw [if_neg c2] at h
      cases h
  · rw [if_neg c1] at h
    cases h
/-! slices_insertionSortCmpFunc_1: function 65 -/
mutual
def slices_insertionSortCmpFunc_1.l0 : Nat → Int → Int → (List Int) → (List S49) → Int → Option ((List Int) × (List S49))
 | 0, _, _, _, _, _ => none
 | k + 1, a1, a2, x1, x2, x3 => (if x3 < a2 then (slices_insertionSortCmpFunc_1.l1 k a1 a2 x3 x1 x2 x3) else (some (x1, x2)))
def slices_insertionSortCmpFunc_1.l1 : Nat → Int → Int → Int → (List Int) → (List S49) → Int → Option ((List Int) × (List S49))
 | 0, _, _, _, _, _, _ => none
 | k + 1, a1, a2, x3, x4, x5, x6 => (if x6 > a1 then (if 0 ≤ x6 then (if x6 < (x4.length : Int) then (if 0 ≤ (wrap64 (x6 - 1)) then (if (wrap64 (x6 - 1)) < (x4.length : Int) then ((impl_inTurn_1.f (at_ x4 x6) (at_ x4 (wrap64 (x6 - 1))) x5).bind fun x7 => (if x7.1 < 0 then (slices_insertionSortCmpFunc_1.l1 k a1 a2 x3 ((x4.set x6.toNat (at_ x4 (wrap64 (x6 - 1)))).set (wrap64 (x6 - 1)).toNat (at_ x4 x6)) x7.2 (wrap64 (x6 - 1))) else (slices_insertionSortCmpFunc_1.l0 k a1 a2 x4 x7.2 (wrap64 (x3 + 1))))) else none) else none) else none) else none) else (slices_insertionSortCmpFunc_1.l0 k a1 a2 x4 x5 (wrap64 (x3 + 1))))
end
def slices_insertionSortCmpFunc_1.f (k : Nat) (a0 : (List Int)) (a1 : Int) (a2 : Int) (a3c0 : (List S49)) : Option ((List Int) × (List S49)) := (slices_insertionSortCmpFunc_1.l0 k a1 a2 a0 a3c0 (wrap64 (a1 + 1)))
theorem slices_insertionSortCmpFunc_1.lab : ∀ k, (∀ (a1 : Int) (a2 : Int) (x1 : (List Int)) (x2 : (List S49)) (x3 : Int) (r : ((List Int) × (List S49))), slices_insertionSortCmpFunc_1.l0 k a1 a2 x1 x2 x3 = some r → J prog (.run 65 [0, 56] [l_ 6, b_ 0] [(0, (.rf 0 0 x1.length 1 (x1.length * 1))), (1, (I a1)), (2, (I a2)), (3, (.fn (.func 59) [] [(.pt 56 0 1)])), (8, (I x3))] [(0, (x1.flatMap encI)), (56, [(.sl true x2.length 3 (x2.flatMap e49))])] (.tp []) [(0, (r.1.flatMap encI)), (56, [(.sl true r.2.length 3 (r.2.flatMap e49))])])) ∧ (∀ (a1 : Int) (a2 : Int) (x3 : Int) (x4 : (List Int)) (x5 : (List S49)) (x6 : Int) (r : ((List Int) × (List S49))), slices_insertionSortCmpFunc_1.l1 k a1 a2 x3 x4 x5 x6 = some r → J prog (.run 65 [0, 56] [l_ 402, b_ 2, b_ 1, c_ 51, l_ 6, b_ 0] [(0, (.rf 0 0 x4.length 1 (x4.length * 1))), (1, (I a1)), (2, (I a2)), (3, (.fn (.func 59) [] [(.pt 56 0 1)])), (8, (I x3)), (9, (I x6))] [(0, (x4.flatMap encI)), (56, [(.sl true x5.length 3 (x5.flatMap e49))])] (.tp []) [(0, (r.1.flatMap encI)), (56, [(.sl true r.2.length 3 (r.2.flatMap e49))])]))
 | 0 => ⟨(by intro a1 a2 x1 x2 x3 r h; unfold slices_insertionSortCmpFunc_1.l0 at h; cases h), (by intro a1 a2 x3 x4 x5 x6 r h; unfold slices_insertionSortCmpFunc_1.l1 at h; cases h)⟩
 | k + 1 => by
  obtain ⟨ih0, ih1⟩ := slices_insertionSortCmpFunc_1.lab k
  refine ⟨?_, ?_⟩
  · intro a1 a2 x1 x2 x3 r h
    unfold slices_insertionSortCmpFunc_1.l0 at h
    refine .loop' [c_ 48, c_ 49, c_ 25, l_ 6, b_ 0] ?_
    refine .reg' [0, 1, 2, 3, 8, 14] [] ⟨[(0, (.rf 0 0 x1.length 1 (x1.length * 1))), (1, (I a1)), (2, (I a2)), (3, (.fn (.func 59) [] [(.pt 56 0 1)])), (8, (I x3)), (14, (B (decide (x3 < a2))))], [(0, (x1.flatMap encI)), (56, [(.sl true x2.length 3 (x2.flatMap e49))])], [], []⟩ [c_ 49, c_ 25, l_ 6, b_ 0] aln nocal ?_
    by_cases c1 : x3 < a2
    · rw [if_pos c1] at h
      refine .cond' (.tmp 14) true [c_ 200, c_ 201, b_ 1, c_ 51, l_ 6, b_ 0] (bT (dT c1)) ?_
      refine .reg' [0, 1, 2, 3, 8, 9] [] ⟨[(0, (.rf 0 0 x1.length 1 (x1.length * 1))), (1, (I a1)), (2, (I a2)), (3, (.fn (.func 59) [] [(.pt 56 0 1)])), (8, (I x3)), (9, (I x3))], [(0, (x1.flatMap encI)), (56, [(.sl true x2.length 3 (x2.flatMap e49))])], [], []⟩ [l_ 402, b_ 2, b_ 1, c_ 51, l_ 6, b_ 0] aln nocal ?_
      exact ih1 a1 a2 x3 x1 x2 x3 _ h
    · rw [if_neg c1] at h
      refine .cond' (.tmp 14) false [] (bF (dF c1)) ?_
      have h := Option.some.inj h
      subst h
      exact .fin' [] [(0, 0), (56, 56)] (.tp []) [] aln (shc 0 (rowF encI_ok _) (shc 56 (a2c (.z (frz_sl e49_ok (fun h => h))) a2n) shn)) (cnv_tp a2n)
  · intro a1 a2 x3 x4 x5 x6 r h
    unfold slices_insertionSortCmpFunc_1.l1 at h
    refine .loop' [c_ 3216, c_ 3217, c_ 1609, l_ 402, b_ 2, b_ 1, c_ 51, l_ 6, b_ 0] ?_
    by_cases c2 : x6 > a1
    · rw [if_pos c2] at h
      by_cases c3 : 0 ≤ x6
      · rw [if_pos c3] at h
        by_cases c4 : x6 < (x4.length : Int)
        · rw [if_pos c4] at h
          by_cases c5 : 0 ≤ (wrap64 (x6 - 1))
          · rw [if_pos c5] at h
            by_cases c6 : (wrap64 (x6 - 1)) < (x4.length : Int)
            · rw [if_pos c6] at h
              obtain ⟨x7, hx7, h⟩ := Option.bind_eq_some_iff.mp h
              refine .reg' [0, 1, 2, 3, 8, 9, 34] [.no, .no, .no, .v (B true), .no, .no, .no, .no, .v (I (at_ x4 x6)), .no, .no, .no, .no, .v (I (at_ x4 (wrap64 (x6 - 1)))), .c ⟨59, [(I (at_ x4 x6)), (I (at_ x4 (wrap64 (x6 - 1)))), (.pt 40 0 1)], [(40, [(.sl true x5.length 3 (x5.flatMap e49))])], (I x7.1), [(40, [(.sl true x7.2.length 3 (x7.2.flatMap e49))])], [], [(56, 40)], [(56, 40)], (I x7.1), [(56, [(.sl true x7.2.length 3 (x7.2.flatMap e49))])]⟩] ⟨[(0, (.rf 0 0 x4.length 1 (x4.length * 1))), (1, (I a1)), (2, (I a2)), (3, (.fn (.func 59) [] [(.pt 56 0 1)])), (8, (I x3)), (9, (I x6)), (34, (B (decide (x7.1 < 0))))], [(0, (x4.flatMap encI)), (56, [(.sl true x7.2.length 3 (x7.2.flatMap e49))])], [(B (decide (x6 > a1)) : V) = B true, (0 : Int) ≤ x6 ∧ x6 < (x4.length : Int), rdC prog 3 ((x4.flatMap encI).drop (0 + x6.toNat * 1)) = (I (at_ x4 x6)), x4.length * 1 = (x4.flatMap encI).length ∧ 0 + x6.toNat * 1 + 1 ≤ (x4.flatMap encI).length, (0 : Int) ≤ (wrap64 (x6 - 1)) ∧ (wrap64 (x6 - 1)) < (x4.length : Int), rdC prog 3 ((x4.flatMap encI).drop (0 + (wrap64 (x6 - 1)).toNat * 1)) = (I (at_ x4 (wrap64 (x6 - 1)))), x4.length * 1 = (x4.flatMap encI).length ∧ 0 + (wrap64 (x6 - 1)).toNat * 1 + 1 ≤ (x4.flatMap encI).length, COK (hget [(0, (x4.flatMap encI)), (56, [(.sl true x5.length 3 (x5.flatMap e49))])]) [(I (at_ x4 x6)), (I (at_ x4 (wrap64 (x6 - 1)))), (.pt 56 0 1)] ⟨59, [(I (at_ x4 x6)), (I (at_ x4 (wrap64 (x6 - 1)))), (.pt 40 0 1)], [(40, [(.sl true x5.length 3 (x5.flatMap e49))])], (I x7.1), [(40, [(.sl true x7.2.length 3 (x7.2.flatMap e49))])], [], [(56, 40)], [(56, 40)], (I x7.1), [(56, [(.sl true x7.2.length 3 (x7.2.flatMap e49))])]⟩], [⟨59, [(I (at_ x4 x6)), (I (at_ x4 (wrap64 (x6 - 1)))), (.pt 40 0 1)], [(40, [(.sl true x5.length 3 (x5.flatMap e49))])], (I x7.1), [(40, [(.sl true x7.2.length 3 (x7.2.flatMap e49))])], [], [(56, 40)], [(56, 40)], (I x7.1), [(56, [(.sl true x7.2.length 3 (x7.2.flatMap e49))])]⟩]⟩ [c_ 3217, c_ 1609, l_ 402, b_ 2, b_ 1, c_ 51, l_ 6, b_ 0] (alc (bT (dT c2)) (alc ⟨c3, c4⟩ (alc (ldC01 encI_ok rfl c3 c4) (alc (okA0 encI_ok c3 c4 (by decide)) (alc ⟨c5, c6⟩ (alc (ldC01 encI_ok rfl c5 c6) (alc (okA0 encI_ok c5 c6 (by decide)) (alc (cokW true (a2c (.z .s) (a2c (.z .s) (a2c (.pt (memP_mem (p := (56, 40)) rfl)) a2n))) (akc ⟨_, _, rfl, rfl, (a2c (.z (frz_sl e49_ok (fun h => h))) a2n)⟩ akn) (akc (.inl rfl) akn) (.z .s) (akc ⟨_, _, rfl, rfl, (a2c (.z (clnS e49_c (fun h => rfl))) a2n)⟩ akn) (fun h => rfl)) aln)))))))) (acal (impl_inTurn_1.J (at_ x4 x6) (at_ x4 (wrap64 (x6 - 1))) x5 _ hx7) nocal) ?_
              by_cases c7 : x7.1 < 0
              · rw [if_pos c7] at h
                refine .cond' (.tmp 34) true [c_ 6436, b_ 3, c_ 3219, l_ 402, b_ 2, b_ 1, c_ 51, l_ 6, b_ 0] (bT (dT c7)) ?_
                refine .reg' [0, 1, 2, 3, 8, 9] [.no, .no, .no, .no, .no, .no, .no, .no, .no, .v (I (at_ x4 (wrap64 (x6 - 1)))), .no, .no, .no, .v (I (at_ x4 x6)), .no, .w .un ((x4.set x6.toNat (at_ x4 (wrap64 (x6 - 1)))).flatMap encI), .no, .w .un (((x4.set x6.toNat (at_ x4 (wrap64 (x6 - 1)))).set (wrap64 (x6 - 1)).toNat (at_ x4 x6)).flatMap encI)] ⟨[(0, (.rf 0 0 x4.length 1 (x4.length * 1))), (1, (I a1)), (2, (I a2)), (3, (.fn (.func 59) [] [(.pt 56 0 1)])), (8, (I x3)), (9, (I x6))], [(0, (((x4.set x6.toNat (at_ x4 (wrap64 (x6 - 1)))).set (wrap64 (x6 - 1)).toNat (at_ x4 x6)).flatMap encI)), (56, [(.sl true x7.2.length 3 (x7.2.flatMap e49))])], [(0 : Int) ≤ (wrap64 (x6 - 1)) ∧ (wrap64 (x6 - 1)) < (x4.length : Int), rdC prog 3 ((x4.flatMap encI).drop (0 + (wrap64 (x6 - 1)).toNat * 1)) = (I (at_ x4 (wrap64 (x6 - 1)))), x4.length * 1 = (x4.flatMap encI).length ∧ 0 + (wrap64 (x6 - 1)).toNat * 1 + 1 ≤ (x4.flatMap encI).length, (0 : Int) ≤ x6 ∧ x6 < (x4.length : Int), rdC prog 3 ((x4.flatMap encI).drop (0 + x6.toNat * 1)) = (I (at_ x4 x6)), x4.length * 1 = (x4.flatMap encI).length ∧ 0 + x6.toNat * 1 + 1 ≤ (x4.flatMap encI).length, (0 : Int) ≤ x6 ∧ x6 < (x4.length : Int), V.un = V.un, spl (x4.flatMap encI) (0 + x6.toNat * 1) [(I (at_ x4 (wrap64 (x6 - 1))))] = ((x4.set x6.toNat (at_ x4 (wrap64 (x6 - 1)))).flatMap encI), x4.length * 1 = (x4.flatMap encI).length ∧ 0 + x6.toNat * 1 + 1 ≤ (x4.flatMap encI).length, (0 : Int) ≤ (wrap64 (x6 - 1)) ∧ (wrap64 (x6 - 1)) < (x4.length : Int), V.un = V.un, spl ((x4.set x6.toNat (at_ x4 (wrap64 (x6 - 1)))).flatMap encI) (0 + (wrap64 (x6 - 1)).toNat * 1) [(I (at_ x4 x6))] = (((x4.set x6.toNat (at_ x4 (wrap64 (x6 - 1)))).set (wrap64 (x6 - 1)).toNat (at_ x4 x6)).flatMap encI), x4.length * 1 = ((x4.set x6.toNat (at_ x4 (wrap64 (x6 - 1)))).flatMap encI).length ∧ 0 + (wrap64 (x6 - 1)).toNat * 1 + 1 ≤ ((x4.set x6.toNat (at_ x4 (wrap64 (x6 - 1)))).flatMap encI).length], []⟩ [c_ 3219, l_ 402, b_ 2, b_ 1, c_ 51, l_ 6, b_ 0] (alc ⟨c5, c6⟩ (alc (ldC01 encI_ok rfl c5 c6) (alc (okA0 encI_ok c5 c6 (by decide)) (alc ⟨c3, c4⟩ (alc (ldC01 encI_ok rfl c3 c4) (alc (okA0 encI_ok c3 c4 (by decide)) (alc ⟨c3, c4⟩ (alc rfl (alc (st_row1 encI_ok c3 c4 (I (at_ x4 (wrap64 (x6 - 1)))) rfl) (alc (okA0 encI_ok c3 c4 (by decide)) (alc ⟨c5, c6⟩ (alc rfl (alc (st_row1 encI_ok c5 (ls c6) (I (at_ x4 x6)) rfl) (alc (okL (by simp only [List.length_set]) (okA0 encI_ok c5 (ls c6) (by decide))) aln)))))))))))))) nocal ?_
                refine .eqs (env2 := [(0, (.rf 0 0 (((x4.set x6.toNat (at_ x4 (wrap64 (x6 - 1)))).set (wrap64 (x6 - 1)).toNat (at_ x4 x6)).length) 1 (((x4.set x6.toNat (at_ x4 (wrap64 (x6 - 1)))).set (wrap64 (x6 - 1)).toNat (at_ x4 x6)).length * 1))), (1, (I a1)), (2, (I a2)), (3, (.fn (.func 59) [] [(.pt 56 0 1)])), (8, (I x3)), (9, (I x6))]) (H2 := [(0, (((x4.set x6.toNat (at_ x4 (wrap64 (x6 - 1)))).set (wrap64 (x6 - 1)).toNat (at_ x4 x6)).flatMap encI)), (56, [(.sl true x7.2.length 3 (x7.2.flatMap e49))])]) (by first | (simp only [List.length_set]; done) | simp) (by first | rfl | (simp only [List.length_set]; done) | simp) ?_
                refine .reg' [0, 1, 2, 3, 8, 9] [] ⟨[(0, (.rf 0 0 (((x4.set x6.toNat (at_ x4 (wrap64 (x6 - 1)))).set (wrap64 (x6 - 1)).toNat (at_ x4 x6)).length) 1 (((x4.set x6.toNat (at_ x4 (wrap64 (x6 - 1)))).set (wrap64 (x6 - 1)).toNat (at_ x4 x6)).length * 1))), (1, (I a1)), (2, (I a2)), (3, (.fn (.func 59) [] [(.pt 56 0 1)])), (8, (I x3)), (9, (I (wrap64 (x6 - 1))))], [(0, (((x4.set x6.toNat (at_ x4 (wrap64 (x6 - 1)))).set (wrap64 (x6 - 1)).toNat (at_ x4 x6)).flatMap encI)), (56, [(.sl true x7.2.length 3 (x7.2.flatMap e49))])], [], []⟩ [l_ 402, b_ 2, b_ 1, c_ 51, l_ 6, b_ 0] aln nocal ?_
                exact ih1 a1 a2 x3 ((x4.set x6.toNat (at_ x4 (wrap64 (x6 - 1)))).set (wrap64 (x6 - 1)).toNat (at_ x4 x6)) x7.2 (wrap64 (x6 - 1)) _ h
              · rw [if_neg c7] at h
                refine .cond' (.tmp 34) false [c_ 51, l_ 6, b_ 0] (bF (dF c7)) ?_
                refine .reg' [0, 1, 2, 3, 8] [] ⟨[(0, (.rf 0 0 x4.length 1 (x4.length * 1))), (1, (I a1)), (2, (I a2)), (3, (.fn (.func 59) [] [(.pt 56 0 1)])), (8, (I (wrap64 (x3 + 1))))], [(0, (x4.flatMap encI)), (56, [(.sl true x7.2.length 3 (x7.2.flatMap e49))])], [], []⟩ [l_ 6, b_ 0] aln nocal ?_
                exact ih0 a1 a2 x4 x7.2 (wrap64 (x3 + 1)) _ h
            · rw [if_neg c6] at h
              cases h
          · rw [if_neg c5] at h
            cases h
        · rw [if_neg c4] at h
          cases h
      · rw [if_neg c3] at h
        cases h
    · rw [if_neg c2] at h
      refine .reg' [0, 1, 2, 3, 8, 9, 34] [.no, .no, .no, .v (B false)] ⟨[(0, (.rf 0 0 x4.length 1 (x4.length * 1))), (1, (I a1)), (2, (I a2)), (3, (.fn (.func 59) [] [(.pt 56 0 1)])), (8, (I x3)), (9, (I x6)), (34, (B false))], [(0, (x4.flatMap encI)), (56, [(.sl true x5.length 3 (x5.flatMap e49))])], [(B (decide (x6 > a1)) : V) = B false], []⟩ [c_ 3217, c_ 1609, l_ 402, b_ 2, b_ 1, c_ 51, l_ 6, b_ 0] (alc (bF (dF c2)) aln) nocal ?_
      refine .cond' (.tmp 34) false [c_ 51, l_ 6, b_ 0] (rfl) ?_
      refine .reg' [0, 1, 2, 3, 8] [] ⟨[(0, (.rf 0 0 x4.length 1 (x4.length * 1))), (1, (I a1)), (2, (I a2)), (3, (.fn (.func 59) [] [(.pt 56 0 1)])), (8, (I (wrap64 (x3 + 1))))], [(0, (x4.flatMap encI)), (56, [(.sl true x5.length 3 (x5.flatMap e49))])], [], []⟩ [l_ 6, b_ 0] aln nocal ?_
      exact ih0 a1 a2 x4 x5 (wrap64 (x3 + 1)) _ h
theorem slices_insertionSortCmpFunc_1.J (k : Nat) (a0 : (List Int)) (a1 : Int) (a2 : Int) (a3c0 : (List S49)) (r : ((List Int) × (List S49))) (h : slices_insertionSortCmpFunc_1.f k a0 a1 a2 a3c0 = some r) : J prog (.call 65 [(.rf 0 0 a0.length 1 (a0.length * 1)), (I a1), (I a2), (.fn (.func 59) [] [(.pt 56 0 1)])] [(0, (a0.flatMap encI)), (56, [(.sl true a3c0.length 3 (a3c0.flatMap e49))])] (.tp []) [(0, (r.1.flatMap encI)), (56, [(.sl true r.2.length 3 (r.2.flatMap e49))])]) := by
  unfold slices_insertionSortCmpFunc_1.f at h
  obtain ⟨ih0, ih1⟩ := slices_insertionSortCmpFunc_1.lab k
  refine .call' [c_ 2, c_ 3] ?_
  refine .reg' [0, 1, 2, 3, 8] [] ⟨[(0, (.rf 0 0 a0.length 1 (a0.length * 1))), (1, (I a1)), (2, (I a2)), (3, (.fn (.func 59) [] [(.pt 56 0 1)])), (8, (I (wrap64 (a1 + 1))))], [(0, (a0.flatMap encI)), (56, [(.sl true a3c0.length 3 (a3c0.flatMap e49))])], [], []⟩ [l_ 6, b_ 0] aln nocal ?_
  exact ih0 a1 a2 a0 a3c0 (wrap64 (a1 + 1)) _ h
end Go.Proofs.Ytddipeelmandjaa.Fns
