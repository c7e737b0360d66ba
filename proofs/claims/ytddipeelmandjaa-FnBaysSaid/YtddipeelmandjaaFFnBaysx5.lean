/- The functions that the law FnBays reaches, by the engine. Printed by a program of this seat. -/
import Derived.Test.YtddipeelmandjaaE5
import Derived.Test.YtddipeelmandjaaProg
import Derived.Test.YtddipeelmandjaaFFnBaysx4
namespace Go.Proofs.Ytddipeelmandjaa.Fns
open Go.Proofs.Try Go.Proofs.Ytddipeelmandjaa.Eng Go.RowKit
set_option maxRecDepth 100000
set_option linter.unusedVariables false
set_option linter.unusedSimpArgs false
theorem spec_Assign.lab : ∀ k, (∀ (a0 : (List Int)) (a1 : (List S49)) (a2 : Int) (x4 : (List Int)) (x5 : Int) (r : (List Int)), spec_Assign.l0 k a0 a1 a2 x4 x5 = some r → J prog (.run 30 [] [l_ 122, b_ 0, c_ 31] [(0, (.sl true a0.length 1 (a0.flatMap encI))), (1, (.sl true a1.length 3 (a1.flatMap e49))), (2, (I a2)), (7, (.rf 1024 0 x4.length 1 (x4.length * 1))), (8, (I x5))] [(1024, (x4.flatMap encI))] (.rf 1024 0 r.length 1 (r.length * 1)) [(1024, (r.flatMap encI))])) ∧ (∀ (a0 : (List Int)) (a1 : (List S49)) (a2 : Int) (x6 : (List Int)) (x7 : (List Int)) (x8 : Int) (r : (List Int)), spec_Assign.l1 k a0 a1 a2 x6 x7 x8 = some r → J prog (.run 30 [] [l_ 506, b_ 2, c_ 127] [(0, (.sl true a0.length 1 (a0.flatMap encI))), (1, (.sl true a1.length 3 (a1.flatMap e49))), (2, (I a2)), (7, (.rf 1024 0 x7.length 1 (x7.length * 1))), (9, (.rf 1002305 0 x6.length 1 (x6.length * 1))), (10, (I x8))] [(1024, (x7.flatMap encI)), (1002305, (x6.flatMap encI))] (.rf 1024 0 r.length 1 (r.length * 1)) [(1024, (r.flatMap encI))])) ∧ (∀ (a0 : (List Int)) (a1 : (List S49)) (a2 : Int) (x6 : (List Int)) (x8 : Int) (x9 : (List Int)) (x10 : Int) (r : (List Int)), spec_Assign.l2 k a0 a1 a2 x6 x8 x9 x10 = some r → J prog (.run 30 [] [l_ 64806, b_ 4, b_ 3, c_ 4051, l_ 506, b_ 2, c_ 127] [(0, (.sl true a0.length 1 (a0.flatMap encI))), (1, (.sl true a1.length 3 (a1.flatMap e49))), (2, (I a2)), (7, (.rf 1024 0 x9.length 1 (x9.length * 1))), (9, (.rf 1002305 0 x6.length 1 (x6.length * 1))), (10, (I x8)), (11, (I (at_ x6 x8))), (12, (I x10))] [(1024, (x9.flatMap encI)), (1002305, (x6.flatMap encI))] (.rf 1024 0 r.length 1 (r.length * 1)) [(1024, (r.flatMap encI))])) ∧ (∀ (a0 : (List Int)) (a1 : (List S49)) (a2 : Int) (x6 : (List Int)) (x8 : Int) (x9 : (List Int)) (x10 : Int) (x11 : Bool) (x12 : Int) (r : (List Int)), spec_Assign.l3 k a0 a1 a2 x6 x8 x9 x10 x11 x12 = some r → J prog (.run 30 [] [l_ 16590410, b_ 6, c_ 4147603, b_ 5, c_ 518451, l_ 64806, b_ 4, b_ 3, c_ 4051, l_ 506, b_ 2, c_ 127] [(0, (.sl true a0.length 1 (a0.flatMap encI))), (1, (.sl true a1.length 3 (a1.flatMap e49))), (2, (I a2)), (7, (.rf 1024 0 x9.length 1 (x9.length * 1))), (9, (.rf 1002305 0 x6.length 1 (x6.length * 1))), (10, (I x8)), (11, (I (at_ x6 x8))), (12, (I x10)), (13, (B x11)), (14, (I x12))] [(1024, (x9.flatMap encI)), (1002305, (x6.flatMap encI))] (.rf 1024 0 r.length 1 (r.length * 1)) [(1024, (r.flatMap encI))]))
 | 0 => ⟨(by intro a0 a1 a2 x4 x5 r h; unfold spec_Assign.l0 at h; cases h), (by intro a0 a1 a2 x6 x7 x8 r h; unfold spec_Assign.l1 at h; cases h), (by intro a0 a1 a2 x6 x8 x9 x10 r h; unfold spec_Assign.l2 at h; cases h), (by intro a0 a1 a2 x6 x8 x9 x10 x11 x12 r h; unfold spec_Assign.l3 at h; cases h)⟩
 | k + 1 => by
  obtain ⟨ih0, ih1, ih2, ih3⟩ := spec_Assign.lab k
  refine ⟨?_, ?_, ?_, ?_⟩
  · intro a0 a1 a2 x4 x5 r h
    unfold spec_Assign.l0 at h
    refine .loop' [c_ 976, c_ 977, c_ 489, l_ 122, b_ 0, c_ 31] ?_
    refine .reg' [0, 1, 2, 7, 8, 32] [] ⟨[(0, (.sl true a0.length 1 (a0.flatMap encI))), (1, (.sl true a1.length 3 (a1.flatMap e49))), (2, (I a2)), (7, (.rf 1024 0 x4.length 1 (x4.length * 1))), (8, (I x5)), (32, (B (decide (x5 < (a1.length : Int)))))], [(1024, (x4.flatMap encI))], [], []⟩ [c_ 977, c_ 489, l_ 122, b_ 0, c_ 31] aln nocal ?_
    by_cases c4 : x5 < (a1.length : Int)
    · rw [if_pos c4] at h
      refine .cond' (.tmp 32) true [c_ 1956, b_ 1, c_ 979, l_ 122, b_ 0, c_ 31] (bT (dT c4)) ?_
      by_cases c5 : (x4.length + ([(-1)] : List Int).length) * 8 ≤ 70368744177664
      · rw [if_pos c5] at h
        refine .reg' [0, 1, 2, 7, 8] [.no, .no, .w (.rf 1024 0 ((x4 ++ ([(-1)] : List Int)).length) 1 ((x4 ++ ([(-1)] : List Int)).length * 1)) ((x4 ++ ([(-1)] : List Int)).flatMap encI)] ⟨[(0, (.sl true a0.length 1 (a0.flatMap encI))), (1, (.sl true a1.length 3 (a1.flatMap e49))), (2, (I a2)), (7, (.rf 1024 0 ((x4 ++ ([(-1)] : List Int)).length) 1 ((x4 ++ ([(-1)] : List Int)).length * 1))), (8, (I x5))], [(1024, ((x4 ++ ([(-1)] : List Int)).flatMap encI)), (2049, (([(-1)] : List Int).flatMap encI))], [V.rf 1024 0 (x4.length + ([(-1)] : List Int).length) 1 (x4.length * 1 + ([(-1)] : List Int).length * 1) = (.rf 1024 0 ((x4 ++ ([(-1)] : List Int)).length) 1 ((x4 ++ ([(-1)] : List Int)).length * 1)), x4.flatMap encI ++ (((([(-1)] : List Int).flatMap encI).drop 0).take (([(-1)] : List Int).length * 1)) = ((x4 ++ ([(-1)] : List Int)).flatMap encI), (([(-1)] : List Int).length * 1 = (([(-1)] : List Int).flatMap encI).length ∧ 0 + ([(-1)] : List Int).length * 1 ≤ (([(-1)] : List Int).flatMap encI).length) ∧ x4.length * 1 = (x4.flatMap encI).length ∧ x4.length * 1 = (x4.flatMap encI).length ∧ (x4.length + ([(-1)] : List Int).length) * 8 ≤ 70368744177664], []⟩ [c_ 979, l_ 122, b_ 0, c_ 31] (alc (apV rfl) (alc (apR encI_ok rfl) (alc (apO encI_ok rfl c5 rfl) aln))) nocal ?_
        refine .reg' [0, 1, 2, 7, 8] [] ⟨[(0, (.sl true a0.length 1 (a0.flatMap encI))), (1, (.sl true a1.length 3 (a1.flatMap e49))), (2, (I a2)), (7, (.rf 1024 0 ((x4 ++ ([(-1)] : List Int)).length) 1 ((x4 ++ ([(-1)] : List Int)).length * 1))), (8, (I (wrap64 (x5 + 1))))], [(1024, ((x4 ++ ([(-1)] : List Int)).flatMap encI)), (2049, (([(-1)] : List Int).flatMap encI))], [], []⟩ [l_ 122, b_ 0, c_ 31] aln nocal ?_
        refine .wk' [] [(1024, 1024)] [(0, (.sl true a0.length 1 (a0.flatMap encI))), (1, (.sl true a1.length 3 (a1.flatMap e49))), (2, (I a2)), (7, (.rf 1024 0 ((x4 ++ ([(-1)] : List Int)).length) 1 ((x4 ++ ([(-1)] : List Int)).length * 1))), (8, (I (wrap64 (x5 + 1))))] [(1024, ((x4 ++ ([(-1)] : List Int)).flatMap encI))] (shc 1024 (rowF encI_ok _) shn) (enc_ (.z (frz_sl encI_ok (fun h => h))) (enc_ (.z (frz_sl e49_ok (fun h => h))) (enc_ (.z .s) (enc_ (.rf (memP_mem (p := (1024, 1024)) rfl)) (enc_ (.z .s) enn))))) ?_
        exact ih0 a0 a1 a2 (x4 ++ ([(-1)] : List Int)) (wrap64 (x5 + 1)) _ h
      · rw [if_neg c5] at h
        cases h
    · rw [if_neg c4] at h
      refine .cond' (.tmp 32) false [c_ 62, c_ 63] (bF (dF c4)) ?_
      obtain ⟨x6, hx6, h⟩ := Option.bind_eq_some_iff.mp h
      refine .reg' [0, 1, 2, 7, 9] [.no, .c ⟨50, [(.sl true a1.length 3 (a1.flatMap e49))], [], (.rf 512 0 x6.length 1 (x6.length * 1)), [(512, (x6.flatMap encI))], [], [], [(1002305, 512)], (.rf 1002305 0 x6.length 1 (x6.length * 1)), [(1002305, (x6.flatMap encI))]⟩] ⟨[(0, (.sl true a0.length 1 (a0.flatMap encI))), (1, (.sl true a1.length 3 (a1.flatMap e49))), (2, (I a2)), (7, (.rf 1024 0 x4.length 1 (x4.length * 1))), (9, (.rf 1002305 0 x6.length 1 (x6.length * 1)))], [(1024, (x4.flatMap encI)), (1002305, (x6.flatMap encI))], [COK (hget [(1024, (x4.flatMap encI))]) [(.sl true a1.length 3 (a1.flatMap e49))] ⟨50, [(.sl true a1.length 3 (a1.flatMap e49))], [], (.rf 512 0 x6.length 1 (x6.length * 1)), [(512, (x6.flatMap encI))], [], [], [(1002305, 512)], (.rf 1002305 0 x6.length 1 (x6.length * 1)), [(1002305, (x6.flatMap encI))]⟩], [⟨50, [(.sl true a1.length 3 (a1.flatMap e49))], [], (.rf 512 0 x6.length 1 (x6.length * 1)), [(512, (x6.flatMap encI))], [], [], [(1002305, 512)], (.rf 1002305 0 x6.length 1 (x6.length * 1)), [(1002305, (x6.flatMap encI))]⟩]⟩ [c_ 252, c_ 253, c_ 127] (alc (cokW false (a2c (.z (frz_sl e49_ok (fun h => h))) a2n) akn (akc (.inr rfl) akn) (.rf (memP_mem (p := (1002305, 512)) rfl)) (akc ⟨_, _, rfl, rfl, rowB encI_c _⟩ akn) (fun h => absurd h (by decide))) aln) (acal (spec_l10Order.J k a1 _ hx6) nocal) ?_
      refine .reg' [0, 1, 2, 7, 9, 10] [] ⟨[(0, (.sl true a0.length 1 (a0.flatMap encI))), (1, (.sl true a1.length 3 (a1.flatMap e49))), (2, (I a2)), (7, (.rf 1024 0 x4.length 1 (x4.length * 1))), (9, (.rf 1002305 0 x6.length 1 (x6.length * 1))), (10, (I 0))], [(1024, (x4.flatMap encI)), (1002305, (x6.flatMap encI))], [], []⟩ [l_ 506, b_ 2, c_ 127] aln nocal ?_
      exact ih1 a0 a1 a2 x6 x4 0 _ h
  · intro a0 a1 a2 x6 x7 x8 r h
    unfold spec_Assign.l1 at h
    refine .loop' [c_ 4048, c_ 4049, c_ 2025, l_ 506, b_ 2, c_ 127] ?_
    refine .reg' [0, 1, 2, 7, 9, 10, 43] [] ⟨[(0, (.sl true a0.length 1 (a0.flatMap encI))), (1, (.sl true a1.length 3 (a1.flatMap e49))), (2, (I a2)), (7, (.rf 1024 0 x7.length 1 (x7.length * 1))), (9, (.rf 1002305 0 x6.length 1 (x6.length * 1))), (10, (I x8)), (43, (B (decide (x8 < (x6.length : Int)))))], [(1024, (x7.flatMap encI)), (1002305, (x6.flatMap encI))], [], []⟩ [c_ 4049, c_ 2025, l_ 506, b_ 2, c_ 127] aln nocal ?_
    by_cases c6 : x8 < (x6.length : Int)
    · rw [if_pos c6] at h
      refine .cond' (.tmp 43) true [c_ 16200, c_ 16201, b_ 3, c_ 4051, l_ 506, b_ 2, c_ 127] (bT (dT c6)) ?_
      by_cases c7 : 0 ≤ x8
      · rw [if_pos c7] at h
        refine .reg' [0, 1, 2, 7, 9, 10, 11] [.no, .no, .no, .v (I (at_ x6 x8))] ⟨[(0, (.sl true a0.length 1 (a0.flatMap encI))), (1, (.sl true a1.length 3 (a1.flatMap e49))), (2, (I a2)), (7, (.rf 1024 0 x7.length 1 (x7.length * 1))), (9, (.rf 1002305 0 x6.length 1 (x6.length * 1))), (10, (I x8)), (11, (I (at_ x6 x8)))], [(1024, (x7.flatMap encI)), (1002305, (x6.flatMap encI))], [(0 : Int) ≤ x8 ∧ x8 < (x6.length : Int), rdC prog 3 ((x6.flatMap encI).drop (0 + x8.toNat * 1)) = (I (at_ x6 x8)), x6.length * 1 = (x6.flatMap encI).length ∧ 0 + x8.toNat * 1 + 1 ≤ (x6.flatMap encI).length], []⟩ [c_ 32402, c_ 32403, b_ 3, c_ 4051, l_ 506, b_ 2, c_ 127] (alc ⟨c7, c6⟩ (alc (ldC01 encI_ok rfl c7 c6) (alc (okA0 encI_ok c7 c6 (by decide)) aln))) nocal ?_
        refine .reg' [0, 1, 2, 7, 9, 10, 11, 12] [] ⟨[(0, (.sl true a0.length 1 (a0.flatMap encI))), (1, (.sl true a1.length 3 (a1.flatMap e49))), (2, (I a2)), (7, (.rf 1024 0 x7.length 1 (x7.length * 1))), (9, (.rf 1002305 0 x6.length 1 (x6.length * 1))), (10, (I x8)), (11, (I (at_ x6 x8))), (12, (I (wrap64 ((a0.length : Int) - 1))))], [(1024, (x7.flatMap encI)), (1002305, (x6.flatMap encI))], [], []⟩ [l_ 64806, b_ 4, b_ 3, c_ 4051, l_ 506, b_ 2, c_ 127] aln nocal ?_
        exact ih2 a0 a1 a2 x6 x8 x7 (wrap64 ((a0.length : Int) - 1)) _ h
      · rw [if_neg c7] at h
        cases h
    · rw [if_neg c6] at h
      refine .cond' (.tmp 43) false [c_ 254, c_ 255] (bF (dF c6)) ?_
      refine .reg' [6] [] ⟨[(6, (.rf 1024 0 x7.length 1 (x7.length * 1)))], [(1024, (x7.flatMap encI)), (1002305, (x6.flatMap encI))], [], []⟩ [c_ 255] aln nocal ?_
      have h := Option.some.inj h
      subst h
      exact .fin' [] [(1024, 1024)] (.rf 1024 0 x7.length 1 (x7.length * 1)) [] aln (shc 1024 (rowF encI_ok _) shn) (.rf (memP_mem (p := (1024, 1024)) rfl))
  · intro a0 a1 a2 x6 x8 x9 x10 r h
    unfold spec_Assign.l2 at h
    refine .loop' [c_ 518448, c_ 518449, c_ 259225, l_ 64806, b_ 4, b_ 3, c_ 4051, l_ 506, b_ 2, c_ 127] ?_
    refine .reg' [0, 1, 2, 7, 9, 10, 11, 12, 54] [] ⟨[(0, (.sl true a0.length 1 (a0.flatMap encI))), (1, (.sl true a1.length 3 (a1.flatMap e49))), (2, (I a2)), (7, (.rf 1024 0 x9.length 1 (x9.length * 1))), (9, (.rf 1002305 0 x6.length 1 (x6.length * 1))), (10, (I x8)), (11, (I (at_ x6 x8))), (12, (I x10)), (54, (B (decide (x10 ≥ 0))))], [(1024, (x9.flatMap encI)), (1002305, (x6.flatMap encI))], [], []⟩ [c_ 518449, c_ 259225, l_ 64806, b_ 4, b_ 3, c_ 4051, l_ 506, b_ 2, c_ 127] aln nocal ?_
    by_cases c8 : x10 ≥ 0
    · rw [if_pos c8] at h
      refine .cond' (.tmp 54) true [c_ 2073800, c_ 2073801, b_ 5, c_ 518451, l_ 64806, b_ 4, b_ 3, c_ 4051, l_ 506, b_ 2, c_ 127] (bT (dT c8)) ?_
      by_cases c9 : 0 ≤ x10
      · rw [if_pos c9] at h
        by_cases c10 : x10 < (a0.length : Int)
        · rw [if_pos c10] at h
          by_cases c11 : 0 ≤ (at_ x6 x8)
          · rw [if_pos c11] at h
            by_cases c12 : (at_ x6 x8) < (a1.length : Int)
            · rw [if_pos c12] at h
              refine .reg' [0, 1, 2, 7, 9, 10, 11, 12, 13] [.no, .no, .no, .v (I (at_ a0 x10)), .no, .no, .no, .no, .v (I (at_ a1 (at_ x6 x8)).f2)] ⟨[(0, (.sl true a0.length 1 (a0.flatMap encI))), (1, (.sl true a1.length 3 (a1.flatMap e49))), (2, (I a2)), (7, (.rf 1024 0 x9.length 1 (x9.length * 1))), (9, (.rf 1002305 0 x6.length 1 (x6.length * 1))), (10, (I x8)), (11, (I (at_ x6 x8))), (12, (I x10)), (13, (B (decide ((at_ a0 x10) ≥ (at_ a1 (at_ x6 x8)).f2))))], [(1024, (x9.flatMap encI)), (1002305, (x6.flatMap encI))], [(0 : Int) ≤ x10 ∧ x10 < (a0.length : Int), rdC prog 3 ((a0.flatMap encI).drop (x10.toNat * 1)) = (I (at_ a0 x10)), 1 ≤ ((a0.flatMap encI).drop (x10.toNat * 1)).length, (0 : Int) ≤ (at_ x6 x8) ∧ (at_ x6 x8) < (a1.length : Int), rdC prog 3 (((a1.flatMap e49).drop ((at_ x6 x8).toNat * 3)).drop 2) = (I (at_ a1 (at_ x6 x8)).f2), 1 ≤ (((a1.flatMap e49).drop ((at_ x6 x8).toNat * 3)).drop 2).length], []⟩ [c_ 8295204, c_ 8295205, c_ 4147603, b_ 5, c_ 518451, l_ 64806, b_ 4, b_ 3, c_ 4051, l_ 506, b_ 2, c_ 127] (alc ⟨c9, c10⟩ (alc (ldC1 encI_ok rfl c9 c10) (alc (okI encI_ok c9 c10 (by decide)) (alc ⟨c11, c12⟩ (alc (ldC e49_ok 2 (by decide) rfl c11 c12) (alc (okIj e49_ok c11 c12 (by decide)) aln)))))) nocal ?_
              refine .reg' [0, 1, 2, 7, 9, 10, 11, 12, 13, 14] [] ⟨[(0, (.sl true a0.length 1 (a0.flatMap encI))), (1, (.sl true a1.length 3 (a1.flatMap e49))), (2, (I a2)), (7, (.rf 1024 0 x9.length 1 (x9.length * 1))), (9, (.rf 1002305 0 x6.length 1 (x6.length * 1))), (10, (I x8)), (11, (I (at_ x6 x8))), (12, (I x10)), (13, (B (decide ((at_ a0 x10) ≥ (at_ a1 (at_ x6 x8)).f2)))), (14, (I 0))], [(1024, (x9.flatMap encI)), (1002305, (x6.flatMap encI))], [], []⟩ [l_ 16590410, b_ 6, c_ 4147603, b_ 5, c_ 518451, l_ 64806, b_ 4, b_ 3, c_ 4051, l_ 506, b_ 2, c_ 127] aln nocal ?_
              exact ih3 a0 a1 a2 x6 x8 x9 x10 (decide ((at_ a0 x10) ≥ (at_ a1 (at_ x6 x8)).f2)) 0 _ h
            · rw [if_neg c12] at h
              cases h
          · rw [if_neg c11] at h
            cases h
        · rw [if_neg c10] at h
          cases h
      · rw [if_neg c9] at h
        cases h
    · rw [if_neg c8] at h
      refine .cond' (.tmp 54) false [c_ 4051, l_ 506, b_ 2, c_ 127] (bF (dF c8)) ?_
      refine .reg' [0, 1, 2, 7, 9, 10] [] ⟨[(0, (.sl true a0.length 1 (a0.flatMap encI))), (1, (.sl true a1.length 3 (a1.flatMap e49))), (2, (I a2)), (7, (.rf 1024 0 x9.length 1 (x9.length * 1))), (9, (.rf 1002305 0 x6.length 1 (x6.length * 1))), (10, (I (wrap64 (x8 + 1))))], [(1024, (x9.flatMap encI)), (1002305, (x6.flatMap encI))], [], []⟩ [l_ 506, b_ 2, c_ 127] aln nocal ?_
      exact ih1 a0 a1 a2 x6 x9 (wrap64 (x8 + 1)) _ h
  · intro a0 a1 a2 x6 x8 x9 x10 x11 x12 r h
    unfold spec_Assign.l3 at h
    refine .loop' [c_ 132723280, c_ 132723281, c_ 66361641, l_ 16590410, b_ 6, c_ 4147603, b_ 5, c_ 518451, l_ 64806, b_ 4, b_ 3, c_ 4051, l_ 506, b_ 2, c_ 127] ?_
    refine .reg' [0, 1, 2, 7, 9, 10, 11, 12, 13, 14, 69] [] ⟨[(0, (.sl true a0.length 1 (a0.flatMap encI))), (1, (.sl true a1.length 3 (a1.flatMap e49))), (2, (I a2)), (7, (.rf 1024 0 x9.length 1 (x9.length * 1))), (9, (.rf 1002305 0 x6.length 1 (x6.length * 1))), (10, (I x8)), (11, (I (at_ x6 x8))), (12, (I x10)), (13, (B x11)), (14, (I x12)), (69, (B (decide (x12 < x8))))], [(1024, (x9.flatMap encI)), (1002305, (x6.flatMap encI))], [], []⟩ [c_ 132723281, c_ 66361641, l_ 16590410, b_ 6, c_ 4147603, b_ 5, c_ 518451, l_ 64806, b_ 4, b_ 3, c_ 4051, l_ 506, b_ 2, c_ 127] aln nocal ?_
    by_cases c13 : x12 < x8
    · rw [if_pos c13] at h
      refine .cond' (.tmp 69) true [c_ 530893128, c_ 530893129, b_ 7, c_ 132723283, l_ 16590410, b_ 6, c_ 4147603, b_ 5, c_ 518451, l_ 64806, b_ 4, b_ 3, c_ 4051, l_ 506, b_ 2, c_ 127] (bT (dT c13)) ?_
      by_cases c14 : 0 ≤ x12
      · rw [if_pos c14] at h
        by_cases c15 : x12 < (x6.length : Int)
        · rw [if_pos c15] at h
          by_cases c16 : 0 ≤ (at_ x6 x12)
          · rw [if_pos c16] at h
            by_cases c17 : (at_ x6 x12) < (x9.length : Int)
            · rw [if_pos c17] at h
              by_cases c18 : (at_ x9 (at_ x6 x12)) = x10
              · rw [if_pos c18] at h
                by_cases c19 : 0 ≤ (at_ x6 x8)
                · rw [if_pos c19] at h
                  by_cases c20 : (at_ x6 x8) < (a1.length : Int)
                  · rw [if_pos c20] at h
                    by_cases c21 : (at_ x6 x12) < (a1.length : Int)
                    · rw [if_pos c21] at h
                      obtain ⟨x13, hx13, h⟩ := Option.bind_eq_some_iff.mp h
                      refine .reg' [0, 1, 2, 7, 9, 10, 11, 12, 13, 14, 95] [.no, .no, .no, .no, .v (I (at_ x6 x12)), .no, .v (I (at_ x9 (at_ x6 x12))), .no, .no, .v (B true), .no, .no, .no, .v (.ag [(I (at_ a1 (at_ x6 x8)).f0), (I (at_ a1 (at_ x6 x8)).f1), (I (at_ a1 (at_ x6 x8)).f2)]), .no, .no, .no, .no, .v (I (at_ x6 x12)), .no, .v (.ag [(I (at_ a1 (at_ x6 x12)).f0), (I (at_ a1 (at_ x6 x12)).f1), (I (at_ a1 (at_ x6 x12)).f2)]), .no, .c ⟨48, [(.ag [(I (at_ a1 (at_ x6 x8)).f0), (I (at_ a1 (at_ x6 x8)).f1), (I (at_ a1 (at_ x6 x8)).f2)]), (.ag [(I (at_ a1 (at_ x6 x12)).f0), (I (at_ a1 (at_ x6 x12)).f1), (I (at_ a1 (at_ x6 x12)).f2)]), (I a2)], [], (B x13), [], [], [], [], (B x13), []⟩] ⟨[(0, (.sl true a0.length 1 (a0.flatMap encI))), (1, (.sl true a1.length 3 (a1.flatMap e49))), (2, (I a2)), (7, (.rf 1024 0 x9.length 1 (x9.length * 1))), (9, (.rf 1002305 0 x6.length 1 (x6.length * 1))), (10, (I x8)), (11, (I (at_ x6 x8))), (12, (I x10)), (13, (B x11)), (14, (I x12)), (95, (B x13))], [(1024, (x9.flatMap encI)), (1002305, (x6.flatMap encI))], [(0 : Int) ≤ x12 ∧ x12 < (x6.length : Int), rdC prog 3 ((x6.flatMap encI).drop (0 + x12.toNat * 1)) = (I (at_ x6 x12)), x6.length * 1 = (x6.flatMap encI).length ∧ 0 + x12.toNat * 1 + 1 ≤ (x6.flatMap encI).length, (0 : Int) ≤ (at_ x6 x12) ∧ (at_ x6 x12) < (x9.length : Int), rdC prog 3 ((x9.flatMap encI).drop (0 + (at_ x6 x12).toNat * 1)) = (I (at_ x9 (at_ x6 x12))), x9.length * 1 = (x9.flatMap encI).length ∧ 0 + (at_ x6 x12).toNat * 1 + 1 ≤ (x9.flatMap encI).length, (B ((at_ x9 (at_ x6 x12)) == x10) : V) = B true, (0 : Int) ≤ (at_ x6 x8) ∧ (at_ x6 x8) < (a1.length : Int), rdC prog 50 ((a1.flatMap e49).drop ((at_ x6 x8).toNat * 3)) = (.ag [(I (at_ a1 (at_ x6 x8)).f0), (I (at_ a1 (at_ x6 x8)).f1), (I (at_ a1 (at_ x6 x8)).f2)]), 3 ≤ ((a1.flatMap e49).drop ((at_ x6 x8).toNat * 3)).length, (0 : Int) ≤ x12 ∧ x12 < (x6.length : Int), rdC prog 3 ((x6.flatMap encI).drop (0 + x12.toNat * 1)) = (I (at_ x6 x12)), x6.length * 1 = (x6.flatMap encI).length ∧ 0 + x12.toNat * 1 + 1 ≤ (x6.flatMap encI).length, (0 : Int) ≤ (at_ x6 x12) ∧ (at_ x6 x12) < (a1.length : Int), rdC prog 50 ((a1.flatMap e49).drop ((at_ x6 x12).toNat * 3)) = (.ag [(I (at_ a1 (at_ x6 x12)).f0), (I (at_ a1 (at_ x6 x12)).f1), (I (at_ a1 (at_ x6 x12)).f2)]), 3 ≤ ((a1.flatMap e49).drop ((at_ x6 x12).toNat * 3)).length, COK (hget [(1024, (x9.flatMap encI)), (1002305, (x6.flatMap encI))]) [(.ag [(I (at_ a1 (at_ x6 x8)).f0), (I (at_ a1 (at_ x6 x8)).f1), (I (at_ a1 (at_ x6 x8)).f2)]), (.ag [(I (at_ a1 (at_ x6 x12)).f0), (I (at_ a1 (at_ x6 x12)).f1), (I (at_ a1 (at_ x6 x12)).f2)]), (I a2)] ⟨48, [(.ag [(I (at_ a1 (at_ x6 x8)).f0), (I (at_ a1 (at_ x6 x8)).f1), (I (at_ a1 (at_ x6 x8)).f2)]), (.ag [(I (at_ a1 (at_ x6 x12)).f0), (I (at_ a1 (at_ x6 x12)).f1), (I (at_ a1 (at_ x6 x12)).f2)]), (I a2)], [], (B x13), [], [], [], [], (B x13), []⟩], [⟨48, [(.ag [(I (at_ a1 (at_ x6 x8)).f0), (I (at_ a1 (at_ x6 x8)).f1), (I (at_ a1 (at_ x6 x8)).f2)]), (.ag [(I (at_ a1 (at_ x6 x12)).f0), (I (at_ a1 (at_ x6 x12)).f1), (I (at_ a1 (at_ x6 x12)).f2)]), (I a2)], [], (B x13), [], [], [], [], (B x13), []⟩]⟩ [c_ 530893129, b_ 7, c_ 132723283, l_ 16590410, b_ 6, c_ 4147603, b_ 5, c_ 518451, l_ 64806, b_ 4, b_ 3, c_ 4051, l_ 506, b_ 2, c_ 127] (alc ⟨c14, c15⟩ (alc (ldC01 encI_ok rfl c14 c15) (alc (okA0 encI_ok c14 c15 (by decide)) (alc ⟨c16, c17⟩ (alc (ldC01 encI_ok rfl c16 c17) (alc (okA0 encI_ok c16 c17 (by decide)) (alc (bT (qT c18)) (alc ⟨c19, c20⟩ (alc (ldA e49_ok rfl rfl c19 c20) (alc (okI e49_ok c19 c20 (by decide)) (alc ⟨c14, c15⟩ (alc (ldC01 encI_ok rfl c14 c15) (alc (okA0 encI_ok c14 c15 (by decide)) (alc ⟨c16, c21⟩ (alc (ldA e49_ok rfl rfl c16 c21) (alc (okI e49_ok c16 c21 (by decide)) (alc (cok0 false (a2c (.z (frz_ag (a2c .s (a2c .s (a2c .s a2n))))) (a2c (.z (frz_ag (a2c .s (a2c .s (a2c .s a2n))))) (a2c (.z .s) a2n))) (.z .s) (fun h => absurd h (by decide))) aln))))))))))))))))) (acal (spec_l10Meet.J (at_ a1 (at_ x6 x8)) (at_ a1 (at_ x6 x12)) a2 _ hx13) nocal) ?_
                      by_cases c22 : x13 = true
                      · rw [if_pos c22] at h
                        refine .cond' (.tmp 95) true [c_ 1061786258, b_ 7, c_ 132723283, l_ 16590410, b_ 6, c_ 4147603, b_ 5, c_ 518451, l_ 64806, b_ 4, b_ 3, c_ 4051, l_ 506, b_ 2, c_ 127] (bT c22) ?_
                        refine .reg' [0, 1, 2, 7, 9, 10, 11, 12, 13, 14] [] ⟨[(0, (.sl true a0.length 1 (a0.flatMap encI))), (1, (.sl true a1.length 3 (a1.flatMap e49))), (2, (I a2)), (7, (.rf 1024 0 x9.length 1 (x9.length * 1))), (9, (.rf 1002305 0 x6.length 1 (x6.length * 1))), (10, (I x8)), (11, (I (at_ x6 x8))), (12, (I x10)), (13, (B false)), (14, (I x12))], [(1024, (x9.flatMap encI)), (1002305, (x6.flatMap encI))], [], []⟩ [c_ 132723283, l_ 16590410, b_ 6, c_ 4147603, b_ 5, c_ 518451, l_ 64806, b_ 4, b_ 3, c_ 4051, l_ 506, b_ 2, c_ 127] aln nocal ?_
                        refine .reg' [0, 1, 2, 7, 9, 10, 11, 12, 13, 14] [] ⟨[(0, (.sl true a0.length 1 (a0.flatMap encI))), (1, (.sl true a1.length 3 (a1.flatMap e49))), (2, (I a2)), (7, (.rf 1024 0 x9.length 1 (x9.length * 1))), (9, (.rf 1002305 0 x6.length 1 (x6.length * 1))), (10, (I x8)), (11, (I (at_ x6 x8))), (12, (I x10)), (13, (B false)), (14, (I (wrap64 (x12 + 1))))], [(1024, (x9.flatMap encI)), (1002305, (x6.flatMap encI))], [], []⟩ [l_ 16590410, b_ 6, c_ 4147603, b_ 5, c_ 518451, l_ 64806, b_ 4, b_ 3, c_ 4051, l_ 506, b_ 2, c_ 127] aln nocal ?_
                        exact ih3 a0 a1 a2 x6 x8 x9 x10 false (wrap64 (x12 + 1)) _ h
                      · rw [if_neg c22] at h
                        refine .cond' (.tmp 95) false [c_ 132723283, l_ 16590410, b_ 6, c_ 4147603, b_ 5, c_ 518451, l_ 64806, b_ 4, b_ 3, c_ 4051, l_ 506, b_ 2, c_ 127] (bF (vF c22)) ?_
                        refine .reg' [0, 1, 2, 7, 9, 10, 11, 12, 13, 14] [] ⟨[(0, (.sl true a0.length 1 (a0.flatMap encI))), (1, (.sl true a1.length 3 (a1.flatMap e49))), (2, (I a2)), (7, (.rf 1024 0 x9.length 1 (x9.length * 1))), (9, (.rf 1002305 0 x6.length 1 (x6.length * 1))), (10, (I x8)), (11, (I (at_ x6 x8))), (12, (I x10)), (13, (B x11)), (14, (I (wrap64 (x12 + 1))))], [(1024, (x9.flatMap encI)), (1002305, (x6.flatMap encI))], [], []⟩ [l_ 16590410, b_ 6, c_ 4147603, b_ 5, c_ 518451, l_ 64806, b_ 4, b_ 3, c_ 4051, l_ 506, b_ 2, c_ 127] aln nocal ?_
                        exact ih3 a0 a1 a2 x6 x8 x9 x10 x11 (wrap64 (x12 + 1)) _ h
                    · rw [if_neg c21] at h
                      cases h
                  · rw [if_neg c20] at h
                    cases h
                · rw [if_neg c19] at h
                  cases h
              · rw [if_neg c18] at h
                refine .reg' [0, 1, 2, 7, 9, 10, 11, 12, 13, 14, 95] [.no, .no, .no, .no, .v (I (at_ x6 x12)), .no, .v (I (at_ x9 (at_ x6 x12))), .no, .no, .v (B false)] ⟨[(0, (.sl true a0.length 1 (a0.flatMap encI))), (1, (.sl true a1.length 3 (a1.flatMap e49))), (2, (I a2)), (7, (.rf 1024 0 x9.length 1 (x9.length * 1))), (9, (.rf 1002305 0 x6.length 1 (x6.length * 1))), (10, (I x8)), (11, (I (at_ x6 x8))), (12, (I x10)), (13, (B x11)), (14, (I x12)), (95, (B false))], [(1024, (x9.flatMap encI)), (1002305, (x6.flatMap encI))], [(0 : Int) ≤ x12 ∧ x12 < (x6.length : Int), rdC prog 3 ((x6.flatMap encI).drop (0 + x12.toNat * 1)) = (I (at_ x6 x12)), x6.length * 1 = (x6.flatMap encI).length ∧ 0 + x12.toNat * 1 + 1 ≤ (x6.flatMap encI).length, (0 : Int) ≤ (at_ x6 x12) ∧ (at_ x6 x12) < (x9.length : Int), rdC prog 3 ((x9.flatMap encI).drop (0 + (at_ x6 x12).toNat * 1)) = (I (at_ x9 (at_ x6 x12))), x9.length * 1 = (x9.flatMap encI).length ∧ 0 + (at_ x6 x12).toNat * 1 + 1 ≤ (x9.flatMap encI).length, (B ((at_ x9 (at_ x6 x12)) == x10) : V) = B false], []⟩ [c_ 530893129, b_ 7, c_ 132723283, l_ 16590410, b_ 6, c_ 4147603, b_ 5, c_ 518451, l_ 64806, b_ 4, b_ 3, c_ 4051, l_ 506, b_ 2, c_ 127] (alc ⟨c14, c15⟩ (alc (ldC01 encI_ok rfl c14 c15) (alc (okA0 encI_ok c14 c15 (by decide)) (alc ⟨c16, c17⟩ (alc (ldC01 encI_ok rfl c16 c17) (alc (okA0 encI_ok c16 c17 (by decide)) (alc (bF (qF c18)) aln))))))) nocal ?_
                refine .cond' (.tmp 95) false [c_ 132723283, l_ 16590410, b_ 6, c_ 4147603, b_ 5, c_ 518451, l_ 64806, b_ 4, b_ 3, c_ 4051, l_ 506, b_ 2, c_ 127] (rfl) ?_
                refine .reg' [0, 1, 2, 7, 9, 10, 11, 12, 13, 14] [] ⟨[(0, (.sl true a0.length 1 (a0.flatMap encI))), (1, (.sl true a1.length 3 (a1.flatMap e49))), (2, (I a2)), (7, (.rf 1024 0 x9.length 1 (x9.length * 1))), (9, (.rf 1002305 0 x6.length 1 (x6.length * 1))), (10, (I x8)), (11, (I (at_ x6 x8))), (12, (I x10)), (13, (B x11)), (14, (I (wrap64 (x12 + 1))))], [(1024, (x9.flatMap encI)), (1002305, (x6.flatMap encI))], [], []⟩ [l_ 16590410, b_ 6, c_ 4147603, b_ 5, c_ 518451, l_ 64806, b_ 4, b_ 3, c_ 4051, l_ 506, b_ 2, c_ 127] aln nocal ?_
                exact ih3 a0 a1 a2 x6 x8 x9 x10 x11 (wrap64 (x12 + 1)) _ h
            · rw [if_neg c17] at h
              cases h
          · rw [if_neg c16] at h
            cases h
        · rw [if_neg c15] at h
          cases h
      · rw [if_neg c14] at h
        cases h
    · rw [if_neg c13] at h
      refine .cond' (.tmp 69) false [c_ 8295206, c_ 8295207, b_ 5, c_ 518451, l_ 64806, b_ 4, b_ 3, c_ 4051, l_ 506, b_ 2, c_ 127] (bF (dF c13)) ?_
      refine .reg' [0, 1, 2, 7, 9, 10, 11, 12, 96] [] ⟨[(0, (.sl true a0.length 1 (a0.flatMap encI))), (1, (.sl true a1.length 3 (a1.flatMap e49))), (2, (I a2)), (7, (.rf 1024 0 x9.length 1 (x9.length * 1))), (9, (.rf 1002305 0 x6.length 1 (x6.length * 1))), (10, (I x8)), (11, (I (at_ x6 x8))), (12, (I x10)), (96, (B x11))], [(1024, (x9.flatMap encI)), (1002305, (x6.flatMap encI))], [], []⟩ [c_ 8295207, b_ 5, c_ 518451, l_ 64806, b_ 4, b_ 3, c_ 4051, l_ 506, b_ 2, c_ 127] aln nocal ?_
      by_cases c23 : x11 = true
      · rw [if_pos c23] at h
        refine .cond' (.tmp 96) true [c_ 16590414, b_ 5, c_ 518451, l_ 64806, b_ 4, b_ 3, c_ 4051, l_ 506, b_ 2, c_ 127] (bT c23) ?_
        by_cases c24 : 0 ≤ (at_ x6 x8)
        · rw [if_pos c24] at h
          by_cases c25 : (at_ x6 x8) < (x9.length : Int)
          · rw [if_pos c25] at h
            refine .reg' [0, 1, 2, 7, 9, 10, 11, 12] [.no, .no, .no, .no, .w .un ((x9.set (at_ x6 x8).toNat x10).flatMap encI)] ⟨[(0, (.sl true a0.length 1 (a0.flatMap encI))), (1, (.sl true a1.length 3 (a1.flatMap e49))), (2, (I a2)), (7, (.rf 1024 0 x9.length 1 (x9.length * 1))), (9, (.rf 1002305 0 x6.length 1 (x6.length * 1))), (10, (I x8)), (11, (I (at_ x6 x8))), (12, (I x10))], [(1024, ((x9.set (at_ x6 x8).toNat x10).flatMap encI)), (1002305, (x6.flatMap encI))], [(0 : Int) ≤ (at_ x6 x8) ∧ (at_ x6 x8) < (x9.length : Int), V.un = V.un, spl (x9.flatMap encI) (0 + (at_ x6 x8).toNat * 1) [(I x10)] = ((x9.set (at_ x6 x8).toNat x10).flatMap encI), x9.length * 1 = (x9.flatMap encI).length ∧ 0 + (at_ x6 x8).toNat * 1 + 1 ≤ (x9.flatMap encI).length], []⟩ [c_ 518451, l_ 64806, b_ 4, b_ 3, c_ 4051, l_ 506, b_ 2, c_ 127] (alc ⟨c24, c25⟩ (alc rfl (alc (st_row1 encI_ok c24 c25 (I x10) rfl) (alc (okA0 encI_ok c24 c25 (by decide)) aln)))) nocal ?_
            refine .eqs (env2 := [(0, (.sl true a0.length 1 (a0.flatMap encI))), (1, (.sl true a1.length 3 (a1.flatMap e49))), (2, (I a2)), (7, (.rf 1024 0 ((x9.set (at_ x6 x8).toNat x10).length) 1 ((x9.set (at_ x6 x8).toNat x10).length * 1))), (9, (.rf 1002305 0 x6.length 1 (x6.length * 1))), (10, (I x8)), (11, (I (at_ x6 x8))), (12, (I x10))]) (H2 := [(1024, ((x9.set (at_ x6 x8).toNat x10).flatMap encI)), (1002305, (x6.flatMap encI))]) (by first | (simp only [List.length_set]; done) | simp) (by first | rfl | (simp only [List.length_set]; done) | simp) ?_
            refine .reg' [0, 1, 2, 7, 9, 10, 11, 12] [] ⟨[(0, (.sl true a0.length 1 (a0.flatMap encI))), (1, (.sl true a1.length 3 (a1.flatMap e49))), (2, (I a2)), (7, (.rf 1024 0 ((x9.set (at_ x6 x8).toNat x10).length) 1 ((x9.set (at_ x6 x8).toNat x10).length * 1))), (9, (.rf 1002305 0 x6.length 1 (x6.length * 1))), (10, (I x8)), (11, (I (at_ x6 x8))), (12, (I (wrap64 (x10 - 1))))], [(1024, ((x9.set (at_ x6 x8).toNat x10).flatMap encI)), (1002305, (x6.flatMap encI))], [], []⟩ [l_ 64806, b_ 4, b_ 3, c_ 4051, l_ 506, b_ 2, c_ 127] aln nocal ?_
            exact ih2 a0 a1 a2 x6 x8 (x9.set (at_ x6 x8).toNat x10) (wrap64 (x10 - 1)) _ h
          · rw [if_neg c25] at h
            cases h
        · rw [if_neg c24] at h
          cases h
      · rw [if_neg c23] at h
        refine .cond' (.tmp 96) false [c_ 518451, l_ 64806, b_ 4, b_ 3, c_ 4051, l_ 506, b_ 2, c_ 127] (bF (vF c23)) ?_
        refine .reg' [0, 1, 2, 7, 9, 10, 11, 12] [] ⟨[(0, (.sl true a0.length 1 (a0.flatMap encI))), (1, (.sl true a1.length 3 (a1.flatMap e49))), (2, (I a2)), (7, (.rf 1024 0 x9.length 1 (x9.length * 1))), (9, (.rf 1002305 0 x6.length 1 (x6.length * 1))), (10, (I x8)), (11, (I (at_ x6 x8))), (12, (I (wrap64 (x10 - 1))))], [(1024, (x9.flatMap encI)), (1002305, (x6.flatMap encI))], [], []⟩ [l_ 64806, b_ 4, b_ 3, c_ 4051, l_ 506, b_ 2, c_ 127] aln nocal ?_
        exact ih2 a0 a1 a2 x6 x8 x9 (wrap64 (x10 - 1)) _ h
theorem spec_Assign.J (k : Nat) (a0 : (List Int)) (a1 : (List S49)) (a2 : Int) (r : (List Int)) (h : spec_Assign.f k a0 a1 a2 = some r) : J prog (.call 30 [(.sl true a0.length 1 (a0.flatMap encI)), (.sl true a1.length 3 (a1.flatMap e49)), (I a2)] [] (.rf 1024 0 r.length 1 (r.length * 1)) [(1024, (r.flatMap encI))]) := by
  unfold spec_Assign.f at h
  obtain ⟨ih0, ih1, ih2, ih3⟩ := spec_Assign.lab k
  refine .call' [c_ 2, c_ 3] ?_
  refine .reg' [0, 1, 2] [] ⟨[(0, (.sl true a0.length 1 (a0.flatMap encI))), (1, (.sl true a1.length 3 (a1.flatMap e49))), (2, (I a2))], [], [], []⟩ [c_ 12, c_ 13, c_ 7] aln nocal ?_
  obtain ⟨x1, hx1, h⟩ := Option.bind_eq_some_iff.mp h
  by_cases c1 : x1 = true
  · rw [if_pos c1] at h
    obtain ⟨x2, hx2, h⟩ := Option.bind_eq_some_iff.mp h
    by_cases c2 : x2 = true
    · rw [if_pos c2] at h
      obtain ⟨x3, hx3, h⟩ := Option.bind_eq_some_iff.mp h
      refine .reg' [0, 1, 2, 27] [.no, .c ⟨12, [(.sl true a0.length 1 (a0.flatMap encI))], [], (B x1), [], [], [], [], (B x1), []⟩, .no, .v (B false), .no, .c ⟨17, [(.sl true a1.length 3 (a1.flatMap e49))], [], (B x2), [], [], [], [], (B x2), []⟩, .no, .no, .v (B false), .no, .c ⟨44, [(I a2)], [], (B x3), [], [], [], [], (B x3), []⟩] ⟨[(0, (.sl true a0.length 1 (a0.flatMap encI))), (1, (.sl true a1.length 3 (a1.flatMap e49))), (2, (I a2)), (27, (B (!x3)))], [], [COK (hget []) [(.sl true a0.length 1 (a0.flatMap encI))] ⟨12, [(.sl true a0.length 1 (a0.flatMap encI))], [], (B x1), [], [], [], [], (B x1), []⟩, (B (!x1) : V) = B false, COK (hget []) [(.sl true a1.length 3 (a1.flatMap e49))] ⟨17, [(.sl true a1.length 3 (a1.flatMap e49))], [], (B x2), [], [], [], [], (B x2), []⟩, (B (!x2) : V) = B false, COK (hget []) [(I a2)] ⟨44, [(I a2)], [], (B x3), [], [], [], [], (B x3), []⟩], [⟨12, [(.sl true a0.length 1 (a0.flatMap encI))], [], (B x1), [], [], [], [], (B x1), []⟩, ⟨17, [(.sl true a1.length 3 (a1.flatMap e49))], [], (B x2), [], [], [], [], (B x2), []⟩, ⟨44, [(I a2)], [], (B x3), [], [], [], [], (B x3), []⟩]⟩ [c_ 13, c_ 7] (alc (cok0 false (a2c (.z (frz_sl encI_ok (fun h => h))) a2n) (.z .s) (fun h => absurd h (by decide))) (alc (bF (nF c1)) (alc (cok0 false (a2c (.z (frz_sl e49_ok (fun h => h))) a2n) (.z .s) (fun h => absurd h (by decide))) (alc (bF (nF c2)) (alc (cok0 false (a2c (.z .s) a2n) (.z .s) (fun h => absurd h (by decide))) aln))))) (acal (spec_BaysOk.J k a0 _ hx1) (acal (spec_StaysOk.J k a1 _ hx2) (acal (spec_l10Gap.J a2 _ hx3) nocal))) ?_
      by_cases c3 : x3 = true
      · rw [if_pos c3] at h
        refine .cond' (.tmp 27) false [c_ 14, c_ 15] (bF (nF c3)) ?_
        refine .reg' [0, 1, 2, 7] [] ⟨[(0, (.sl true a0.length 1 (a0.flatMap encI))), (1, (.sl true a1.length 3 (a1.flatMap e49))), (2, (I a2)), (7, (.rf 1024 0 (([] : List Int).length) 1 (([] : List Int).length * 1)))], [(1024, (([] : List Int).flatMap encI))], [], []⟩ [c_ 60, c_ 61, c_ 31] aln nocal ?_
        refine .reg' [0, 1, 2, 7, 8] [] ⟨[(0, (.sl true a0.length 1 (a0.flatMap encI))), (1, (.sl true a1.length 3 (a1.flatMap e49))), (2, (I a2)), (7, (.rf 1024 0 (([] : List Int).length) 1 (([] : List Int).length * 1))), (8, (I 0))], [(1024, (([] : List Int).flatMap encI))], [], []⟩ [l_ 122, b_ 0, c_ 31] aln nocal ?_
        exact ih0 a0 a1 a2 ([] : List Int) 0 _ h
      · rw [if_neg c3] at h
        refine .cond' (.tmp 27) true [c_ 52, c_ 53, c_ 7] (bT (nT (vF c3))) ?_
        refine .reg' [6] [] ⟨[(6, nilS)], [], [], []⟩ [c_ 53, c_ 7] aln nocal ?_
        have h := Option.some.inj h
        subst h
        refine .nl' 1024 ?_
        exact .fin' [] [(1024, 1024)] nilS [] aln (shc 1024 (rowF encI_ok _) shn) (.nl (memP_mem (p := (1024, 1024)) rfl) rfl)
    · rw [if_neg c2] at h
      refine .reg' [0, 1, 2, 27] [.no, .c ⟨12, [(.sl true a0.length 1 (a0.flatMap encI))], [], (B x1), [], [], [], [], (B x1), []⟩, .no, .v (B false), .no, .c ⟨17, [(.sl true a1.length 3 (a1.flatMap e49))], [], (B x2), [], [], [], [], (B x2), []⟩, .no, .no, .v (B true)] ⟨[(0, (.sl true a0.length 1 (a0.flatMap encI))), (1, (.sl true a1.length 3 (a1.flatMap e49))), (2, (I a2)), (27, (B true))], [], [COK (hget []) [(.sl true a0.length 1 (a0.flatMap encI))] ⟨12, [(.sl true a0.length 1 (a0.flatMap encI))], [], (B x1), [], [], [], [], (B x1), []⟩, (B (!x1) : V) = B false, COK (hget []) [(.sl true a1.length 3 (a1.flatMap e49))] ⟨17, [(.sl true a1.length 3 (a1.flatMap e49))], [], (B x2), [], [], [], [], (B x2), []⟩, (B (!x2) : V) = B true], [⟨12, [(.sl true a0.length 1 (a0.flatMap encI))], [], (B x1), [], [], [], [], (B x1), []⟩, ⟨17, [(.sl true a1.length 3 (a1.flatMap e49))], [], (B x2), [], [], [], [], (B x2), []⟩]⟩ [c_ 13, c_ 7] (alc (cok0 false (a2c (.z (frz_sl encI_ok (fun h => h))) a2n) (.z .s) (fun h => absurd h (by decide))) (alc (bF (nF c1)) (alc (cok0 false (a2c (.z (frz_sl e49_ok (fun h => h))) a2n) (.z .s) (fun h => absurd h (by decide))) (alc (bT (nT (vF c2))) aln)))) (acal (spec_BaysOk.J k a0 _ hx1) (acal (spec_StaysOk.J k a1 _ hx2) nocal)) ?_
      refine .cond' (.tmp 27) true [c_ 52, c_ 53, c_ 7] (rfl) ?_
      refine .reg' [6] [] ⟨[(6, nilS)], [], [], []⟩ [c_ 53, c_ 7] aln nocal ?_
      have h := Option.some.inj h
      subst h
      refine .nl' 1024 ?_
      exact .fin' [] [(1024, 1024)] nilS [] aln (shc 1024 (rowF encI_ok _) shn) (.nl (memP_mem (p := (1024, 1024)) rfl) rfl)
  · rw [if_neg c1] at h
    refine .reg' [0, 1, 2, 27] [.no, .c ⟨12, [(.sl true a0.length 1 (a0.flatMap encI))], [], (B x1), [], [], [], [], (B x1), []⟩, .no, .v (B true)] ⟨[(0, (.sl true a0.length 1 (a0.flatMap encI))), (1, (.sl true a1.length 3 (a1.flatMap e49))), (2, (I a2)), (27, (B true))], [], [COK (hget []) [(.sl true a0.length 1 (a0.flatMap encI))] ⟨12, [(.sl true a0.length 1 (a0.flatMap encI))], [], (B x1), [], [], [], [], (B x1), []⟩, (B (!x1) : V) = B true], [⟨12, [(.sl true a0.length 1 (a0.flatMap encI))], [], (B x1), [], [], [], [], (B x1), []⟩]⟩ [c_ 13, c_ 7] (alc (cok0 false (a2c (.z (frz_sl encI_ok (fun h => h))) a2n) (.z .s) (fun h => absurd h (by decide))) (alc (bT (nT (vF c1))) aln)) (acal (spec_BaysOk.J k a0 _ hx1) nocal) ?_
    refine .cond' (.tmp 27) true [c_ 52, c_ 53, c_ 7] (rfl) ?_
    refine .reg' [6] [] ⟨[(6, nilS)], [], [], []⟩ [c_ 53, c_ 7] aln nocal ?_
    have h := Option.some.inj h
    subst h
    refine .nl' 1024 ?_
    exact .fin' [] [(1024, 1024)] nilS [] aln (shc 1024 (rowF encI_ok _) shn) (.nl (memP_mem (p := (1024, 1024)) rfl) rfl)
/-! laws_sameInts: function 37 -/
def laws_sameInts.l0 : Nat → (List Int) → (List Int) → Int → Option Bool
 | 0, _, _, _ => none
 | k + 1, a0, a1, x1 => (if x1 < (a0.length : Int) then (if 0 ≤ x1 then (if x1 < (a1.length : Int) then (if (at_ a0 x1) = (at_ a1 x1) then (laws_sameInts.l0 k a0 a1 (wrap64 (x1 + 1))) else (some false)) else none) else none) else (some true))
def laws_sameInts.f (k : Nat) (a0 : (List Int)) (a1 : (List Int)) : Option Bool := (if (a0.length : Int) = (a1.length : Int) then (laws_sameInts.l0 k a0 a1 0) else (some false))
theorem laws_sameInts.lab : ∀ k, (∀ (a0 : (List Int)) (a1 : (List Int)) (x1 : Int) (r : Bool), laws_sameInts.l0 k a0 a1 x1 = some r → J prog (.run 37 [] [l_ 58, b_ 0, c_ 15] [(0, (.sl true a0.length 1 (a0.flatMap encI))), (1, (.sl true a1.length 1 (a1.flatMap encI))), (5, (I x1))] [] (B r) []))
 | 0 => (by intro a0 a1 x1 r h; unfold laws_sameInts.l0 at h; cases h)
 | k + 1 => by
  have ih0 := laws_sameInts.lab k
  · intro a0 a1 x1 r h
    unfold laws_sameInts.l0 at h
    refine .loop' [c_ 464, c_ 465, c_ 233, l_ 58, b_ 0, c_ 15] ?_
    refine .reg' [0, 1, 5, 14] [] ⟨[(0, (.sl true a0.length 1 (a0.flatMap encI))), (1, (.sl true a1.length 1 (a1.flatMap encI))), (5, (I x1)), (14, (B (decide (x1 < (a0.length : Int)))))], [], [], []⟩ [c_ 465, c_ 233, l_ 58, b_ 0, c_ 15] aln nocal ?_
    by_cases c2 : x1 < (a0.length : Int)
    · rw [if_pos c2] at h
      refine .cond' (.tmp 14) true [c_ 1864, c_ 1865, b_ 1, c_ 467, l_ 58, b_ 0, c_ 15] (bT (dT c2)) ?_
      by_cases c3 : 0 ≤ x1
      · rw [if_pos c3] at h
        by_cases c4 : x1 < (a1.length : Int)
        · rw [if_pos c4] at h
          refine .reg' [0, 1, 5, 25] [.no, .no, .no, .v (I (at_ a0 x1)), .no, .no, .no, .v (I (at_ a1 x1))] ⟨[(0, (.sl true a0.length 1 (a0.flatMap encI))), (1, (.sl true a1.length 1 (a1.flatMap encI))), (5, (I x1)), (25, (B (!((at_ a0 x1) == (at_ a1 x1)))))], [], [(0 : Int) ≤ x1 ∧ x1 < (a0.length : Int), rdC prog 3 ((a0.flatMap encI).drop (x1.toNat * 1)) = (I (at_ a0 x1)), 1 ≤ ((a0.flatMap encI).drop (x1.toNat * 1)).length, (0 : Int) ≤ x1 ∧ x1 < (a1.length : Int), rdC prog 3 ((a1.flatMap encI).drop (x1.toNat * 1)) = (I (at_ a1 x1)), 1 ≤ ((a1.flatMap encI).drop (x1.toNat * 1)).length], []⟩ [c_ 1865, b_ 1, c_ 467, l_ 58, b_ 0, c_ 15] (alc ⟨c3, c2⟩ (alc (ldC1 encI_ok rfl c3 c2) (alc (okI encI_ok c3 c2 (by decide)) (alc ⟨c3, c4⟩ (alc (ldC1 encI_ok rfl c3 c4) (alc (okI encI_ok c3 c4 (by decide)) aln)))))) nocal ?_
          by_cases c5 : (at_ a0 x1) = (at_ a1 x1)
          · rw [if_pos c5] at h
            refine .cond' (.tmp 25) false [c_ 467, l_ 58, b_ 0, c_ 15] (bF (nF (qT c5))) ?_
            refine .reg' [0, 1, 5] [] ⟨[(0, (.sl true a0.length 1 (a0.flatMap encI))), (1, (.sl true a1.length 1 (a1.flatMap encI))), (5, (I (wrap64 (x1 + 1))))], [], [], []⟩ [l_ 58, b_ 0, c_ 15] aln nocal ?_
            exact ih0 a0 a1 (wrap64 (x1 + 1)) _ h
          · rw [if_neg c5] at h
            refine .cond' (.tmp 25) true [c_ 7460, c_ 7461, b_ 1, c_ 467, l_ 58, b_ 0, c_ 15] (bT (nT (qF c5))) ?_
            refine .reg' [4] [] ⟨[(4, (B false))], [], [], []⟩ [c_ 7461, b_ 1, c_ 467, l_ 58, b_ 0, c_ 15] aln nocal ?_
            have h := Option.some.inj h
            subst h
            exact .fin0 [] (B false) [] aln (.z .s)
        · rw [if_neg c4] at h
          cases h
      · rw [if_neg c3] at h
        cases h
    · rw [if_neg c2] at h
      refine .cond' (.tmp 14) false [c_ 30, c_ 31] (bF (dF c2)) ?_
      refine .reg' [4] [] ⟨[(4, (B true))], [], [], []⟩ [c_ 31] aln nocal ?_
      have h := Option.some.inj h
      subst h
      exact .fin0 [] (B true) [] aln (.z .s)
theorem laws_sameInts.J (k : Nat) (a0 : (List Int)) (a1 : (List Int)) (r : Bool) (h : laws_sameInts.f k a0 a1 = some r) : J prog (.call 37 [(.sl true a0.length 1 (a0.flatMap encI)), (.sl true a1.length 1 (a1.flatMap encI))] [] (B r) []) := by
  unfold laws_sameInts.f at h
  have ih0 := laws_sameInts.lab k
  refine .call' [c_ 2, c_ 3] ?_
  refine .reg' [0, 1] [] ⟨[(0, (.sl true a0.length 1 (a0.flatMap encI))), (1, (.sl true a1.length 1 (a1.flatMap encI)))], [], [], []⟩ [c_ 12, c_ 13, c_ 7] aln nocal ?_
  refine .reg' [0, 1, 10] [] ⟨[(0, (.sl true a0.length 1 (a0.flatMap encI))), (1, (.sl true a1.length 1 (a1.flatMap encI))), (10, (B (!((a0.length : Int) == (a1.length : Int)))))], [], [], []⟩ [c_ 13, c_ 7] aln nocal ?_
  by_cases c1 : (a0.length : Int) = (a1.length : Int)
  · rw [if_pos c1] at h
    refine .cond' (.tmp 10) false [c_ 28, c_ 29, c_ 15] (bF (nF (qT c1))) ?_
    refine .reg' [0, 1, 5] [] ⟨[(0, (.sl true a0.length 1 (a0.flatMap encI))), (1, (.sl true a1.length 1 (a1.flatMap encI))), (5, (I 0))], [], [], []⟩ [l_ 58, b_ 0, c_ 15] aln nocal ?_
    exact ih0 a0 a1 0 _ h
  · rw [if_neg c1] at h
    refine .cond' (.tmp 10) true [c_ 52, c_ 53, c_ 7] (bT (nT (qF c1))) ?_
    refine .reg' [4] [] ⟨[(4, (B false))], [], [], []⟩ [c_ 53, c_ 7] aln nocal ?_
    have h := Option.some.inj h
    subst h
    exact .fin0 [] (B false) [] aln (.z .s)
/-! laws_at: function 38 -/
def laws_at.f (a0 : (List Int)) (a1 : Int) : Option Int := (if a1 < (a0.length : Int) then (if 0 ≤ a1 then (some (IntKind.i64.wrap (at_ a0 a1))) else none) else (some ((wrap64 ((wrap64 (a1 * 11)) + (wrap64 ((a0.length : Int) * 3)))).tmod (256 : Int))))
theorem laws_at.J (a0 : (List Int)) (a1 : Int) (r : Int) (h : laws_at.f a0 a1 = some r) : J prog (.call 38 [(.sl true a0.length 1 (a0.flatMap encU)), (I a1)] [] (I r) []) := by
  unfold laws_at.f at h
  refine .call' [c_ 2, c_ 3] ?_
  refine .reg' [0, 1] [] ⟨[(0, (.sl true a0.length 1 (a0.flatMap encU))), (1, (I a1))], [], [], []⟩ [c_ 12, c_ 13, c_ 7] aln nocal ?_
  refine .reg' [0, 1, 8] [] ⟨[(0, (.sl true a0.length 1 (a0.flatMap encU))), (1, (I a1)), (8, (B (decide (a1 < (a0.length : Int)))))], [], [], []⟩ [c_ 13, c_ 7] aln nocal ?_
  by_cases c1 : a1 < (a0.length : Int)
  · rw [if_pos c1] at h
    refine .cond' (.tmp 8) true [c_ 52, c_ 53, c_ 7] (bT (dT c1)) ?_
    by_cases c2 : 0 ≤ a1
    · rw [if_pos c2] at h
      refine .reg' [4] [.no, .no, .no, .v (U (at_ a0 a1))] ⟨[(4, (I (IntKind.i64.wrap (at_ a0 a1))))], [], [(0 : Int) ≤ a1 ∧ a1 < (a0.length : Int), rdC prog 5 ((a0.flatMap encU).drop (a1.toNat * 1)) = (U (at_ a0 a1)), 1 ≤ ((a0.flatMap encU).drop (a1.toNat * 1)).length], []⟩ [c_ 53, c_ 7] (alc ⟨c2, c1⟩ (alc (ldC1 encU_ok rfl c2 c1) (alc (okI encU_ok c2 c1 (by decide)) aln))) nocal ?_
      have h := Option.some.inj h
      subst h
      exact .fin0 [] (I (IntKind.i64.wrap (at_ a0 a1))) [] aln (.z .s)
    · rw [if_neg c2] at h
      cases h
  · rw [if_neg c1] at h
    refine .cond' (.tmp 8) false [c_ 14, c_ 15] (bF (dF c1)) ?_
    refine .reg' [4] [] ⟨[(4, (I ((wrap64 ((wrap64 (a1 * 11)) + (wrap64 ((a0.length : Int) * 3)))).tmod (256 : Int))))], [], [(256 : Int) ≠ 0], []⟩ [c_ 15] (alc (by decide) aln) nocal ?_
    have h := Option.some.inj h
    subst h
    exact .fin0 [] (I ((wrap64 ((wrap64 (a1 * 11)) + (wrap64 ((a0.length : Int) * 3)))).tmod (256 : Int))) [] aln (.z .s)
/-! impl_FreeBays: function 26 -/
mutual
def impl_FreeBays.l0 : Nat → (List Int) → (List S49) → Int → (List Int) → Int → (List Int) → Int → Option (List Int)
 | 0, _, _, _, _, _, _, _ => none
 | k + 1, a0, a1, a2, a3, a4, x2, x3 => (if x3 < (a0.length : Int) then (impl_FreeBays.l1 k a0 a1 a2 a3 a4 x2 x3 true 0) else (some x2))
def impl_FreeBays.l1 : Nat → (List Int) → (List S49) → Int → (List Int) → Int → (List Int) → Int → Bool → Int → Option (List Int)
 | 0, _, _, _, _, _, _, _, _, _ => none
 | k + 1, a0, a1, a2, a3, a4, x2, x3, x4, x5 => (if x5 < (a3.length : Int) then (if 0 ≤ x5 then (if x4 = true then (if (at_ a3 x5) = x3 then (if x5 < (a1.length : Int) then ((impl_Stay_holds.f (at_ a1 x5) a4 a2).bind fun x6 => (impl_FreeBays.l1 k a0 a1 a2 a3 a4 x2 x3 (!x6) (wrap64 (x5 + 1)))) else none) else (impl_FreeBays.l1 k a0 a1 a2 a3 a4 x2 x3 true (wrap64 (x5 + 1)))) else (impl_FreeBays.l1 k a0 a1 a2 a3 a4 x2 x3 false (wrap64 (x5 + 1)))) else none) else (if x4 = true then (if (x2.length + ([x3] : List Int).length) * 8 ≤ 70368744177664 then (impl_FreeBays.l0 k a0 a1 a2 a3 a4 (x2 ++ ([x3] : List Int)) (wrap64 (x3 + 1))) else none) else (impl_FreeBays.l0 k a0 a1 a2 a3 a4 x2 (wrap64 (x3 + 1)))))
end
def impl_FreeBays.f (k : Nat) (a0 : (List Int)) (a1 : (List S49)) (a2 : Int) (a3 : (List Int)) (a4 : Int) : Option (List Int) := ((impl_AssignOk.f k a0 a1 a2 a3).bind fun x1 => (if x1 = true then (impl_FreeBays.l0 k a0 a1 a2 a3 a4 ([] : List Int) 0) else (some ([] : List Int))))
theorem impl_FreeBays.lab : ∀ k, (∀ (a0 : (List Int)) (a1 : (List S49)) (a2 : Int) (a3 : (List Int)) (a4 : Int) (x2 : (List Int)) (x3 : Int) (r : (List Int)), impl_FreeBays.l0 k a0 a1 a2 a3 a4 x2 x3 = some r → J prog (.run 26 [] [l_ 122, b_ 0, c_ 31] [(1, (.sl true a1.length 3 (a1.flatMap e49))), (2, (I a2)), (3, (.sl true a3.length 1 (a3.flatMap encI))), (4, (I a4)), (11, (.rf 1024 0 x2.length 1 (x2.length * 1))), (24, (I (a0.length : Int))), (25, (I x3))] [(1024, (x2.flatMap encI))] (.rf 1024 0 r.length 1 (r.length * 1)) [(1024, (r.flatMap encI))])) ∧ (∀ (a0 : (List Int)) (a1 : (List S49)) (a2 : Int) (a3 : (List Int)) (a4 : Int) (x2 : (List Int)) (x3 : Int) (x4 : Bool) (x5 : Int) (r : (List Int)), impl_FreeBays.l1 k a0 a1 a2 a3 a4 x2 x3 x4 x5 = some r → J prog (.run 26 [] [l_ 125338, b_ 2, c_ 31335, b_ 1, c_ 1959, l_ 122, b_ 0, c_ 31] [(1, (.sl true a1.length 3 (a1.flatMap e49))), (2, (I a2)), (3, (.sl true a3.length 1 (a3.flatMap encI))), (4, (I a4)), (11, (.rf 1024 0 x2.length 1 (x2.length * 1))), (12, (I x3)), (13, (B x4)), (24, (I (a0.length : Int))), (25, (I x3)), (28, (.sl true a3.length 1 (a3.flatMap encI))), (29, (I (a3.length : Int))), (30, (I x5))] [(1024, (x2.flatMap encI))] (.rf 1024 0 r.length 1 (r.length * 1)) [(1024, (r.flatMap encI))]))
 | 0 => ⟨(by intro a0 a1 a2 a3 a4 x2 x3 r h; unfold impl_FreeBays.l0 at h; cases h), (by intro a0 a1 a2 a3 a4 x2 x3 x4 x5 r h; unfold impl_FreeBays.l1 at h; cases h)⟩
 | k + 1 => by
  obtain ⟨ih0, ih1⟩ := impl_FreeBays.lab k
  refine ⟨?_, ?_⟩
  · intro a0 a1 a2 a3 a4 x2 x3 r h
    unfold impl_FreeBays.l0 at h
    refine .loop' [c_ 488, c_ 489, l_ 122, b_ 0, c_ 31] ?_
    refine .reg' [1, 2, 3, 4, 11, 24, 25, 26] [] ⟨[(1, (.sl true a1.length 3 (a1.flatMap e49))), (2, (I a2)), (3, (.sl true a3.length 1 (a3.flatMap encI))), (4, (I a4)), (11, (.rf 1024 0 x2.length 1 (x2.length * 1))), (24, (I (a0.length : Int))), (25, (I x3)), (26, (B (decide (x3 < (a0.length : Int)))))], [(1024, (x2.flatMap encI))], [], []⟩ [c_ 978, c_ 979, l_ 122, b_ 0, c_ 31] aln nocal ?_
    by_cases c2 : x3 < (a0.length : Int)
    · rw [if_pos c2] at h
      refine .cond' (.tmp 26) true [c_ 7832, c_ 7833, b_ 1, c_ 1959, l_ 122, b_ 0, c_ 31] (bT (dT c2)) ?_
      refine .reg' [1, 2, 3, 4, 11, 12, 24, 25] [] ⟨[(1, (.sl true a1.length 3 (a1.flatMap e49))), (2, (I a2)), (3, (.sl true a3.length 1 (a3.flatMap encI))), (4, (I a4)), (11, (.rf 1024 0 x2.length 1 (x2.length * 1))), (12, (I x3)), (24, (I (a0.length : Int))), (25, (I x3))], [(1024, (x2.flatMap encI))], [], []⟩ [c_ 15666, c_ 15667, b_ 1, c_ 1959, l_ 122, b_ 0, c_ 31] aln nocal ?_
      refine .reg' [1, 2, 3, 4, 11, 12, 13, 24, 25] [] ⟨[(1, (.sl true a1.length 3 (a1.flatMap e49))), (2, (I a2)), (3, (.sl true a3.length 1 (a3.flatMap encI))), (4, (I a4)), (11, (.rf 1024 0 x2.length 1 (x2.length * 1))), (12, (I x3)), (13, (B true)), (24, (I (a0.length : Int))), (25, (I x3))], [(1024, (x2.flatMap encI))], [], []⟩ [c_ 62668, c_ 62669, c_ 31335, b_ 1, c_ 1959, l_ 122, b_ 0, c_ 31] aln nocal ?_
      refine .reg' [1, 2, 3, 4, 11, 12, 13, 24, 25, 28, 29, 30] [] ⟨[(1, (.sl true a1.length 3 (a1.flatMap e49))), (2, (I a2)), (3, (.sl true a3.length 1 (a3.flatMap encI))), (4, (I a4)), (11, (.rf 1024 0 x2.length 1 (x2.length * 1))), (12, (I x3)), (13, (B true)), (24, (I (a0.length : Int))), (25, (I x3)), (28, (.sl true a3.length 1 (a3.flatMap encI))), (29, (I (a3.length : Int))), (30, (I 0))], [(1024, (x2.flatMap encI))], [], []⟩ [l_ 125338, b_ 2, c_ 31335, b_ 1, c_ 1959, l_ 122, b_ 0, c_ 31] aln nocal ?_
      exact ih1 a0 a1 a2 a3 a4 x2 x3 true 0 _ h
    · rw [if_neg c2] at h
      refine .cond' (.tmp 26) false [c_ 62, c_ 63] (bF (dF c2)) ?_
      refine .reg' [10] [] ⟨[(10, (.rf 1024 0 x2.length 1 (x2.length * 1)))], [(1024, (x2.flatMap encI))], [], []⟩ [c_ 63] aln nocal ?_
      have h := Option.some.inj h
      subst h
      exact .fin' [] [(1024, 1024)] (.rf 1024 0 x2.length 1 (x2.length * 1)) [] aln (shc 1024 (rowF encI_ok _) shn) (.rf (memP_mem (p := (1024, 1024)) rfl))
  · intro a0 a1 a2 a3 a4 x2 x3 x4 x5 r h
    unfold impl_FreeBays.l1 at h
    refine .loop' [c_ 501352, c_ 501353, l_ 125338, b_ 2, c_ 31335, b_ 1, c_ 1959, l_ 122, b_ 0, c_ 31] ?_
    refine .reg' [1, 2, 3, 4, 11, 12, 13, 24, 25, 28, 29, 30, 31] [] ⟨[(1, (.sl true a1.length 3 (a1.flatMap e49))), (2, (I a2)), (3, (.sl true a3.length 1 (a3.flatMap encI))), (4, (I a4)), (11, (.rf 1024 0 x2.length 1 (x2.length * 1))), (12, (I x3)), (13, (B x4)), (24, (I (a0.length : Int))), (25, (I x3)), (28, (.sl true a3.length 1 (a3.flatMap encI))), (29, (I (a3.length : Int))), (30, (I x5)), (31, (B (decide (x5 < (a3.length : Int)))))], [(1024, (x2.flatMap encI))], [], []⟩ [c_ 1002706, c_ 1002707, l_ 125338, b_ 2, c_ 31335, b_ 1, c_ 1959, l_ 122, b_ 0, c_ 31] aln nocal ?_
    by_cases c3 : x5 < (a3.length : Int)
    · rw [if_pos c3] at h
      refine .cond' (.tmp 31) true [c_ 8021656, c_ 8021657, b_ 3, c_ 2005415, l_ 125338, b_ 2, c_ 31335, b_ 1, c_ 1959, l_ 122, b_ 0, c_ 31] (bT (dT c3)) ?_
      by_cases c4 : 0 ≤ x5
      · rw [if_pos c4] at h
        refine .reg' [1, 2, 3, 4, 11, 12, 13, 14, 15, 24, 25, 28, 29, 30] [.no, .no, .v (I (at_ a3 x5))] ⟨[(1, (.sl true a1.length 3 (a1.flatMap e49))), (2, (I a2)), (3, (.sl true a3.length 1 (a3.flatMap encI))), (4, (I a4)), (11, (.rf 1024 0 x2.length 1 (x2.length * 1))), (12, (I x3)), (13, (B x4)), (14, (I x5)), (15, (I (at_ a3 x5))), (24, (I (a0.length : Int))), (25, (I x3)), (28, (.sl true a3.length 1 (a3.flatMap encI))), (29, (I (a3.length : Int))), (30, (I x5))], [(1024, (x2.flatMap encI))], [(0 : Int) ≤ x5 ∧ x5 < (a3.length : Int), rdC prog 3 ((a3.flatMap encI).drop (x5.toNat * 1)) = (I (at_ a3 x5)), 1 ≤ ((a3.flatMap encI).drop (x5.toNat * 1)).length], []⟩ [c_ 8021657, b_ 3, c_ 2005415, l_ 125338, b_ 2, c_ 31335, b_ 1, c_ 1959, l_ 122, b_ 0, c_ 31] (alc ⟨c4, c3⟩ (alc (ldC1 encI_ok rfl c4 c3) (alc (okI encI_ok c4 c3 (by decide)) aln))) nocal ?_
        by_cases c5 : x4 = true
        · rw [if_pos c5] at h
          by_cases c6 : (at_ a3 x5) = x3
          · rw [if_pos c6] at h
            by_cases c7 : x5 < (a1.length : Int)
            · rw [if_pos c7] at h
              obtain ⟨x6, hx6, h⟩ := Option.bind_eq_some_iff.mp h
              refine .reg' [1, 2, 3, 4, 11, 12, 13, 24, 25, 28, 29, 30] [.no, .v (B true), .no, .no, .no, .v (B true), .no, .no, .no, .v (.ag [(I (at_ a1 x5).f0), (I (at_ a1 x5).f1), (I (at_ a1 x5).f2)]), .no, .no, .c ⟨47, [(.ag [(I (at_ a1 x5).f0), (I (at_ a1 x5).f1), (I (at_ a1 x5).f2)]), (I a4), (I a2)], [], (B x6), [], [], [], [], (B x6), []⟩] ⟨[(1, (.sl true a1.length 3 (a1.flatMap e49))), (2, (I a2)), (3, (.sl true a3.length 1 (a3.flatMap encI))), (4, (I a4)), (11, (.rf 1024 0 x2.length 1 (x2.length * 1))), (12, (I x3)), (13, (B (!x6))), (24, (I (a0.length : Int))), (25, (I x3)), (28, (.sl true a3.length 1 (a3.flatMap encI))), (29, (I (a3.length : Int))), (30, (I x5))], [(1024, (x2.flatMap encI))], [(B x4 : V) = B true, (B ((at_ a3 x5) == x3) : V) = B true, (0 : Int) ≤ x5 ∧ x5 < (a1.length : Int), rdC prog 50 ((a1.flatMap e49).drop (x5.toNat * 3)) = (.ag [(I (at_ a1 x5).f0), (I (at_ a1 x5).f1), (I (at_ a1 x5).f2)]), 3 ≤ ((a1.flatMap e49).drop (x5.toNat * 3)).length, COK (hget [(1024, (x2.flatMap encI))]) [(.ag [(I (at_ a1 x5).f0), (I (at_ a1 x5).f1), (I (at_ a1 x5).f2)]), (I a4), (I a2)] ⟨47, [(.ag [(I (at_ a1 x5).f0), (I (at_ a1 x5).f1), (I (at_ a1 x5).f2)]), (I a4), (I a2)], [], (B x6), [], [], [], [], (B x6), []⟩], [⟨47, [(.ag [(I (at_ a1 x5).f0), (I (at_ a1 x5).f1), (I (at_ a1 x5).f2)]), (I a4), (I a2)], [], (B x6), [], [], [], [], (B x6), []⟩]⟩ [c_ 2005415, l_ 125338, b_ 2, c_ 31335, b_ 1, c_ 1959, l_ 122, b_ 0, c_ 31] (alc (bT c5) (alc (bT (qT c6)) (alc ⟨c4, c7⟩ (alc (ldA e49_ok rfl rfl c4 c7) (alc (okI e49_ok c4 c7 (by decide)) (alc (cok0 false (a2c (.z (frz_ag (a2c .s (a2c .s (a2c .s a2n))))) (a2c (.z .s) (a2c (.z .s) a2n))) (.z .s) (fun h => absurd h (by decide))) aln)))))) (acal (impl_Stay_holds.J (at_ a1 x5) a4 a2 _ hx6) nocal) ?_
              refine .reg' [1, 2, 3, 4, 11, 12, 13, 24, 25, 28, 29, 30] [] ⟨[(1, (.sl true a1.length 3 (a1.flatMap e49))), (2, (I a2)), (3, (.sl true a3.length 1 (a3.flatMap encI))), (4, (I a4)), (11, (.rf 1024 0 x2.length 1 (x2.length * 1))), (12, (I x3)), (13, (B (!x6))), (24, (I (a0.length : Int))), (25, (I x3)), (28, (.sl true a3.length 1 (a3.flatMap encI))), (29, (I (a3.length : Int))), (30, (I (wrap64 (x5 + 1))))], [(1024, (x2.flatMap encI))], [], []⟩ [l_ 125338, b_ 2, c_ 31335, b_ 1, c_ 1959, l_ 122, b_ 0, c_ 31] aln nocal ?_
              exact ih1 a0 a1 a2 a3 a4 x2 x3 (!x6) (wrap64 (x5 + 1)) _ h
            · rw [if_neg c7] at h
              cases h
          · rw [if_neg c6] at h
            refine .reg' [1, 2, 3, 4, 11, 12, 13, 24, 25, 28, 29, 30] [.no, .v (B true), .no, .no, .no, .v (B false)] ⟨[(1, (.sl true a1.length 3 (a1.flatMap e49))), (2, (I a2)), (3, (.sl true a3.length 1 (a3.flatMap encI))), (4, (I a4)), (11, (.rf 1024 0 x2.length 1 (x2.length * 1))), (12, (I x3)), (13, (B true)), (24, (I (a0.length : Int))), (25, (I x3)), (28, (.sl true a3.length 1 (a3.flatMap encI))), (29, (I (a3.length : Int))), (30, (I x5))], [(1024, (x2.flatMap encI))], [(B x4 : V) = B true, (B ((at_ a3 x5) == x3) : V) = B false], []⟩ [c_ 2005415, l_ 125338, b_ 2, c_ 31335, b_ 1, c_ 1959, l_ 122, b_ 0, c_ 31] (alc (bT c5) (alc (bF (qF c6)) aln)) nocal ?_
            refine .reg' [1, 2, 3, 4, 11, 12, 13, 24, 25, 28, 29, 30] [] ⟨[(1, (.sl true a1.length 3 (a1.flatMap e49))), (2, (I a2)), (3, (.sl true a3.length 1 (a3.flatMap encI))), (4, (I a4)), (11, (.rf 1024 0 x2.length 1 (x2.length * 1))), (12, (I x3)), (13, (B true)), (24, (I (a0.length : Int))), (25, (I x3)), (28, (.sl true a3.length 1 (a3.flatMap encI))), (29, (I (a3.length : Int))), (30, (I (wrap64 (x5 + 1))))], [(1024, (x2.flatMap encI))], [], []⟩ [l_ 125338, b_ 2, c_ 31335, b_ 1, c_ 1959, l_ 122, b_ 0, c_ 31] aln nocal ?_
            exact ih1 a0 a1 a2 a3 a4 x2 x3 true (wrap64 (x5 + 1)) _ h
        · rw [if_neg c5] at h
          refine .reg' [1, 2, 3, 4, 11, 12, 13, 24, 25, 28, 29, 30] [.no, .v (B false)] ⟨[(1, (.sl true a1.length 3 (a1.flatMap e49))), (2, (I a2)), (3, (.sl true a3.length 1 (a3.flatMap encI))), (4, (I a4)), (11, (.rf 1024 0 x2.length 1 (x2.length * 1))), (12, (I x3)), (13, (B false)), (24, (I (a0.length : Int))), (25, (I x3)), (28, (.sl true a3.length 1 (a3.flatMap encI))), (29, (I (a3.length : Int))), (30, (I x5))], [(1024, (x2.flatMap encI))], [(B x4 : V) = B false], []⟩ [c_ 2005415, l_ 125338, b_ 2, c_ 31335, b_ 1, c_ 1959, l_ 122, b_ 0, c_ 31] (alc (bF (vF c5)) aln) nocal ?_
          refine .reg' [1, 2, 3, 4, 11, 12, 13, 24, 25, 28, 29, 30] [] ⟨[(1, (.sl true a1.length 3 (a1.flatMap e49))), (2, (I a2)), (3, (.sl true a3.length 1 (a3.flatMap encI))), (4, (I a4)), (11, (.rf 1024 0 x2.length 1 (x2.length * 1))), (12, (I x3)), (13, (B false)), (24, (I (a0.length : Int))), (25, (I x3)), (28, (.sl true a3.length 1 (a3.flatMap encI))), (29, (I (a3.length : Int))), (30, (I (wrap64 (x5 + 1))))], [(1024, (x2.flatMap encI))], [], []⟩ [l_ 125338, b_ 2, c_ 31335, b_ 1, c_ 1959, l_ 122, b_ 0, c_ 31] aln nocal ?_
          exact ih1 a0 a1 a2 a3 a4 x2 x3 false (wrap64 (x5 + 1)) _ h
      · rw [if_neg c4] at h
        cases h
    · rw [if_neg c3] at h
      refine .cond' (.tmp 31) false [c_ 62670, c_ 62671, b_ 1, c_ 1959, l_ 122, b_ 0, c_ 31] (bF (dF c3)) ?_
      refine .reg' [1, 2, 3, 4, 11, 12, 24, 25, 52] [] ⟨[(1, (.sl true a1.length 3 (a1.flatMap e49))), (2, (I a2)), (3, (.sl true a3.length 1 (a3.flatMap encI))), (4, (I a4)), (11, (.rf 1024 0 x2.length 1 (x2.length * 1))), (12, (I x3)), (24, (I (a0.length : Int))), (25, (I x3)), (52, (B x4))], [(1024, (x2.flatMap encI))], [], []⟩ [c_ 62671, b_ 1, c_ 1959, l_ 122, b_ 0, c_ 31] aln nocal ?_
      by_cases c8 : x4 = true
      · rw [if_pos c8] at h
        refine .cond' (.tmp 52) true [c_ 125342, b_ 1, c_ 1959, l_ 122, b_ 0, c_ 31] (bT c8) ?_
        by_cases c9 : (x2.length + ([x3] : List Int).length) * 8 ≤ 70368744177664
        · rw [if_pos c9] at h
          refine .reg' [1, 2, 3, 4, 11, 24, 25] [.no, .no, .no, .w (.rf 1024 0 ((x2 ++ ([x3] : List Int)).length) 1 ((x2 ++ ([x3] : List Int)).length * 1)) ((x2 ++ ([x3] : List Int)).flatMap encI)] ⟨[(1, (.sl true a1.length 3 (a1.flatMap e49))), (2, (I a2)), (3, (.sl true a3.length 1 (a3.flatMap encI))), (4, (I a4)), (11, (.rf 1024 0 ((x2 ++ ([x3] : List Int)).length) 1 ((x2 ++ ([x3] : List Int)).length * 1))), (24, (I (a0.length : Int))), (25, (I x3))], [(1024, ((x2 ++ ([x3] : List Int)).flatMap encI)), (3842, (([x3] : List Int).flatMap encI))], [V.rf 1024 0 (x2.length + ([x3] : List Int).length) 1 (x2.length * 1 + ([x3] : List Int).length * 1) = (.rf 1024 0 ((x2 ++ ([x3] : List Int)).length) 1 ((x2 ++ ([x3] : List Int)).length * 1)), x2.flatMap encI ++ (((([x3] : List Int).flatMap encI).drop 0).take (([x3] : List Int).length * 1)) = ((x2 ++ ([x3] : List Int)).flatMap encI), (([x3] : List Int).length * 1 = (([x3] : List Int).flatMap encI).length ∧ 0 + ([x3] : List Int).length * 1 ≤ (([x3] : List Int).flatMap encI).length) ∧ x2.length * 1 = (x2.flatMap encI).length ∧ x2.length * 1 = (x2.flatMap encI).length ∧ (x2.length + ([x3] : List Int).length) * 8 ≤ 70368744177664], []⟩ [c_ 1959, l_ 122, b_ 0, c_ 31] (alc (apV rfl) (alc (apR encI_ok rfl) (alc (apO encI_ok rfl c9 rfl) aln))) nocal ?_
          refine .reg' [1, 2, 3, 4, 11, 24, 25] [] ⟨[(1, (.sl true a1.length 3 (a1.flatMap e49))), (2, (I a2)), (3, (.sl true a3.length 1 (a3.flatMap encI))), (4, (I a4)), (11, (.rf 1024 0 ((x2 ++ ([x3] : List Int)).length) 1 ((x2 ++ ([x3] : List Int)).length * 1))), (24, (I (a0.length : Int))), (25, (I (wrap64 (x3 + 1))))], [(1024, ((x2 ++ ([x3] : List Int)).flatMap encI)), (3842, (([x3] : List Int).flatMap encI))], [], []⟩ [l_ 122, b_ 0, c_ 31] aln nocal ?_
          refine .wk' [] [(1024, 1024)] [(1, (.sl true a1.length 3 (a1.flatMap e49))), (2, (I a2)), (3, (.sl true a3.length 1 (a3.flatMap encI))), (4, (I a4)), (11, (.rf 1024 0 ((x2 ++ ([x3] : List Int)).length) 1 ((x2 ++ ([x3] : List Int)).length * 1))), (24, (I (a0.length : Int))), (25, (I (wrap64 (x3 + 1))))] [(1024, ((x2 ++ ([x3] : List Int)).flatMap encI))] (shc 1024 (rowF encI_ok _) shn) (enc_ (.z (frz_sl e49_ok (fun h => h))) (enc_ (.z .s) (enc_ (.z (frz_sl encI_ok (fun h => h))) (enc_ (.z .s) (enc_ (.rf (memP_mem (p := (1024, 1024)) rfl)) (enc_ (.z .s) (enc_ (.z .s) enn))))))) ?_
          exact ih0 a0 a1 a2 a3 a4 (x2 ++ ([x3] : List Int)) (wrap64 (x3 + 1)) _ h
        · rw [if_neg c9] at h
          cases h
      · rw [if_neg c8] at h
        refine .cond' (.tmp 52) false [c_ 1959, l_ 122, b_ 0, c_ 31] (bF (vF c8)) ?_
        refine .reg' [1, 2, 3, 4, 11, 24, 25] [] ⟨[(1, (.sl true a1.length 3 (a1.flatMap e49))), (2, (I a2)), (3, (.sl true a3.length 1 (a3.flatMap encI))), (4, (I a4)), (11, (.rf 1024 0 x2.length 1 (x2.length * 1))), (24, (I (a0.length : Int))), (25, (I (wrap64 (x3 + 1))))], [(1024, (x2.flatMap encI))], [], []⟩ [l_ 122, b_ 0, c_ 31] aln nocal ?_
        exact ih0 a0 a1 a2 a3 a4 x2 (wrap64 (x3 + 1)) _ h
theorem impl_FreeBays.J (k : Nat) (a0 : (List Int)) (a1 : (List S49)) (a2 : Int) (a3 : (List Int)) (a4 : Int) (r : (List Int)) (h : impl_FreeBays.f k a0 a1 a2 a3 a4 = some r) : J prog (.call 26 [(.sl true a0.length 1 (a0.flatMap encI)), (.sl true a1.length 3 (a1.flatMap e49)), (I a2), (.sl true a3.length 1 (a3.flatMap encI)), (I a4)] [] (.rf 1024 0 r.length 1 (r.length * 1)) [(1024, (r.flatMap encI))]) := by
  unfold impl_FreeBays.f at h
  obtain ⟨ih0, ih1⟩ := impl_FreeBays.lab k
  refine .call' [c_ 2, c_ 3] ?_
  refine .reg' [0, 1, 2, 3, 4] [] ⟨[(0, (.sl true a0.length 1 (a0.flatMap encI))), (1, (.sl true a1.length 3 (a1.flatMap e49))), (2, (I a2)), (3, (.sl true a3.length 1 (a3.flatMap encI))), (4, (I a4))], [], [], []⟩ [c_ 12, c_ 13, c_ 7] aln nocal ?_
  obtain ⟨x1, hx1, h⟩ := Option.bind_eq_some_iff.mp h
  refine .reg' [0, 1, 2, 3, 4, 21] [.no, .no, .no, .no, .c ⟨24, [(.sl true a0.length 1 (a0.flatMap encI)), (.sl true a1.length 3 (a1.flatMap e49)), (I a2), (.sl true a3.length 1 (a3.flatMap encI))], [], (B x1), [], [], [], [], (B x1), []⟩] ⟨[(0, (.sl true a0.length 1 (a0.flatMap encI))), (1, (.sl true a1.length 3 (a1.flatMap e49))), (2, (I a2)), (3, (.sl true a3.length 1 (a3.flatMap encI))), (4, (I a4)), (21, (B (!x1)))], [], [COK (hget []) [(.sl true a0.length 1 (a0.flatMap encI)), (.sl true a1.length 3 (a1.flatMap e49)), (I a2), (.sl true a3.length 1 (a3.flatMap encI))] ⟨24, [(.sl true a0.length 1 (a0.flatMap encI)), (.sl true a1.length 3 (a1.flatMap e49)), (I a2), (.sl true a3.length 1 (a3.flatMap encI))], [], (B x1), [], [], [], [], (B x1), []⟩], [⟨24, [(.sl true a0.length 1 (a0.flatMap encI)), (.sl true a1.length 3 (a1.flatMap e49)), (I a2), (.sl true a3.length 1 (a3.flatMap encI))], [], (B x1), [], [], [], [], (B x1), []⟩]⟩ [c_ 13, c_ 7] (alc (cok0 false (a2c (.z (frz_sl encI_ok (fun h => h))) (a2c (.z (frz_sl e49_ok (fun h => h))) (a2c (.z .s) (a2c (.z (frz_sl encI_ok (fun h => h))) a2n)))) (.z .s) (fun h => absurd h (by decide))) aln) (acal (impl_AssignOk.J k a0 a1 a2 a3 _ hx1) nocal) ?_
  by_cases c1 : x1 = true
  · rw [if_pos c1] at h
    refine .cond' (.tmp 21) false [c_ 14, c_ 15] (bF (nF c1)) ?_
    refine .reg' [0, 1, 2, 3, 4, 11] [] ⟨[(0, (.sl true a0.length 1 (a0.flatMap encI))), (1, (.sl true a1.length 3 (a1.flatMap e49))), (2, (I a2)), (3, (.sl true a3.length 1 (a3.flatMap encI))), (4, (I a4)), (11, (.rf 1024 0 (([] : List Int).length) 1 (([] : List Int).length * 1)))], [(1024, (([] : List Int).flatMap encI))], [], []⟩ [c_ 60, c_ 61, c_ 31] aln nocal ?_
    refine .reg' [1, 2, 3, 4, 11, 24, 25] [] ⟨[(1, (.sl true a1.length 3 (a1.flatMap e49))), (2, (I a2)), (3, (.sl true a3.length 1 (a3.flatMap encI))), (4, (I a4)), (11, (.rf 1024 0 (([] : List Int).length) 1 (([] : List Int).length * 1))), (24, (I (a0.length : Int))), (25, (I 0))], [(1024, (([] : List Int).flatMap encI))], [], []⟩ [l_ 122, b_ 0, c_ 31] aln nocal ?_
    exact ih0 a0 a1 a2 a3 a4 ([] : List Int) 0 _ h
  · rw [if_neg c1] at h
    refine .cond' (.tmp 21) true [c_ 52, c_ 53, c_ 7] (bT (nT (vF c1))) ?_
    refine .reg' [10] [] ⟨[(10, nilS)], [], [], []⟩ [c_ 53, c_ 7] aln nocal ?_
    have h := Option.some.inj h
    subst h
    refine .nl' 1024 ?_
    exact .fin' [] [(1024, 1024)] nilS [] aln (shc 1024 (rowF encI_ok _) shn) (.nl (memP_mem (p := (1024, 1024)) rfl) rfl)
/-! laws_within: function 36 -/
def laws_within.l0 : Nat → (List Int) → Int → Int → Option Bool
 | 0, _, _, _ => none
 | k + 1, a0, a1, x1 => (if x1 < (a0.length : Int) then (if 0 ≤ x1 then (if (at_ a0 x1) = a1 then (some true) else (laws_within.l0 k a0 a1 (wrap64 (x1 + 1)))) else none) else (some false))
def laws_within.f (k : Nat) (a0 : (List Int)) (a1 : Int) : Option Bool := (laws_within.l0 k a0 a1 0)
theorem laws_within.lab : ∀ k, (∀ (a0 : (List Int)) (a1 : Int) (x1 : Int) (r : Bool), laws_within.l0 k a0 a1 x1 = some r → J prog (.run 36 [] [l_ 26, b_ 0, c_ 7] [(0, (.sl true a0.length 1 (a0.flatMap encI))), (1, (I a1)), (5, (I x1))] [] (B r) []))
 | 0 => (by intro a0 a1 x1 r h; unfold laws_within.l0 at h; cases h)
 | k + 1 => by
  have ih0 := laws_within.lab k
  · intro a0 a1 x1 r h
    unfold laws_within.l0 at h
    refine .loop' [c_ 208, c_ 209, c_ 105, l_ 26, b_ 0, c_ 7] ?_
    refine .reg' [0, 1, 5, 9] [] ⟨[(0, (.sl true a0.length 1 (a0.flatMap encI))), (1, (I a1)), (5, (I x1)), (9, (B (decide (x1 < (a0.length : Int)))))], [], [], []⟩ [c_ 209, c_ 105, l_ 26, b_ 0, c_ 7] aln nocal ?_
    by_cases c1 : x1 < (a0.length : Int)
    · rw [if_pos c1] at h
      refine .cond' (.tmp 9) true [c_ 840, c_ 841, b_ 1, c_ 211, l_ 26, b_ 0, c_ 7] (bT (dT c1)) ?_
      by_cases c2 : 0 ≤ x1
      · rw [if_pos c2] at h
        refine .reg' [0, 1, 5, 17] [.no, .no, .no, .v (I (at_ a0 x1))] ⟨[(0, (.sl true a0.length 1 (a0.flatMap encI))), (1, (I a1)), (5, (I x1)), (17, (B ((at_ a0 x1) == a1)))], [], [(0 : Int) ≤ x1 ∧ x1 < (a0.length : Int), rdC prog 3 ((a0.flatMap encI).drop (x1.toNat * 1)) = (I (at_ a0 x1)), 1 ≤ ((a0.flatMap encI).drop (x1.toNat * 1)).length], []⟩ [c_ 841, b_ 1, c_ 211, l_ 26, b_ 0, c_ 7] (alc ⟨c2, c1⟩ (alc (ldC1 encI_ok rfl c2 c1) (alc (okI encI_ok c2 c1 (by decide)) aln))) nocal ?_
        by_cases c3 : (at_ a0 x1) = a1
        · rw [if_pos c3] at h
          refine .cond' (.tmp 17) true [c_ 3364, c_ 3365, b_ 1, c_ 211, l_ 26, b_ 0, c_ 7] (bT (qT c3)) ?_
          refine .reg' [4] [] ⟨[(4, (B true))], [], [], []⟩ [c_ 3365, b_ 1, c_ 211, l_ 26, b_ 0, c_ 7] aln nocal ?_
          have h := Option.some.inj h
          subst h
          exact .fin0 [] (B true) [] aln (.z .s)
        · rw [if_neg c3] at h
          refine .cond' (.tmp 17) false [c_ 211, l_ 26, b_ 0, c_ 7] (bF (qF c3)) ?_
          refine .reg' [0, 1, 5] [] ⟨[(0, (.sl true a0.length 1 (a0.flatMap encI))), (1, (I a1)), (5, (I (wrap64 (x1 + 1))))], [], [], []⟩ [l_ 26, b_ 0, c_ 7] aln nocal ?_
          exact ih0 a0 a1 (wrap64 (x1 + 1)) _ h
      · rw [if_neg c2] at h
        cases h
    · rw [if_neg c1] at h
      refine .cond' (.tmp 9) false [c_ 14, c_ 15] (bF (dF c1)) ?_
      refine .reg' [4] [] ⟨[(4, (B false))], [], [], []⟩ [c_ 15] aln nocal ?_
      have h := Option.some.inj h
      subst h
      exact .fin0 [] (B false) [] aln (.z .s)
theorem laws_within.J (k : Nat) (a0 : (List Int)) (a1 : Int) (r : Bool) (h : laws_within.f k a0 a1 = some r) : J prog (.call 36 [(.sl true a0.length 1 (a0.flatMap encI)), (I a1)] [] (B r) []) := by
  unfold laws_within.f at h
  have ih0 := laws_within.lab k
  refine .call' [c_ 2, c_ 3] ?_
  refine .reg' [0, 1] [] ⟨[(0, (.sl true a0.length 1 (a0.flatMap encI))), (1, (I a1))], [], [], []⟩ [c_ 12, c_ 13, c_ 7] aln nocal ?_
  refine .reg' [0, 1, 5] [] ⟨[(0, (.sl true a0.length 1 (a0.flatMap encI))), (1, (I a1)), (5, (I 0))], [], [], []⟩ [l_ 26, b_ 0, c_ 7] aln nocal ?_
  exact ih0 a0 a1 0 _ h
/-! laws_FnBays: function 11 -/
mutual
def laws_FnBays.l0 : Nat → ((List Int) × (List S49) × Int) → (List Int) → Int → (List Int) → Int → Option Bool
 | 0, _, _, _, _, _ => none
 | k + 1, x2, x3, x7, x8, x9 => (if x9 < (x2.1.length : Int) then (laws_FnBays.l1 k x2 x3 x7 x8 x9 0 0) else (laws_FnBays.l2 k x2 x3 0))
def laws_FnBays.l1 : Nat → ((List Int) × (List S49) × Int) → (List Int) → Int → (List Int) → Int → Int → Int → Option Bool
 | 0, _, _, _, _, _, _, _ => none
 | k + 1, x2, x3, x7, x8, x9, x10, x11 => (if x11 < (x3.length : Int) then (if 0 ≤ x11 then (if (at_ x3 x11) = x9 then (if x11 < (x2.2.1.length : Int) then (if (x7.tmod (80 : Int)) ≥ (at_ x2.2.1 x11).f0 then (if (x7.tmod (80 : Int)) < (wrap64 ((at_ x2.2.1 x11).f1 + x2.2.2)) then (laws_FnBays.l1 k x2 x3 x7 x8 x9 (wrap64 (x10 + 1)) (wrap64 (x11 + 1))) else (laws_FnBays.l1 k x2 x3 x7 x8 x9 x10 (wrap64 (x11 + 1)))) else (laws_FnBays.l1 k x2 x3 x7 x8 x9 x10 (wrap64 (x11 + 1)))) else none) else (laws_FnBays.l1 k x2 x3 x7 x8 x9 x10 (wrap64 (x11 + 1)))) else none) else (if x10 > 1 then (some false) else ((laws_within.f k x8 x9).bind fun x12 => (if (x12 == (x10 == 0)) = true then (laws_FnBays.l0 k x2 x3 x7 x8 (wrap64 (x9 + 1))) else (some false)))))
def laws_FnBays.l2 : Nat → ((List Int) × (List S49) × Int) → (List Int) → Int → Option Bool
 | 0, _, _, _ => none
 | k + 1, x2, x3, x13 => (if x13 < (x3.length : Int) then (laws_FnBays.l3 k x2 x3 x13 0) else (some true))
def laws_FnBays.l3 : Nat → ((List Int) × (List S49) × Int) → (List Int) → Int → Int → Option Bool
 | 0, _, _, _, _ => none
 | k + 1, x2, x3, x13, x14 => (if 0 ≤ x13 then (if x13 < (x3.length : Int) then (if (at_ x3 x13) < 0 then (if x14 < (x2.1.length : Int) then (laws_FnBays.l4 k x2 x3 x13 x14 false 0) else (laws_FnBays.l2 k x2 x3 (wrap64 (x13 + 1)))) else (laws_FnBays.l2 k x2 x3 (wrap64 (x13 + 1)))) else none) else none)
def laws_FnBays.l4 : Nat → ((List Int) × (List S49) × Int) → (List Int) → Int → Int → Bool → Int → Option Bool
 | 0, _, _, _, _, _, _ => none
 | k + 1, x2, x3, x13, x14, x15, x16 => (if x16 < (x3.length : Int) then (if 0 ≤ x16 then (if (at_ x3 x16) = x14 then (if x16 < (x2.2.1.length : Int) then (if 0 ≤ x13 then (if x13 < (x2.2.1.length : Int) then (if (at_ x2.2.1 x16).f0 < (at_ x2.2.1 x13).f0 then (if (at_ x2.2.1 x13).f0 < (wrap64 ((at_ x2.2.1 x16).f1 + x2.2.2)) then (laws_FnBays.l4 k x2 x3 x13 x14 true (wrap64 (x16 + 1))) else (laws_FnBays.l4 k x2 x3 x13 x14 x15 (wrap64 (x16 + 1)))) else (if (at_ x2.2.1 x16).f0 = (at_ x2.2.1 x13).f0 then (if x16 < x13 then (if (at_ x2.2.1 x13).f0 < (wrap64 ((at_ x2.2.1 x16).f1 + x2.2.2)) then (laws_FnBays.l4 k x2 x3 x13 x14 true (wrap64 (x16 + 1))) else (laws_FnBays.l4 k x2 x3 x13 x14 x15 (wrap64 (x16 + 1)))) else (laws_FnBays.l4 k x2 x3 x13 x14 x15 (wrap64 (x16 + 1)))) else (laws_FnBays.l4 k x2 x3 x13 x14 x15 (wrap64 (x16 + 1))))) else none) else none) else none) else (laws_FnBays.l4 k x2 x3 x13 x14 x15 (wrap64 (x16 + 1)))) else none) else (if x15 = true then (laws_FnBays.l3 k x2 x3 x13 (wrap64 (x14 + 1))) else (if 0 ≤ x14 then (if x14 < (x2.1.length : Int) then (if 0 ≤ x13 then (if x13 < (x2.2.1.length : Int) then (if (at_ x2.1 x14) ≥ (at_ x2.2.1 x13).f2 then (some false) else (laws_FnBays.l3 k x2 x3 x13 (wrap64 (x14 + 1)))) else none) else none) else none) else none)))
end
def laws_FnBays.f (k : Nat) (a0 : (List Int)) : Option Bool := ((laws_big.f a0).bind fun x1 => (if x1 = true then (some true) else ((spec_DrawRightStays.f k a0).bind fun x2 => ((impl_Assign.f k x2.1 x2.2.1 x2.2.2).bind fun x3 => (if (x3.length : Int) = (x2.2.1.length : Int) then ((impl_AssignOk.f k x2.1 x2.2.1 x2.2.2 x3).bind fun x4 => (if x4 = true then ((spec_Assign.f k x2.1 x2.2.1 x2.2.2).bind fun x5 => ((laws_sameInts.f k x3 x5).bind fun x6 => (if x6 = true then ((laws_at.f a0 3).bind fun x7 => ((impl_FreeBays.f k x2.1 x2.2.1 x2.2.2 x3 (x7.tmod (80 : Int))).bind fun x8 => (laws_FnBays.l0 k x2 x3 x7 x8 0))) else (some false)))) else (some false))) else (some false))))))
end Go.Proofs.Ytddipeelmandjaa.Fns
