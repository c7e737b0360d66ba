/- The functions that the law FnExactDrive reaches, by the engine. Printed by a program of this seat. -/
import Derived.Test.YtjfjifnmfnlfoaaE5
import Derived.Test.YtjfjifnmfnlfoaaProg
import Derived.Test.YtjfjifnmfnlfoaaFFnExactDrivex1
namespace Go.Proofs.Ytjfjifnmfnlfoaa.Fns
open Go.Proofs.Try Go.Proofs.Ytjfjifnmfnlfoaa.Eng Go.RowKit
set_option maxRecDepth 100000
set_option linter.unusedVariables false
set_option linter.unusedSimpArgs false
theorem impl_goOn.J (k : Nat) (a0 : Int) (a1 : (List S117)) (a2 : Int) (a3 : Int) (r : ((List S117) × Bool)) (h : impl_goOn.f k a0 a1 a2 a3 = some r) : J prog (.call 87 [(I a0), (.sl true a1.length 2 (a1.flatMap e117)), (I a2), (I a3)] [] (.tp [(.rf 1536 0 r.1.length 2 (r.1.length * 2)), (B r.2)]) [(1536, (r.1.flatMap e117))]) := by
  unfold impl_goOn.f at h
  refine .call' [c_ 2, c_ 3] ?_
  refine .reg' [0, 1, 2, 3] [] ⟨[(0, (I a0)), (1, (.sl true a1.length 2 (a1.flatMap e117))), (2, (I a2)), (3, (I a3))], [], [], []⟩ [c_ 6, c_ 7] aln nocal ?_
  by_cases c1 : 0 ≤ a2
  · rw [if_pos c1] at h
    by_cases c2 : a2 < (a1.length : Int)
    · rw [if_pos c2] at h
      refine .reg' [0, 1, 2, 3, 10] [.no, .no, .no, .no, .v (I (at_ a1 a2).f1)] ⟨[(0, (I a0)), (1, (.sl true a1.length 2 (a1.flatMap e117))), (2, (I a2)), (3, (I a3)), (10, (I (wrap64 ((at_ a1 a2).f1 + 1))))], [], [(0 : Int) ≤ a2 ∧ a2 < (a1.length : Int), rdC prog 3 (((a1.flatMap e117).drop (a2.toNat * 2)).drop 1) = (I (at_ a1 a2).f1), 1 ≤ (((a1.flatMap e117).drop (a2.toNat * 2)).drop 1).length], []⟩ [c_ 28, c_ 29, c_ 15] (alc ⟨c1, c2⟩ (alc (ldC e117_ok 1 (by decide) rfl c1 c2) (alc (okIj e117_ok c1 c2 (by decide)) aln))) nocal ?_
      refine .reg' [0, 1, 2, 3, 10, 21] [] ⟨[(0, (I a0)), (1, (.sl true a1.length 2 (a1.flatMap e117))), (2, (I a2)), (3, (I a3)), (10, (I (wrap64 ((at_ a1 a2).f1 + 1)))), (21, (B ((wrap64 ((at_ a1 a2).f1 + 1)) == a0)))], [], [], []⟩ [c_ 29, c_ 15] aln nocal ?_
      by_cases c3 : (wrap64 ((at_ a1 a2).f1 + 1)) = a0
      · rw [if_pos c3] at h
        refine .cond' (.tmp 21) true [c_ 232, c_ 233, c_ 117, c_ 15] (bT (qT c3)) ?_
        refine .reg' [1, 2, 23] [] ⟨[(1, (.sl true a1.length 2 (a1.flatMap e117))), (2, (I a2)), (23, (B (a3 == 0)))], [], [], []⟩ [c_ 233, c_ 117, c_ 15] aln nocal ?_
        by_cases c4 : a3 = 0
        · rw [if_pos c4] at h
          refine .cond' (.tmp 23) true [c_ 932, c_ 933, c_ 117, c_ 15] (bT (qT c4)) ?_
          refine .reg' [8, 9] [] ⟨[(8, nilS), (9, (B false))], [], [], []⟩ [c_ 933, c_ 117, c_ 15] aln nocal ?_
          have h := Option.some.inj h
          subst h
          refine .nl' 1536 ?_
          exact .fin' [] [(1536, 1536)] (.tp [nilS, (B false)]) [] aln (shc 1536 (rowF e117_ok _) shn) (cnv_tp (a2c (.nl (memP_mem (p := (1536, 1536)) rfl) rfl) (a2c (.z .s) a2n)))
        · rw [if_neg c4] at h
          refine .cond' (.tmp 23) false [c_ 234, c_ 235, c_ 15] (bF (qF c4)) ?_
          by_cases c5 : a2 ≤ (a1.length : Int)
          · rw [if_pos c5] at h
            by_cases c6 : (([] : List S117).length + ((a1.drop (0 : Int).toNat).take (a2.toNat - (0 : Int).toNat)).length) * 16 ≤ 70368744177664
            · rw [if_pos c6] at h
              refine .reg' [1, 2, 11] [.no, .no, .no, .v (.sl true ((a1.drop (0 : Int).toNat).take (a2.toNat - (0 : Int).toNat)).length 2 (((a1.drop (0 : Int).toNat).take (a2.toNat - (0 : Int).toNat)).flatMap e117)), .w (.rf 1536 0 ((([] : List S117) ++ ((a1.drop (0 : Int).toNat).take (a2.toNat - (0 : Int).toNat))).length) 2 ((([] : List S117) ++ ((a1.drop (0 : Int).toNat).take (a2.toNat - (0 : Int).toNat))).length * 2)) ((([] : List S117) ++ ((a1.drop (0 : Int).toNat).take (a2.toNat - (0 : Int).toNat))).flatMap e117)] ⟨[(1, (.sl true a1.length 2 (a1.flatMap e117))), (2, (I a2)), (11, (.rf 1536 0 ((([] : List S117) ++ ((a1.drop (0 : Int).toNat).take (a2.toNat - (0 : Int).toNat))).length) 2 ((([] : List S117) ++ ((a1.drop (0 : Int).toNat).take (a2.toNat - (0 : Int).toNat))).length * 2)))], [(1536, ((([] : List S117) ++ ((a1.drop (0 : Int).toNat).take (a2.toNat - (0 : Int).toNat))).flatMap e117))], [V.sl true (a2.toNat - (0 : Int).toNat) 2 (((a1.flatMap e117).drop ((0 : Int).toNat * 2)).take ((a2.toNat - (0 : Int).toNat) * 2)) = (.sl true ((a1.drop (0 : Int).toNat).take (a2.toNat - (0 : Int).toNat)).length 2 (((a1.drop (0 : Int).toNat).take (a2.toNat - (0 : Int).toNat)).flatMap e117)), 0 ≤ (0 : Int) ∧ 0 ≤ a2 ∧ a2 ≤ (a1.length : Int), V.rf 1536 0 (([] : List S117).length + ((a1.drop (0 : Int).toNat).take (a2.toNat - (0 : Int).toNat)).length) 2 (([] : List S117).length * 2 + ((a1.drop (0 : Int).toNat).take (a2.toNat - (0 : Int).toNat)).length * 2) = (.rf 1536 0 ((([] : List S117) ++ ((a1.drop (0 : Int).toNat).take (a2.toNat - (0 : Int).toNat))).length) 2 ((([] : List S117) ++ ((a1.drop (0 : Int).toNat).take (a2.toNat - (0 : Int).toNat))).length * 2)), ([] : List S117).flatMap e117 ++ (((a1.drop (0 : Int).toNat).take (a2.toNat - (0 : Int).toNat)).flatMap e117) = ((([] : List S117) ++ ((a1.drop (0 : Int).toNat).take (a2.toNat - (0 : Int).toNat))).flatMap e117), True ∧ ([] : List S117).length * 2 = (([] : List S117).flatMap e117).length ∧ ([] : List S117).length * 2 = (([] : List S117).flatMap e117).length ∧ (([] : List S117).length + ((a1.drop (0 : Int).toNat).take (a2.toNat - (0 : Int).toNat)).length) * 16 ≤ 70368744177664], []⟩ [c_ 470, c_ 471, c_ 15] (alc (slS e117_ok (by omega) (by omega)) (alc ⟨(by decide), c1, c5⟩ (alc (apV rfl) (alc apS (alc (apOS e117_ok c6) aln))))) nocal ?_
              by_cases c7 : 0 ≤ (wrap64 (a2 + 1))
              · rw [if_pos c7] at h
                by_cases c8 : (wrap64 (a2 + 1)) ≤ (a1.length : Int)
                · rw [if_pos c8] at h
                  by_cases c9 : ((([] : List S117) ++ ((a1.drop (0 : Int).toNat).take (a2.toNat - (0 : Int).toNat))).length + ((a1.drop (wrap64 (a2 + 1)).toNat).take ((a1.length : Int).toNat - (wrap64 (a2 + 1)).toNat)).length) * 16 ≤ 70368744177664
                  · rw [if_pos c9] at h
                    refine .reg' [8, 9] [.no, .no, .no, .no, .v (.sl true ((a1.drop (wrap64 (a2 + 1)).toNat).take ((a1.length : Int).toNat - (wrap64 (a2 + 1)).toNat)).length 2 (((a1.drop (wrap64 (a2 + 1)).toNat).take ((a1.length : Int).toNat - (wrap64 (a2 + 1)).toNat)).flatMap e117)), .w (.rf 1536 0 (((([] : List S117) ++ ((a1.drop (0 : Int).toNat).take (a2.toNat - (0 : Int).toNat))) ++ ((a1.drop (wrap64 (a2 + 1)).toNat).take ((a1.length : Int).toNat - (wrap64 (a2 + 1)).toNat))).length) 2 (((([] : List S117) ++ ((a1.drop (0 : Int).toNat).take (a2.toNat - (0 : Int).toNat))) ++ ((a1.drop (wrap64 (a2 + 1)).toNat).take ((a1.length : Int).toNat - (wrap64 (a2 + 1)).toNat))).length * 2)) (((([] : List S117) ++ ((a1.drop (0 : Int).toNat).take (a2.toNat - (0 : Int).toNat))) ++ ((a1.drop (wrap64 (a2 + 1)).toNat).take ((a1.length : Int).toNat - (wrap64 (a2 + 1)).toNat))).flatMap e117)] ⟨[(8, (.rf 1536 0 (((([] : List S117) ++ ((a1.drop (0 : Int).toNat).take (a2.toNat - (0 : Int).toNat))) ++ ((a1.drop (wrap64 (a2 + 1)).toNat).take ((a1.length : Int).toNat - (wrap64 (a2 + 1)).toNat))).length) 2 (((([] : List S117) ++ ((a1.drop (0 : Int).toNat).take (a2.toNat - (0 : Int).toNat))) ++ ((a1.drop (wrap64 (a2 + 1)).toNat).take ((a1.length : Int).toNat - (wrap64 (a2 + 1)).toNat))).length * 2))), (9, (B true))], [(1536, (((([] : List S117) ++ ((a1.drop (0 : Int).toNat).take (a2.toNat - (0 : Int).toNat))) ++ ((a1.drop (wrap64 (a2 + 1)).toNat).take ((a1.length : Int).toNat - (wrap64 (a2 + 1)).toNat))).flatMap e117))], [V.sl true ((a1.length : Int).toNat - (wrap64 (a2 + 1)).toNat) 2 (((a1.flatMap e117).drop ((wrap64 (a2 + 1)).toNat * 2)).take (((a1.length : Int).toNat - (wrap64 (a2 + 1)).toNat) * 2)) = (.sl true ((a1.drop (wrap64 (a2 + 1)).toNat).take ((a1.length : Int).toNat - (wrap64 (a2 + 1)).toNat)).length 2 (((a1.drop (wrap64 (a2 + 1)).toNat).take ((a1.length : Int).toNat - (wrap64 (a2 + 1)).toNat)).flatMap e117)), 0 ≤ (wrap64 (a2 + 1)) ∧ (wrap64 (a2 + 1)) ≤ (a1.length : Int) ∧ (a1.length : Int) ≤ (a1.length : Int), V.rf 1536 0 ((([] : List S117) ++ ((a1.drop (0 : Int).toNat).take (a2.toNat - (0 : Int).toNat))).length + ((a1.drop (wrap64 (a2 + 1)).toNat).take ((a1.length : Int).toNat - (wrap64 (a2 + 1)).toNat)).length) 2 ((([] : List S117) ++ ((a1.drop (0 : Int).toNat).take (a2.toNat - (0 : Int).toNat))).length * 2 + ((a1.drop (wrap64 (a2 + 1)).toNat).take ((a1.length : Int).toNat - (wrap64 (a2 + 1)).toNat)).length * 2) = (.rf 1536 0 (((([] : List S117) ++ ((a1.drop (0 : Int).toNat).take (a2.toNat - (0 : Int).toNat))) ++ ((a1.drop (wrap64 (a2 + 1)).toNat).take ((a1.length : Int).toNat - (wrap64 (a2 + 1)).toNat))).length) 2 (((([] : List S117) ++ ((a1.drop (0 : Int).toNat).take (a2.toNat - (0 : Int).toNat))) ++ ((a1.drop (wrap64 (a2 + 1)).toNat).take ((a1.length : Int).toNat - (wrap64 (a2 + 1)).toNat))).length * 2)), (([] : List S117) ++ ((a1.drop (0 : Int).toNat).take (a2.toNat - (0 : Int).toNat))).flatMap e117 ++ (((a1.drop (wrap64 (a2 + 1)).toNat).take ((a1.length : Int).toNat - (wrap64 (a2 + 1)).toNat)).flatMap e117) = (((([] : List S117) ++ ((a1.drop (0 : Int).toNat).take (a2.toNat - (0 : Int).toNat))) ++ ((a1.drop (wrap64 (a2 + 1)).toNat).take ((a1.length : Int).toNat - (wrap64 (a2 + 1)).toNat))).flatMap e117), True ∧ (([] : List S117) ++ ((a1.drop (0 : Int).toNat).take (a2.toNat - (0 : Int).toNat))).length * 2 = ((([] : List S117) ++ ((a1.drop (0 : Int).toNat).take (a2.toNat - (0 : Int).toNat))).flatMap e117).length ∧ (([] : List S117) ++ ((a1.drop (0 : Int).toNat).take (a2.toNat - (0 : Int).toNat))).length * 2 = ((([] : List S117) ++ ((a1.drop (0 : Int).toNat).take (a2.toNat - (0 : Int).toNat))).flatMap e117).length ∧ ((([] : List S117) ++ ((a1.drop (0 : Int).toNat).take (a2.toNat - (0 : Int).toNat))).length + ((a1.drop (wrap64 (a2 + 1)).toNat).take ((a1.length : Int).toNat - (wrap64 (a2 + 1)).toNat)).length) * 16 ≤ 70368744177664], []⟩ [c_ 471, c_ 15] (alc (slS e117_ok (by omega) (by omega)) (alc ⟨c7, c8, (Int.le_refl _)⟩ (alc (apV rfl) (alc apS (alc (apOS e117_ok c9) aln))))) nocal ?_
                    have h := Option.some.inj h
                    subst h
                    exact .fin' [] [(1536, 1536)] (.tp [(.rf 1536 0 (((([] : List S117) ++ ((a1.drop (0 : Int).toNat).take (a2.toNat - (0 : Int).toNat))) ++ ((a1.drop (wrap64 (a2 + 1)).toNat).take ((a1.length : Int).toNat - (wrap64 (a2 + 1)).toNat))).length) 2 (((([] : List S117) ++ ((a1.drop (0 : Int).toNat).take (a2.toNat - (0 : Int).toNat))) ++ ((a1.drop (wrap64 (a2 + 1)).toNat).take ((a1.length : Int).toNat - (wrap64 (a2 + 1)).toNat))).length * 2)), (B true)]) [] aln (shc 1536 (rowF e117_ok _) shn) (cnv_tp (a2c (.rf (memP_mem (p := (1536, 1536)) rfl)) (a2c (.z .s) a2n)))
                  · rw [if_neg c9] at h
                    cases h
                · rw [if_neg c8] at h
                  cases h
              · rw [if_neg c7] at h
                cases h
            · rw [if_neg c6] at h
              cases h
          · rw [if_neg c5] at h
            cases h
      · rw [if_neg c3] at h
        refine .cond' (.tmp 21) false [c_ 60, c_ 61, c_ 31] (bF (qF c3)) ?_
        obtain ⟨x1, hx1, h⟩ := Option.bind_eq_some_iff.mp h
        by_cases c10 : 0 ≤ (wrap64 ((at_ a1 a2).f1 + 1))
        · rw [if_pos c10] at h
          by_cases c11 : (wrap64 ((at_ a1 a2).f1 + 1)) < (x1.length : Int)
          · rw [if_pos c11] at h
            refine .reg' [1, 2, 10, 40] [.no, .no, .c ⟨111, [(I a0), (.sl true a1.length 2 (a1.flatMap e117))], [], (.rf 513 0 x1.length 1 (x1.length * 1)), [(513, (x1.flatMap encB))], [], [], [(1002050, 513)], (.rf 1002050 0 x1.length 1 (x1.length * 1)), [(1002050, (x1.flatMap encB))]⟩, .no, .no, .v (B (at_ x1 (wrap64 ((at_ a1 a2).f1 + 1))))] ⟨[(1, (.sl true a1.length 2 (a1.flatMap e117))), (2, (I a2)), (10, (I (wrap64 ((at_ a1 a2).f1 + 1)))), (40, (B (at_ x1 (wrap64 ((at_ a1 a2).f1 + 1)))))], [(1002050, (x1.flatMap encB))], [COK (hget []) [(I a0), (.sl true a1.length 2 (a1.flatMap e117))] ⟨111, [(I a0), (.sl true a1.length 2 (a1.flatMap e117))], [], (.rf 513 0 x1.length 1 (x1.length * 1)), [(513, (x1.flatMap encB))], [], [], [(1002050, 513)], (.rf 1002050 0 x1.length 1 (x1.length * 1)), [(1002050, (x1.flatMap encB))]⟩, (0 : Int) ≤ (wrap64 ((at_ a1 a2).f1 + 1)) ∧ (wrap64 ((at_ a1 a2).f1 + 1)) < (x1.length : Int), rdC prog 4 ((x1.flatMap encB).drop (0 + (wrap64 ((at_ a1 a2).f1 + 1)).toNat * 1)) = (B (at_ x1 (wrap64 ((at_ a1 a2).f1 + 1)))), x1.length * 1 = (x1.flatMap encB).length ∧ 0 + (wrap64 ((at_ a1 a2).f1 + 1)).toNat * 1 + 1 ≤ (x1.flatMap encB).length], [⟨111, [(I a0), (.sl true a1.length 2 (a1.flatMap e117))], [], (.rf 513 0 x1.length 1 (x1.length * 1)), [(513, (x1.flatMap encB))], [], [], [(1002050, 513)], (.rf 1002050 0 x1.length 1 (x1.length * 1)), [(1002050, (x1.flatMap encB))]⟩]⟩ [c_ 61, c_ 31] (alc (cokW false (a2c (.z .s) (a2c (.z (frz_sl e117_ok (fun h => h))) a2n)) akn (akc (.inr rfl) akn) (.rf (memP_mem (p := (1002050, 513)) rfl)) (akc ⟨_, _, rfl, rfl, rowB encB_c _⟩ akn) (fun h => absurd h (by decide))) (alc ⟨c10, c11⟩ (alc (ldC01 encB_ok rfl c10 c11) (alc (okA0 encB_ok c10 c11 (by decide)) aln)))) (acal (impl_takenBy.J k a0 a1 _ hx1) nocal) ?_
            by_cases c12 : (at_ x1 (wrap64 ((at_ a1 a2).f1 + 1))) = true
            · rw [if_pos c12] at h
              refine .cond' (.tmp 40) true [c_ 244, c_ 245, c_ 31] (bT c12) ?_
              refine .reg' [8, 9] [] ⟨[(8, nilS), (9, (B false))], [(1002050, (x1.flatMap encB))], [], []⟩ [c_ 245, c_ 31] aln nocal ?_
              have h := Option.some.inj h
              subst h
              refine .nl' 1536 ?_
              exact .fin' [] [(1536, 1536)] (.tp [nilS, (B false)]) [] aln (shc 1536 (rowF e117_ok _) shn) (cnv_tp (a2c (.nl (memP_mem (p := (1536, 1536)) rfl) rfl) (a2c (.z .s) a2n)))
            · rw [if_neg c12] at h
              refine .cond' (.tmp 40) false [c_ 62, c_ 63] (bF (vF c12)) ?_
              by_cases c13 : (([] : List S117).length + a1.length) * 16 ≤ 70368744177664
              · rw [if_pos c13] at h
                refine .reg' [2, 10, 12] [.no, .no, .w (.rf 2560 0 ((([] : List S117) ++ a1).length) 2 ((([] : List S117) ++ a1).length * 2)) ((([] : List S117) ++ a1).flatMap e117)] ⟨[(2, (I a2)), (10, (I (wrap64 ((at_ a1 a2).f1 + 1)))), (12, (.rf 2560 0 ((([] : List S117) ++ a1).length) 2 ((([] : List S117) ++ a1).length * 2)))], [(1002050, (x1.flatMap encB)), (2560, ((([] : List S117) ++ a1).flatMap e117))], [V.rf 2560 0 (([] : List S117).length + a1.length) 2 (([] : List S117).length * 2 + a1.length * 2) = (.rf 2560 0 ((([] : List S117) ++ a1).length) 2 ((([] : List S117) ++ a1).length * 2)), ([] : List S117).flatMap e117 ++ (a1.flatMap e117) = ((([] : List S117) ++ a1).flatMap e117), True ∧ ([] : List S117).length * 2 = (([] : List S117).flatMap e117).length ∧ ([] : List S117).length * 2 = (([] : List S117).flatMap e117).length ∧ (([] : List S117).length + a1.length) * 16 ≤ 70368744177664], []⟩ [c_ 126, c_ 127] (alc (apV rfl) (alc apS (alc (apOS e117_ok c13) aln))) nocal ?_
                by_cases c14 : a2 < ((([] : List S117) ++ a1).length : Int)
                · rw [if_pos c14] at h
                  refine .reg' [12] [.no, .no, .no, .no, .no, .w .un (((([] : List S117) ++ a1).set a2.toNat (⟨(at_ (([] : List S117) ++ a1) a2).f0, (wrap64 ((at_ a1 a2).f1 + 1))⟩ : S117)).flatMap e117)] ⟨[(12, (.rf 2560 0 ((([] : List S117) ++ a1).length) 2 ((([] : List S117) ++ a1).length * 2)))], [(1002050, (x1.flatMap encB)), (2560, (((([] : List S117) ++ a1).set a2.toNat (⟨(at_ (([] : List S117) ++ a1) a2).f0, (wrap64 ((at_ a1 a2).f1 + 1))⟩ : S117)).flatMap e117))], [(0 : Int) ≤ a2 ∧ a2 < ((([] : List S117) ++ a1).length : Int), V.un = V.un, spl ((([] : List S117) ++ a1).flatMap e117) (0 + a2.toNat * 2 + 1) [(I (wrap64 ((at_ a1 a2).f1 + 1)))] = (((([] : List S117) ++ a1).set a2.toNat (⟨(at_ (([] : List S117) ++ a1) a2).f0, (wrap64 ((at_ a1 a2).f1 + 1))⟩ : S117)).flatMap e117), (([] : List S117) ++ a1).length * 2 = ((([] : List S117) ++ a1).flatMap e117).length ∧ 0 + a2.toNat * 2 + 1 + 1 ≤ ((([] : List S117) ++ a1).flatMap e117).length], []⟩ [c_ 254, c_ 255] (alc ⟨c1, c14⟩ (alc rfl (alc (st_row e117_ok 1 c1 c14 (Nat.le_of_ble_eq_true rfl) rfl) (alc (okA e117_ok c1 c14 (by decide)) aln)))) nocal ?_
                  refine .eqs (env2 := [(12, (.rf 2560 0 (((([] : List S117) ++ a1).set a2.toNat (⟨(at_ (([] : List S117) ++ a1) a2).f0, (wrap64 ((at_ a1 a2).f1 + 1))⟩ : S117)).length) 2 (((([] : List S117) ++ a1).set a2.toNat (⟨(at_ (([] : List S117) ++ a1) a2).f0, (wrap64 ((at_ a1 a2).f1 + 1))⟩ : S117)).length * 2)))]) (H2 := [(1002050, (x1.flatMap encB)), (2560, (((([] : List S117) ++ a1).set a2.toNat (⟨(at_ (([] : List S117) ++ a1) a2).f0, (wrap64 ((at_ a1 a2).f1 + 1))⟩ : S117)).flatMap e117))]) (by first | (simp only [List.length_set]; done) | simp) (by first | rfl | (simp only [List.length_set]; done) | simp) ?_
                  refine .reg' [8, 9] [] ⟨[(8, (.rf 2560 0 (((([] : List S117) ++ a1).set a2.toNat (⟨(at_ (([] : List S117) ++ a1) a2).f0, (wrap64 ((at_ a1 a2).f1 + 1))⟩ : S117)).length) 2 (((([] : List S117) ++ a1).set a2.toNat (⟨(at_ (([] : List S117) ++ a1) a2).f0, (wrap64 ((at_ a1 a2).f1 + 1))⟩ : S117)).length * 2))), (9, (B true))], [(1002050, (x1.flatMap encB)), (2560, (((([] : List S117) ++ a1).set a2.toNat (⟨(at_ (([] : List S117) ++ a1) a2).f0, (wrap64 ((at_ a1 a2).f1 + 1))⟩ : S117)).flatMap e117))], [], []⟩ [c_ 255] aln nocal ?_
                  have h := Option.some.inj h
                  subst h
                  exact .fin' [] [(2560, 1536)] (.tp [(.rf 2560 0 (((([] : List S117) ++ a1).set a2.toNat (⟨(at_ (([] : List S117) ++ a1) a2).f0, (wrap64 ((at_ a1 a2).f1 + 1))⟩ : S117)).length) 2 (((([] : List S117) ++ a1).set a2.toNat (⟨(at_ (([] : List S117) ++ a1) a2).f0, (wrap64 ((at_ a1 a2).f1 + 1))⟩ : S117)).length * 2)), (B true)]) [] aln (shc 2560 (rowF e117_ok _) shn) (cnv_tp (a2c (.rf (memP_mem (p := (2560, 1536)) rfl)) (a2c (.z .s) a2n)))
                · rw [if_neg c14] at h
                  cases h
              · rw [if_neg c13] at h
                cases h
          · rw [if_neg c11] at h
            cases h
        · rw [if_neg c10] at h
          cases h
    · rw [if_neg c2] at h
      cases h
  · rw [if_neg c1] at h
    cases h
/-! impl_drawUp: function 88 -/
def impl_drawUp.f (a0 : (List S117)) (a1 : Int) : Option ((List S117) × Bool) := (if 0 ≤ a1 then (if a1 < (a0.length : Int) then (if (at_ a0 a1).f0 = (at_ a0 a1).f1 then (some (([] : List S117), false)) else (if (([] : List S117).length + a0.length) * 16 ≤ 70368744177664 then (if a1 < ((([] : List S117) ++ a0).length : Int) then (some (((([] : List S117) ++ a0).set a1.toNat (⟨(wrap64 ((at_ (([] : List S117) ++ a0) a1).f0 + 1)), (at_ (([] : List S117) ++ a0) a1).f1⟩ : S117)), true)) else none) else none)) else none) else none)
theorem impl_drawUp.J (a0 : (List S117)) (a1 : Int) (r : ((List S117) × Bool)) (h : impl_drawUp.f a0 a1 = some r) : J prog (.call 88 [(.sl true a0.length 2 (a0.flatMap e117)), (I a1)] [] (.tp [(.rf 1024 0 r.1.length 2 (r.1.length * 2)), (B r.2)]) [(1024, (r.1.flatMap e117))]) := by
  unfold impl_drawUp.f at h
  refine .call' [c_ 2, c_ 3] ?_
  refine .reg' [0, 1] [] ⟨[(0, (.sl true a0.length 2 (a0.flatMap e117))), (1, (I a1))], [], [], []⟩ [c_ 12, c_ 13, c_ 7] aln nocal ?_
  by_cases c1 : 0 ≤ a1
  · rw [if_pos c1] at h
    by_cases c2 : a1 < (a0.length : Int)
    · rw [if_pos c2] at h
      refine .reg' [0, 1, 17] [.no, .no, .no, .no, .v (I (at_ a0 a1).f0), .no, .no, .no, .no, .v (I (at_ a0 a1).f1)] ⟨[(0, (.sl true a0.length 2 (a0.flatMap e117))), (1, (I a1)), (17, (B ((at_ a0 a1).f0 == (at_ a0 a1).f1)))], [], [(0 : Int) ≤ a1 ∧ a1 < (a0.length : Int), rdC prog 3 (((a0.flatMap e117).drop (a1.toNat * 2)).drop 0) = (I (at_ a0 a1).f0), 1 ≤ (((a0.flatMap e117).drop (a1.toNat * 2)).drop 0).length, (0 : Int) ≤ a1 ∧ a1 < (a0.length : Int), rdC prog 3 (((a0.flatMap e117).drop (a1.toNat * 2)).drop 1) = (I (at_ a0 a1).f1), 1 ≤ (((a0.flatMap e117).drop (a1.toNat * 2)).drop 1).length], []⟩ [c_ 13, c_ 7] (alc ⟨c1, c2⟩ (alc (ldC e117_ok 0 (by decide) rfl c1 c2) (alc (okIj e117_ok c1 c2 (by decide)) (alc ⟨c1, c2⟩ (alc (ldC e117_ok 1 (by decide) rfl c1 c2) (alc (okIj e117_ok c1 c2 (by decide)) aln)))))) nocal ?_
      by_cases c3 : (at_ a0 a1).f0 = (at_ a0 a1).f1
      · rw [if_pos c3] at h
        refine .cond' (.tmp 17) true [c_ 52, c_ 53, c_ 7] (bT (qT c3)) ?_
        refine .reg' [4, 5] [] ⟨[(4, nilS), (5, (B false))], [], [], []⟩ [c_ 53, c_ 7] aln nocal ?_
        have h := Option.some.inj h
        subst h
        refine .nl' 1024 ?_
        exact .fin' [] [(1024, 1024)] (.tp [nilS, (B false)]) [] aln (shc 1024 (rowF e117_ok _) shn) (cnv_tp (a2c (.nl (memP_mem (p := (1024, 1024)) rfl) rfl) (a2c (.z .s) a2n)))
      · rw [if_neg c3] at h
        refine .cond' (.tmp 17) false [c_ 14, c_ 15] (bF (qF c3)) ?_
        by_cases c4 : (([] : List S117).length + a0.length) * 16 ≤ 70368744177664
        · rw [if_pos c4] at h
          refine .reg' [1, 6] [.no, .no, .w (.rf 1024 0 ((([] : List S117) ++ a0).length) 2 ((([] : List S117) ++ a0).length * 2)) ((([] : List S117) ++ a0).flatMap e117)] ⟨[(1, (I a1)), (6, (.rf 1024 0 ((([] : List S117) ++ a0).length) 2 ((([] : List S117) ++ a0).length * 2)))], [(1024, ((([] : List S117) ++ a0).flatMap e117))], [V.rf 1024 0 (([] : List S117).length + a0.length) 2 (([] : List S117).length * 2 + a0.length * 2) = (.rf 1024 0 ((([] : List S117) ++ a0).length) 2 ((([] : List S117) ++ a0).length * 2)), ([] : List S117).flatMap e117 ++ (a0.flatMap e117) = ((([] : List S117) ++ a0).flatMap e117), True ∧ ([] : List S117).length * 2 = (([] : List S117).flatMap e117).length ∧ ([] : List S117).length * 2 = (([] : List S117).flatMap e117).length ∧ (([] : List S117).length + a0.length) * 16 ≤ 70368744177664], []⟩ [c_ 30, c_ 31] (alc (apV rfl) (alc apS (alc (apOS e117_ok c4) aln))) nocal ?_
          by_cases c5 : a1 < ((([] : List S117) ++ a0).length : Int)
          · rw [if_pos c5] at h
            refine .reg' [6] [.no, .no, .no, .no, .v (I (at_ (([] : List S117) ++ a0) a1).f0), .no, .no, .no, .w .un (((([] : List S117) ++ a0).set a1.toNat (⟨(wrap64 ((at_ (([] : List S117) ++ a0) a1).f0 + 1)), (at_ (([] : List S117) ++ a0) a1).f1⟩ : S117)).flatMap e117)] ⟨[(6, (.rf 1024 0 ((([] : List S117) ++ a0).length) 2 ((([] : List S117) ++ a0).length * 2)))], [(1024, (((([] : List S117) ++ a0).set a1.toNat (⟨(wrap64 ((at_ (([] : List S117) ++ a0) a1).f0 + 1)), (at_ (([] : List S117) ++ a0) a1).f1⟩ : S117)).flatMap e117))], [(0 : Int) ≤ a1 ∧ a1 < ((([] : List S117) ++ a0).length : Int), rdC prog 3 (((([] : List S117) ++ a0).flatMap e117).drop (0 + a1.toNat * 2 + 0)) = (I (at_ (([] : List S117) ++ a0) a1).f0), (([] : List S117) ++ a0).length * 2 = ((([] : List S117) ++ a0).flatMap e117).length ∧ 0 + a1.toNat * 2 + 0 + 1 ≤ ((([] : List S117) ++ a0).flatMap e117).length, (0 : Int) ≤ a1 ∧ a1 < ((([] : List S117) ++ a0).length : Int), V.un = V.un, spl ((([] : List S117) ++ a0).flatMap e117) (0 + a1.toNat * 2 + 0) [(I (wrap64 ((at_ (([] : List S117) ++ a0) a1).f0 + 1)))] = (((([] : List S117) ++ a0).set a1.toNat (⟨(wrap64 ((at_ (([] : List S117) ++ a0) a1).f0 + 1)), (at_ (([] : List S117) ++ a0) a1).f1⟩ : S117)).flatMap e117), (([] : List S117) ++ a0).length * 2 = ((([] : List S117) ++ a0).flatMap e117).length ∧ 0 + a1.toNat * 2 + 0 + 1 ≤ ((([] : List S117) ++ a0).flatMap e117).length], []⟩ [c_ 62, c_ 63] (alc ⟨c1, c5⟩ (alc (ldC0 e117_ok 0 (by decide) rfl c1 c5) (alc (okA e117_ok c1 c5 (by decide)) (alc ⟨c1, c5⟩ (alc rfl (alc (st_row e117_ok 0 c1 c5 (Nat.le_of_ble_eq_true rfl) rfl) (alc (okA e117_ok c1 c5 (by decide)) aln))))))) nocal ?_
            refine .eqs (env2 := [(6, (.rf 1024 0 (((([] : List S117) ++ a0).set a1.toNat (⟨(wrap64 ((at_ (([] : List S117) ++ a0) a1).f0 + 1)), (at_ (([] : List S117) ++ a0) a1).f1⟩ : S117)).length) 2 (((([] : List S117) ++ a0).set a1.toNat (⟨(wrap64 ((at_ (([] : List S117) ++ a0) a1).f0 + 1)), (at_ (([] : List S117) ++ a0) a1).f1⟩ : S117)).length * 2)))]) (H2 := [(1024, (((([] : List S117) ++ a0).set a1.toNat (⟨(wrap64 ((at_ (([] : List S117) ++ a0) a1).f0 + 1)), (at_ (([] : List S117) ++ a0) a1).f1⟩ : S117)).flatMap e117))]) (by first | (simp only [List.length_set]; done) | simp) (by first | rfl | (simp only [List.length_set]; done) | simp) ?_
            refine .reg' [4, 5] [] ⟨[(4, (.rf 1024 0 (((([] : List S117) ++ a0).set a1.toNat (⟨(wrap64 ((at_ (([] : List S117) ++ a0) a1).f0 + 1)), (at_ (([] : List S117) ++ a0) a1).f1⟩ : S117)).length) 2 (((([] : List S117) ++ a0).set a1.toNat (⟨(wrap64 ((at_ (([] : List S117) ++ a0) a1).f0 + 1)), (at_ (([] : List S117) ++ a0) a1).f1⟩ : S117)).length * 2))), (5, (B true))], [(1024, (((([] : List S117) ++ a0).set a1.toNat (⟨(wrap64 ((at_ (([] : List S117) ++ a0) a1).f0 + 1)), (at_ (([] : List S117) ++ a0) a1).f1⟩ : S117)).flatMap e117))], [], []⟩ [c_ 63] aln nocal ?_
            have h := Option.some.inj h
            subst h
            exact .fin' [] [(1024, 1024)] (.tp [(.rf 1024 0 (((([] : List S117) ++ a0).set a1.toNat (⟨(wrap64 ((at_ (([] : List S117) ++ a0) a1).f0 + 1)), (at_ (([] : List S117) ++ a0) a1).f1⟩ : S117)).length) 2 (((([] : List S117) ++ a0).set a1.toNat (⟨(wrap64 ((at_ (([] : List S117) ++ a0) a1).f0 + 1)), (at_ (([] : List S117) ++ a0) a1).f1⟩ : S117)).length * 2)), (B true)]) [] aln (shc 1024 (rowF e117_ok _) shn) (cnv_tp (a2c (.rf (memP_mem (p := (1024, 1024)) rfl)) (a2c (.z .s) a2n)))
          · rw [if_neg c5] at h
            cases h
        · rw [if_neg c4] at h
          cases h
    · rw [if_neg c2] at h
      cases h
  · rw [if_neg c1] at h
    cases h
/-! impl_Drive: function 39 -/
mutual
def impl_Drive.l0 : Nat → Int → (List Int) → Int → (List S117) → Int → Int → Option ((List S117) × Int)
 | 0, _, _, _, _, _, _ => none
 | k + 1, a0, a2, a3, x3, x4, x5 => (if x5 < (a2.length : Int) then (if 0 ≤ x5 then (if (at_ a2 x5) ≥ 0 then (if (wrap64 ((at_ a2 x5).tdiv (2 : Int))) < (x3.length : Int) then (if ((at_ a2 x5).tmod (2 : Int)) = 0 then ((impl_goOn.f k a0 x3 (wrap64 ((at_ a2 x5).tdiv (2 : Int))) a3).bind fun x6 => (impl_Drive.j1 k a0 a2 a3 x3 x4 x5 x6.1 x6.2)) else ((impl_drawUp.f x3 (wrap64 ((at_ a2 x5).tdiv (2 : Int)))).bind fun x9 => (impl_Drive.j1 k a0 a2 a3 x3 x4 x5 x9.1 x9.2))) else (impl_Drive.j1 k a0 a2 a3 x3 x4 x5 ([] : List S117) false)) else (impl_Drive.j1 k a0 a2 a3 x3 x4 x5 ([] : List S117) false)) else none) else (some (x3, x4)))
def impl_Drive.j1 : Nat → Int → (List Int) → Int → (List S117) → Int → Int → (List S117) → Bool → Option ((List S117) × Int)
 | 0, _, _, _, _, _, _, _, _ => none
 | k + 1, a0, a2, a3, x3, x4, x5, x7, x8 => (if x8 = true then (impl_Drive.l0 k a0 a2 a3 x7 x4 (wrap64 (x5 + 1))) else (impl_Drive.l0 k a0 a2 a3 x3 (wrap64 (x4 + 1)) (wrap64 (x5 + 1))))
end
def impl_Drive.f (k : Nat) (a0 : Int) (a1 : (List S117)) (a2 : (List Int)) (a3 : Int) : Option ((List S117) × Int) := ((impl_TrainsOk.f k a0 a1).bind fun x1 => (if x1 = true then ((impl_between.f a3 0 3).bind fun x2 => (if x2 = true then (if (a2.length : Int) > 300 then (some (([] : List S117), (-1))) else (if (([] : List S117).length + a1.length) * 16 ≤ 70368744177664 then (impl_Drive.l0 k a0 a2 a3 (([] : List S117) ++ a1) 0 0) else none)) else (some (([] : List S117), (-1))))) else (some (([] : List S117), (-1)))))
theorem impl_Drive.lab : ∀ k, (∀ (a0 : Int) (a2 : (List Int)) (a3 : Int) (x3 : (List S117)) (x4 : Int) (x5 : Int) (r : ((List S117) × Int)), impl_Drive.l0 k a0 a2 a3 x3 x4 x5 = some r → J prog (.run 39 [] [l_ 250, b_ 0, c_ 63] [(0, (I a0)), (3, (I a3)), (10, (.rf 1024 0 x3.length 2 (x3.length * 2))), (11, (I x4)), (33, (.sl true a2.length 1 (a2.flatMap encI))), (34, (I (a2.length : Int))), (35, (I x5))] [(1024, (x3.flatMap e117))] (.tp [(.rf 1024 0 r.1.length 2 (r.1.length * 2)), (I r.2)]) [(1024, (r.1.flatMap e117))])) ∧ (∀ (a0 : Int) (a2 : (List Int)) (a3 : Int) (x3 : (List S117)) (x4 : Int) (x5 : Int) (x7 : (List S117)) (x8 : Bool) (r : ((List S117) × Int)), impl_Drive.j1 k a0 a2 a3 x3 x4 x5 x7 x8 = some r → J prog (.run 39 [] [c_ 128206, c_ 128207, b_ 1, c_ 4007, l_ 250, b_ 0, c_ 63] [(0, (I a0)), (3, (I a3)), (10, (.rf 1024 0 x3.length 2 (x3.length * 2))), (11, (I x4)), (14, (.rf 1003077 0 x7.length 2 (x7.length * 2))), (15, (B x8)), (33, (.sl true a2.length 1 (a2.flatMap encI))), (34, (I (a2.length : Int))), (35, (I x5))] [(1024, (x3.flatMap e117)), (1003077, (x7.flatMap e117))] (.tp [(.rf 1024 0 r.1.length 2 (r.1.length * 2)), (I r.2)]) [(1024, (r.1.flatMap e117))]))
 | 0 => ⟨(by intro a0 a2 a3 x3 x4 x5 r h; unfold impl_Drive.l0 at h; cases h), (by intro a0 a2 a3 x3 x4 x5 x7 x8 r h; unfold impl_Drive.j1 at h; cases h)⟩
 | k + 1 => by
  obtain ⟨ih0, ih1⟩ := impl_Drive.lab k
  refine ⟨?_, ?_⟩
  · intro a0 a2 a3 x3 x4 x5 r h
    unfold impl_Drive.l0 at h
    refine .loop' [c_ 1000, c_ 1001, l_ 250, b_ 0, c_ 63] ?_
    refine .reg' [0, 3, 10, 11, 33, 34, 35, 36] [] ⟨[(0, (I a0)), (3, (I a3)), (10, (.rf 1024 0 x3.length 2 (x3.length * 2))), (11, (I x4)), (33, (.sl true a2.length 1 (a2.flatMap encI))), (34, (I (a2.length : Int))), (35, (I x5)), (36, (B (decide (x5 < (a2.length : Int)))))], [(1024, (x3.flatMap e117))], [], []⟩ [c_ 2002, c_ 2003, l_ 250, b_ 0, c_ 63] aln nocal ?_
    by_cases c5 : x5 < (a2.length : Int)
    · rw [if_pos c5] at h
      refine .cond' (.tmp 36) true [c_ 16024, c_ 16025, b_ 1, c_ 4007, l_ 250, b_ 0, c_ 63] (bT (dT c5)) ?_
      by_cases c6 : 0 ≤ x5
      · rw [if_pos c6] at h
        refine .reg' [0, 3, 10, 11, 13, 33, 34, 35] [.no, .v (I (at_ a2 x5))] ⟨[(0, (I a0)), (3, (I a3)), (10, (.rf 1024 0 x3.length 2 (x3.length * 2))), (11, (I x4)), (13, (I (at_ a2 x5))), (33, (.sl true a2.length 1 (a2.flatMap encI))), (34, (I (a2.length : Int))), (35, (I x5))], [(1024, (x3.flatMap e117))], [(0 : Int) ≤ x5 ∧ x5 < (a2.length : Int), rdC prog 3 ((a2.flatMap encI).drop (x5.toNat * 1)) = (I (at_ a2 x5)), 1 ≤ ((a2.flatMap encI).drop (x5.toNat * 1)).length], []⟩ [c_ 32050, c_ 32051, b_ 1, c_ 4007, l_ 250, b_ 0, c_ 63] (alc ⟨c6, c5⟩ (alc (ldC1 encI_ok rfl c6 c5) (alc (okI encI_ok c6 c5 (by decide)) aln))) nocal ?_
        refine .reg' [0, 3, 10, 11, 13, 14, 15, 33, 34, 35] [] ⟨[(0, (I a0)), (3, (I a3)), (10, (.rf 1024 0 x3.length 2 (x3.length * 2))), (11, (I x4)), (13, (I (at_ a2 x5))), (14, nilS), (15, (B false)), (33, (.sl true a2.length 1 (a2.flatMap encI))), (34, (I (a2.length : Int))), (35, (I x5))], [(1024, (x3.flatMap e117))], [], []⟩ [c_ 128204, c_ 128205, c_ 64103, b_ 1, c_ 4007, l_ 250, b_ 0, c_ 63] aln nocal ?_
        refine .nl' 2446 ?_
        refine .wk' [] [(2446, 2446), (1024, 1024)] [(0, (I a0)), (3, (I a3)), (10, (.rf 1024 0 x3.length 2 (x3.length * 2))), (11, (I x4)), (13, (I (at_ a2 x5))), (14, (.rf 2446 0 (([] : List S117).length) 2 (([] : List S117).length * 2))), (15, (B false)), (33, (.sl true a2.length 1 (a2.flatMap encI))), (34, (I (a2.length : Int))), (35, (I x5))] [(2446, (([] : List S117).flatMap e117)), (1024, (x3.flatMap e117))] (shc 2446 (rowF e117_ok _) (shc 1024 (rowF e117_ok _) shn)) (enc_ (.z .s) (enc_ (.z .s) (enc_ (.rf (memP_mem (p := (1024, 1024)) rfl)) (enc_ (.z .s) (enc_ (.z .s) (enc_ (.nl (memP_mem (p := (2446, 2446)) rfl) rfl) (enc_ (.z .s) (enc_ (.z (frz_sl encI_ok (fun h => h))) (enc_ (.z .s) (enc_ (.z .s) enn)))))))))) ?_
        by_cases c7 : (at_ a2 x5) ≥ 0
        · rw [if_pos c7] at h
          refine .reg' [0, 3, 10, 11, 13, 14, 15, 33, 34, 35, 47] [.no, .no, .v (B true)] ⟨[(0, (I a0)), (3, (I a3)), (10, (.rf 1024 0 x3.length 2 (x3.length * 2))), (11, (I x4)), (13, (I (at_ a2 x5))), (14, (.rf 2446 0 (([] : List S117).length) 2 (([] : List S117).length * 2))), (15, (B false)), (33, (.sl true a2.length 1 (a2.flatMap encI))), (34, (I (a2.length : Int))), (35, (I x5)), (47, (B (decide ((wrap64 ((at_ a2 x5).tdiv (2 : Int))) < (x3.length : Int)))))], [(2446, (([] : List S117).flatMap e117)), (1024, (x3.flatMap e117))], [(B (decide ((at_ a2 x5) ≥ 0)) : V) = B true, (2 : Int) ≠ 0], []⟩ [c_ 128205, c_ 64103, b_ 1, c_ 4007, l_ 250, b_ 0, c_ 63] (alc (bT (dT c7)) (alc (by decide) aln)) nocal ?_
          by_cases c8 : (wrap64 ((at_ a2 x5).tdiv (2 : Int))) < (x3.length : Int)
          · rw [if_pos c8] at h
            refine .cond' (.tmp 47) true [c_ 512820, c_ 512821, c_ 64103, b_ 1, c_ 4007, l_ 250, b_ 0, c_ 63] (bT (dT c8)) ?_
            refine .reg' [0, 3, 10, 11, 13, 33, 34, 35, 50] [] ⟨[(0, (I a0)), (3, (I a3)), (10, (.rf 1024 0 x3.length 2 (x3.length * 2))), (11, (I x4)), (13, (I (at_ a2 x5))), (33, (.sl true a2.length 1 (a2.flatMap encI))), (34, (I (a2.length : Int))), (35, (I x5)), (50, (B (((at_ a2 x5).tmod (2 : Int)) == 0)))], [(2446, (([] : List S117).flatMap e117)), (1024, (x3.flatMap e117))], [(2 : Int) ≠ 0], []⟩ [c_ 512821, c_ 64103, b_ 1, c_ 4007, l_ 250, b_ 0, c_ 63] (alc (by decide) aln) nocal ?_
            by_cases c9 : ((at_ a2 x5).tmod (2 : Int)) = 0
            · rw [if_pos c9] at h
              refine .cond' (.tmp 50) true [c_ 1025642, c_ 64103, b_ 1, c_ 4007, l_ 250, b_ 0, c_ 63] (bT (qT c9)) ?_
              obtain ⟨x6, hx6, h⟩ := Option.bind_eq_some_iff.mp h
              refine .reg' [0, 3, 10, 11, 14, 15, 33, 34, 35] [.no, .no, .no, .no, .no, .c ⟨87, [(I a0), (.sl true x3.length 2 (x3.flatMap e117)), (I (wrap64 ((at_ a2 x5).tdiv (2 : Int)))), (I a3)], [], (.tp [(.rf 1536 0 x6.1.length 2 (x6.1.length * 2)), (B x6.2)]), [(1536, (x6.1.flatMap e117))], [1024], [], [(1003077, 1536)], (.tp [(.rf 1003077 0 x6.1.length 2 (x6.1.length * 2)), (B x6.2)]), [(1003077, (x6.1.flatMap e117))]⟩] ⟨[(0, (I a0)), (3, (I a3)), (10, (.rf 1024 0 x3.length 2 (x3.length * 2))), (11, (I x4)), (14, (.rf 1003077 0 x6.1.length 2 (x6.1.length * 2))), (15, (B x6.2)), (33, (.sl true a2.length 1 (a2.flatMap encI))), (34, (I (a2.length : Int))), (35, (I x5))], [(2446, (([] : List S117).flatMap e117)), (1024, (x3.flatMap e117)), (1003077, (x6.1.flatMap e117))], [(2 : Int) ≠ 0, COK (hget [(2446, (([] : List S117).flatMap e117)), (1024, (x3.flatMap e117))]) [(I a0), (.rf 1024 0 x3.length 2 (x3.length * 2)), (I (wrap64 ((at_ a2 x5).tdiv (2 : Int)))), (I a3)] ⟨87, [(I a0), (.sl true x3.length 2 (x3.flatMap e117)), (I (wrap64 ((at_ a2 x5).tdiv (2 : Int)))), (I a3)], [], (.tp [(.rf 1536 0 x6.1.length 2 (x6.1.length * 2)), (B x6.2)]), [(1536, (x6.1.flatMap e117))], [1024], [], [(1003077, 1536)], (.tp [(.rf 1003077 0 x6.1.length 2 (x6.1.length * 2)), (B x6.2)]), [(1003077, (x6.1.flatMap e117))]⟩], [⟨87, [(I a0), (.sl true x3.length 2 (x3.flatMap e117)), (I (wrap64 ((at_ a2 x5).tdiv (2 : Int)))), (I a3)], [], (.tp [(.rf 1536 0 x6.1.length 2 (x6.1.length * 2)), (B x6.2)]), [(1536, (x6.1.flatMap e117))], [1024], [], [(1003077, 1536)], (.tp [(.rf 1003077 0 x6.1.length 2 (x6.1.length * 2)), (B x6.2)]), [(1003077, (x6.1.flatMap e117))]⟩]⟩ [c_ 128206, c_ 128207, b_ 1, c_ 4007, l_ 250, b_ 0, c_ 63] (alc (by decide) (alc (cokW false (a2c (.z .s) (a2c (.z (frz_rf e117_ok (by simp) rfl rfl (row_len e117_ok _).symm)) (a2c (.z .s) (a2c (.z .s) a2n)))) akn (akc (.inr rfl) akn) (bck_tp (a2c (.rf (memP_mem (p := (1003077, 1536)) rfl)) (a2c (.z .s) a2n))) (akc ⟨_, _, rfl, rfl, rowB e117_c _⟩ akn) (fun h => absurd h (by decide))) aln)) (acal (impl_goOn.J k a0 x3 (wrap64 ((at_ a2 x5).tdiv (2 : Int))) a3 _ hx6) nocal) ?_
              refine .wk' [] [(1024, 1024), (1003077, 1003077)] [(0, (I a0)), (3, (I a3)), (10, (.rf 1024 0 x3.length 2 (x3.length * 2))), (11, (I x4)), (14, (.rf 1003077 0 x6.1.length 2 (x6.1.length * 2))), (15, (B x6.2)), (33, (.sl true a2.length 1 (a2.flatMap encI))), (34, (I (a2.length : Int))), (35, (I x5))] [(1024, (x3.flatMap e117)), (1003077, (x6.1.flatMap e117))] (shc 1024 (rowF e117_ok _) (shc 1003077 (rowF e117_ok _) shn)) (enc_ (.z .s) (enc_ (.z .s) (enc_ (.rf (memP_mem (p := (1024, 1024)) rfl)) (enc_ (.z .s) (enc_ (.rf (memP_mem (p := (1003077, 1003077)) rfl)) (enc_ (.z .s) (enc_ (.z (frz_sl encI_ok (fun h => h))) (enc_ (.z .s) (enc_ (.z .s) enn))))))))) ?_
              exact ih1 a0 a2 a3 x3 x4 x5 x6.1 x6.2 _ h
            · rw [if_neg c9] at h
              refine .cond' (.tmp 50) false [c_ 1025643, c_ 64103, b_ 1, c_ 4007, l_ 250, b_ 0, c_ 63] (bF (qF c9)) ?_
              obtain ⟨x9, hx9, h⟩ := Option.bind_eq_some_iff.mp h
              refine .reg' [0, 3, 10, 11, 14, 15, 33, 34, 35] [.no, .no, .no, .c ⟨88, [(.sl true x3.length 2 (x3.flatMap e117)), (I (wrap64 ((at_ a2 x5).tdiv (2 : Int))))], [], (.tp [(.rf 1024 0 x9.1.length 2 (x9.1.length * 2)), (B x9.2)]), [(1024, (x9.1.flatMap e117))], [1024], [], [(1003331, 1024)], (.tp [(.rf 1003331 0 x9.1.length 2 (x9.1.length * 2)), (B x9.2)]), [(1003331, (x9.1.flatMap e117))]⟩] ⟨[(0, (I a0)), (3, (I a3)), (10, (.rf 1024 0 x3.length 2 (x3.length * 2))), (11, (I x4)), (14, (.rf 1003331 0 x9.1.length 2 (x9.1.length * 2))), (15, (B x9.2)), (33, (.sl true a2.length 1 (a2.flatMap encI))), (34, (I (a2.length : Int))), (35, (I x5))], [(2446, (([] : List S117).flatMap e117)), (1024, (x3.flatMap e117)), (1003331, (x9.1.flatMap e117))], [(2 : Int) ≠ 0, COK (hget [(2446, (([] : List S117).flatMap e117)), (1024, (x3.flatMap e117))]) [(.rf 1024 0 x3.length 2 (x3.length * 2)), (I (wrap64 ((at_ a2 x5).tdiv (2 : Int))))] ⟨88, [(.sl true x3.length 2 (x3.flatMap e117)), (I (wrap64 ((at_ a2 x5).tdiv (2 : Int))))], [], (.tp [(.rf 1024 0 x9.1.length 2 (x9.1.length * 2)), (B x9.2)]), [(1024, (x9.1.flatMap e117))], [1024], [], [(1003331, 1024)], (.tp [(.rf 1003331 0 x9.1.length 2 (x9.1.length * 2)), (B x9.2)]), [(1003331, (x9.1.flatMap e117))]⟩], [⟨88, [(.sl true x3.length 2 (x3.flatMap e117)), (I (wrap64 ((at_ a2 x5).tdiv (2 : Int))))], [], (.tp [(.rf 1024 0 x9.1.length 2 (x9.1.length * 2)), (B x9.2)]), [(1024, (x9.1.flatMap e117))], [1024], [], [(1003331, 1024)], (.tp [(.rf 1003331 0 x9.1.length 2 (x9.1.length * 2)), (B x9.2)]), [(1003331, (x9.1.flatMap e117))]⟩]⟩ [c_ 128206, c_ 128207, b_ 1, c_ 4007, l_ 250, b_ 0, c_ 63] (alc (by decide) (alc (cokW false (a2c (.z (frz_rf e117_ok (by simp) rfl rfl (row_len e117_ok _).symm)) (a2c (.z .s) a2n)) akn (akc (.inr rfl) akn) (bck_tp (a2c (.rf (memP_mem (p := (1003331, 1024)) rfl)) (a2c (.z .s) a2n))) (akc ⟨_, _, rfl, rfl, rowB e117_c _⟩ akn) (fun h => absurd h (by decide))) aln)) (acal (impl_drawUp.J x3 (wrap64 ((at_ a2 x5).tdiv (2 : Int))) _ hx9) nocal) ?_
              refine .wk' [] [(1024, 1024), (1003331, 1003077)] [(0, (I a0)), (3, (I a3)), (10, (.rf 1024 0 x3.length 2 (x3.length * 2))), (11, (I x4)), (14, (.rf 1003077 0 x9.1.length 2 (x9.1.length * 2))), (15, (B x9.2)), (33, (.sl true a2.length 1 (a2.flatMap encI))), (34, (I (a2.length : Int))), (35, (I x5))] [(1024, (x3.flatMap e117)), (1003077, (x9.1.flatMap e117))] (shc 1024 (rowF e117_ok _) (shc 1003331 (rowF e117_ok _) shn)) (enc_ (.z .s) (enc_ (.z .s) (enc_ (.rf (memP_mem (p := (1024, 1024)) rfl)) (enc_ (.z .s) (enc_ (.rf (memP_mem (p := (1003331, 1003077)) rfl)) (enc_ (.z .s) (enc_ (.z (frz_sl encI_ok (fun h => h))) (enc_ (.z .s) (enc_ (.z .s) enn))))))))) ?_
              exact ih1 a0 a2 a3 x3 x4 x5 x9.1 x9.2 _ h
          · rw [if_neg c8] at h
            refine .cond' (.tmp 47) false [c_ 128206, c_ 128207, b_ 1, c_ 4007, l_ 250, b_ 0, c_ 63] (bF (dF c8)) ?_
            refine .wk' [] [(1024, 1024), (2446, 1003077)] [(0, (I a0)), (3, (I a3)), (10, (.rf 1024 0 x3.length 2 (x3.length * 2))), (11, (I x4)), (14, (.rf 1003077 0 (([] : List S117).length) 2 (([] : List S117).length * 2))), (15, (B false)), (33, (.sl true a2.length 1 (a2.flatMap encI))), (34, (I (a2.length : Int))), (35, (I x5))] [(1024, (x3.flatMap e117)), (1003077, (([] : List S117).flatMap e117))] (shc 1024 (rowF e117_ok _) (shc 2446 (rowF e117_ok _) shn)) (enc_ (.z .s) (enc_ (.z .s) (enc_ (.rf (memP_mem (p := (1024, 1024)) rfl)) (enc_ (.z .s) (enc_ (.rf (memP_mem (p := (2446, 1003077)) rfl)) (enc_ (.z .s) (enc_ (.z (frz_sl encI_ok (fun h => h))) (enc_ (.z .s) (enc_ (.z .s) enn))))))))) ?_
            exact ih1 a0 a2 a3 x3 x4 x5 ([] : List S117) false _ h
        · rw [if_neg c7] at h
          refine .reg' [0, 3, 10, 11, 13, 14, 15, 33, 34, 35, 47] [.no, .no, .v (B false)] ⟨[(0, (I a0)), (3, (I a3)), (10, (.rf 1024 0 x3.length 2 (x3.length * 2))), (11, (I x4)), (13, (I (at_ a2 x5))), (14, (.rf 2446 0 (([] : List S117).length) 2 (([] : List S117).length * 2))), (15, (B false)), (33, (.sl true a2.length 1 (a2.flatMap encI))), (34, (I (a2.length : Int))), (35, (I x5)), (47, (B false))], [(2446, (([] : List S117).flatMap e117)), (1024, (x3.flatMap e117))], [(B (decide ((at_ a2 x5) ≥ 0)) : V) = B false], []⟩ [c_ 128205, c_ 64103, b_ 1, c_ 4007, l_ 250, b_ 0, c_ 63] (alc (bF (dF c7)) aln) nocal ?_
          refine .cond' (.tmp 47) false [c_ 128206, c_ 128207, b_ 1, c_ 4007, l_ 250, b_ 0, c_ 63] (rfl) ?_
          refine .wk' [] [(1024, 1024), (2446, 1003077)] [(0, (I a0)), (3, (I a3)), (10, (.rf 1024 0 x3.length 2 (x3.length * 2))), (11, (I x4)), (14, (.rf 1003077 0 (([] : List S117).length) 2 (([] : List S117).length * 2))), (15, (B false)), (33, (.sl true a2.length 1 (a2.flatMap encI))), (34, (I (a2.length : Int))), (35, (I x5))] [(1024, (x3.flatMap e117)), (1003077, (([] : List S117).flatMap e117))] (shc 1024 (rowF e117_ok _) (shc 2446 (rowF e117_ok _) shn)) (enc_ (.z .s) (enc_ (.z .s) (enc_ (.rf (memP_mem (p := (1024, 1024)) rfl)) (enc_ (.z .s) (enc_ (.rf (memP_mem (p := (2446, 1003077)) rfl)) (enc_ (.z .s) (enc_ (.z (frz_sl encI_ok (fun h => h))) (enc_ (.z .s) (enc_ (.z .s) enn))))))))) ?_
          exact ih1 a0 a2 a3 x3 x4 x5 ([] : List S117) false _ h
      · rw [if_neg c6] at h
        cases h
    · rw [if_neg c5] at h
      refine .cond' (.tmp 36) false [c_ 126, c_ 127] (bF (dF c5)) ?_
      refine .reg' [8, 9] [] ⟨[(8, (.rf 1024 0 x3.length 2 (x3.length * 2))), (9, (I x4))], [(1024, (x3.flatMap e117))], [], []⟩ [c_ 127] aln nocal ?_
      have h := Option.some.inj h
      subst h
      exact .fin' [] [(1024, 1024)] (.tp [(.rf 1024 0 x3.length 2 (x3.length * 2)), (I x4)]) [] aln (shc 1024 (rowF e117_ok _) shn) (cnv_tp (a2c (.rf (memP_mem (p := (1024, 1024)) rfl)) (a2c (.z .s) a2n)))
  · intro a0 a2 a3 x3 x4 x5 x7 x8 r h
    unfold impl_Drive.j1 at h
    refine .reg' [0, 3, 10, 11, 14, 33, 34, 35, 67] [] ⟨[(0, (I a0)), (3, (I a3)), (10, (.rf 1024 0 x3.length 2 (x3.length * 2))), (11, (I x4)), (14, (.rf 1003077 0 x7.length 2 (x7.length * 2))), (33, (.sl true a2.length 1 (a2.flatMap encI))), (34, (I (a2.length : Int))), (35, (I x5)), (67, (B x8))], [(1024, (x3.flatMap e117)), (1003077, (x7.flatMap e117))], [], []⟩ [c_ 128207, b_ 1, c_ 4007, l_ 250, b_ 0, c_ 63] aln nocal ?_
    by_cases c10 : x8 = true
    · rw [if_pos c10] at h
      refine .cond' (.tmp 67) true [c_ 256414, b_ 1, c_ 4007, l_ 250, b_ 0, c_ 63] (bT c10) ?_
      refine .reg' [0, 3, 10, 11, 33, 34, 35] [] ⟨[(0, (I a0)), (3, (I a3)), (10, (.rf 1003077 0 x7.length 2 (x7.length * 2))), (11, (I x4)), (33, (.sl true a2.length 1 (a2.flatMap encI))), (34, (I (a2.length : Int))), (35, (I x5))], [(1024, (x3.flatMap e117)), (1003077, (x7.flatMap e117))], [], []⟩ [c_ 4007, l_ 250, b_ 0, c_ 63] aln nocal ?_
      refine .reg' [0, 3, 10, 11, 33, 34, 35] [] ⟨[(0, (I a0)), (3, (I a3)), (10, (.rf 1003077 0 x7.length 2 (x7.length * 2))), (11, (I x4)), (33, (.sl true a2.length 1 (a2.flatMap encI))), (34, (I (a2.length : Int))), (35, (I (wrap64 (x5 + 1))))], [(1024, (x3.flatMap e117)), (1003077, (x7.flatMap e117))], [], []⟩ [l_ 250, b_ 0, c_ 63] aln nocal ?_
      refine .wk' [] [(1003077, 1024)] [(0, (I a0)), (3, (I a3)), (10, (.rf 1024 0 x7.length 2 (x7.length * 2))), (11, (I x4)), (33, (.sl true a2.length 1 (a2.flatMap encI))), (34, (I (a2.length : Int))), (35, (I (wrap64 (x5 + 1))))] [(1024, (x7.flatMap e117))] (shc 1003077 (rowF e117_ok _) shn) (enc_ (.z .s) (enc_ (.z .s) (enc_ (.rf (memP_mem (p := (1003077, 1024)) rfl)) (enc_ (.z .s) (enc_ (.z (frz_sl encI_ok (fun h => h))) (enc_ (.z .s) (enc_ (.z .s) enn))))))) ?_
      exact ih0 a0 a2 a3 x7 x4 (wrap64 (x5 + 1)) _ h
    · rw [if_neg c10] at h
      refine .cond' (.tmp 67) false [c_ 256415, b_ 1, c_ 4007, l_ 250, b_ 0, c_ 63] (bF (vF c10)) ?_
      refine .reg' [0, 3, 10, 11, 33, 34, 35] [] ⟨[(0, (I a0)), (3, (I a3)), (10, (.rf 1024 0 x3.length 2 (x3.length * 2))), (11, (I (wrap64 (x4 + 1)))), (33, (.sl true a2.length 1 (a2.flatMap encI))), (34, (I (a2.length : Int))), (35, (I x5))], [(1024, (x3.flatMap e117)), (1003077, (x7.flatMap e117))], [], []⟩ [c_ 4007, l_ 250, b_ 0, c_ 63] aln nocal ?_
      refine .reg' [0, 3, 10, 11, 33, 34, 35] [] ⟨[(0, (I a0)), (3, (I a3)), (10, (.rf 1024 0 x3.length 2 (x3.length * 2))), (11, (I (wrap64 (x4 + 1)))), (33, (.sl true a2.length 1 (a2.flatMap encI))), (34, (I (a2.length : Int))), (35, (I (wrap64 (x5 + 1))))], [(1024, (x3.flatMap e117)), (1003077, (x7.flatMap e117))], [], []⟩ [l_ 250, b_ 0, c_ 63] aln nocal ?_
      refine .wk' [] [(1024, 1024)] [(0, (I a0)), (3, (I a3)), (10, (.rf 1024 0 x3.length 2 (x3.length * 2))), (11, (I (wrap64 (x4 + 1)))), (33, (.sl true a2.length 1 (a2.flatMap encI))), (34, (I (a2.length : Int))), (35, (I (wrap64 (x5 + 1))))] [(1024, (x3.flatMap e117))] (shc 1024 (rowF e117_ok _) shn) (enc_ (.z .s) (enc_ (.z .s) (enc_ (.rf (memP_mem (p := (1024, 1024)) rfl)) (enc_ (.z .s) (enc_ (.z (frz_sl encI_ok (fun h => h))) (enc_ (.z .s) (enc_ (.z .s) enn))))))) ?_
      exact ih0 a0 a2 a3 x3 (wrap64 (x4 + 1)) (wrap64 (x5 + 1)) _ h
theorem impl_Drive.J (k : Nat) (a0 : Int) (a1 : (List S117)) (a2 : (List Int)) (a3 : Int) (r : ((List S117) × Int)) (h : impl_Drive.f k a0 a1 a2 a3 = some r) : J prog (.call 39 [(I a0), (.sl true a1.length 2 (a1.flatMap e117)), (.sl true a2.length 1 (a2.flatMap encI)), (I a3)] [] (.tp [(.rf 1024 0 r.1.length 2 (r.1.length * 2)), (I r.2)]) [(1024, (r.1.flatMap e117))]) := by
  unfold impl_Drive.f at h
  obtain ⟨ih0, ih1⟩ := impl_Drive.lab k
  refine .call' [c_ 2, c_ 3] ?_
  refine .reg' [0, 1, 2, 3] [] ⟨[(0, (I a0)), (1, (.sl true a1.length 2 (a1.flatMap e117))), (2, (.sl true a2.length 1 (a2.flatMap encI))), (3, (I a3))], [], [], []⟩ [c_ 12, c_ 13, c_ 7] aln nocal ?_
  obtain ⟨x1, hx1, h⟩ := Option.bind_eq_some_iff.mp h
  by_cases c1 : x1 = true
  · rw [if_pos c1] at h
    obtain ⟨x2, hx2, h⟩ := Option.bind_eq_some_iff.mp h
    by_cases c2 : x2 = true
    · rw [if_pos c2] at h
      refine .reg' [0, 1, 2, 3, 29] [.no, .no, .c ⟨86, [(I a0), (.sl true a1.length 2 (a1.flatMap e117))], [], (B x1), [], [], [], [], (B x1), []⟩, .no, .v (B false), .no, .c ⟨57, [(I a3), (I 0), (I 3)], [], (B x2), [], [], [], [], (B x2), []⟩, .no, .no, .v (B false)] ⟨[(0, (I a0)), (1, (.sl true a1.length 2 (a1.flatMap e117))), (2, (.sl true a2.length 1 (a2.flatMap encI))), (3, (I a3)), (29, (B (decide ((a2.length : Int) > 300))))], [], [COK (hget []) [(I a0), (.sl true a1.length 2 (a1.flatMap e117))] ⟨86, [(I a0), (.sl true a1.length 2 (a1.flatMap e117))], [], (B x1), [], [], [], [], (B x1), []⟩, (B (!x1) : V) = B false, COK (hget []) [(I a3), (I 0), (I 3)] ⟨57, [(I a3), (I 0), (I 3)], [], (B x2), [], [], [], [], (B x2), []⟩, (B (!x2) : V) = B false], [⟨86, [(I a0), (.sl true a1.length 2 (a1.flatMap e117))], [], (B x1), [], [], [], [], (B x1), []⟩, ⟨57, [(I a3), (I 0), (I 3)], [], (B x2), [], [], [], [], (B x2), []⟩]⟩ [c_ 13, c_ 7] (alc (cok0 false (a2c (.z .s) (a2c (.z (frz_sl e117_ok (fun h => h))) a2n)) (.z .s) (fun h => absurd h (by decide))) (alc (bF (nF c1)) (alc (cok0 false (a2c (.z .s) (a2c (.z .s) (a2c (.z .s) a2n))) (.z .s) (fun h => absurd h (by decide))) (alc (bF (nF c2)) aln)))) (acal (impl_TrainsOk.J k a0 a1 _ hx1) (acal (impl_between.J a3 0 3 _ hx2) nocal)) ?_
      by_cases c3 : (a2.length : Int) > 300
      · rw [if_pos c3] at h
        refine .cond' (.tmp 29) true [c_ 52, c_ 53, c_ 7] (bT (dT c3)) ?_
        refine .reg' [8, 9] [] ⟨[(8, nilS), (9, (I (-1)))], [], [], []⟩ [c_ 53, c_ 7] aln nocal ?_
        have h := Option.some.inj h
        subst h
        refine .nl' 1024 ?_
        exact .fin' [] [(1024, 1024)] (.tp [nilS, (I (-1))]) [] aln (shc 1024 (rowF e117_ok _) shn) (cnv_tp (a2c (.nl (memP_mem (p := (1024, 1024)) rfl) rfl) (a2c (.z .s) a2n)))
      · rw [if_neg c3] at h
        refine .cond' (.tmp 29) false [c_ 14, c_ 15] (bF (dF c3)) ?_
        by_cases c4 : (([] : List S117).length + a1.length) * 16 ≤ 70368744177664
        · rw [if_pos c4] at h
          refine .reg' [0, 2, 3, 10] [.no, .no, .w (.rf 1024 0 ((([] : List S117) ++ a1).length) 2 ((([] : List S117) ++ a1).length * 2)) ((([] : List S117) ++ a1).flatMap e117)] ⟨[(0, (I a0)), (2, (.sl true a2.length 1 (a2.flatMap encI))), (3, (I a3)), (10, (.rf 1024 0 ((([] : List S117) ++ a1).length) 2 ((([] : List S117) ++ a1).length * 2)))], [(1024, ((([] : List S117) ++ a1).flatMap e117))], [V.rf 1024 0 (([] : List S117).length + a1.length) 2 (([] : List S117).length * 2 + a1.length * 2) = (.rf 1024 0 ((([] : List S117) ++ a1).length) 2 ((([] : List S117) ++ a1).length * 2)), ([] : List S117).flatMap e117 ++ (a1.flatMap e117) = ((([] : List S117) ++ a1).flatMap e117), True ∧ ([] : List S117).length * 2 = (([] : List S117).flatMap e117).length ∧ ([] : List S117).length * 2 = (([] : List S117).flatMap e117).length ∧ (([] : List S117).length + a1.length) * 16 ≤ 70368744177664], []⟩ [c_ 30, c_ 31] (alc (apV rfl) (alc apS (alc (apOS e117_ok c4) aln))) nocal ?_
          refine .reg' [0, 2, 3, 10, 11] [] ⟨[(0, (I a0)), (2, (.sl true a2.length 1 (a2.flatMap encI))), (3, (I a3)), (10, (.rf 1024 0 ((([] : List S117) ++ a1).length) 2 ((([] : List S117) ++ a1).length * 2))), (11, (I 0))], [(1024, ((([] : List S117) ++ a1).flatMap e117))], [], []⟩ [c_ 124, c_ 125, c_ 63] aln nocal ?_
          refine .reg' [0, 3, 10, 11, 33, 34, 35] [] ⟨[(0, (I a0)), (3, (I a3)), (10, (.rf 1024 0 ((([] : List S117) ++ a1).length) 2 ((([] : List S117) ++ a1).length * 2))), (11, (I 0)), (33, (.sl true a2.length 1 (a2.flatMap encI))), (34, (I (a2.length : Int))), (35, (I 0))], [(1024, ((([] : List S117) ++ a1).flatMap e117))], [], []⟩ [l_ 250, b_ 0, c_ 63] aln nocal ?_
          exact ih0 a0 a2 a3 (([] : List S117) ++ a1) 0 0 _ h
        · rw [if_neg c4] at h
          cases h
    · rw [if_neg c2] at h
      refine .reg' [0, 1, 2, 3, 29] [.no, .no, .c ⟨86, [(I a0), (.sl true a1.length 2 (a1.flatMap e117))], [], (B x1), [], [], [], [], (B x1), []⟩, .no, .v (B false), .no, .c ⟨57, [(I a3), (I 0), (I 3)], [], (B x2), [], [], [], [], (B x2), []⟩, .no, .no, .v (B true)] ⟨[(0, (I a0)), (1, (.sl true a1.length 2 (a1.flatMap e117))), (2, (.sl true a2.length 1 (a2.flatMap encI))), (3, (I a3)), (29, (B true))], [], [COK (hget []) [(I a0), (.sl true a1.length 2 (a1.flatMap e117))] ⟨86, [(I a0), (.sl true a1.length 2 (a1.flatMap e117))], [], (B x1), [], [], [], [], (B x1), []⟩, (B (!x1) : V) = B false, COK (hget []) [(I a3), (I 0), (I 3)] ⟨57, [(I a3), (I 0), (I 3)], [], (B x2), [], [], [], [], (B x2), []⟩, (B (!x2) : V) = B true], [⟨86, [(I a0), (.sl true a1.length 2 (a1.flatMap e117))], [], (B x1), [], [], [], [], (B x1), []⟩, ⟨57, [(I a3), (I 0), (I 3)], [], (B x2), [], [], [], [], (B x2), []⟩]⟩ [c_ 13, c_ 7] (alc (cok0 false (a2c (.z .s) (a2c (.z (frz_sl e117_ok (fun h => h))) a2n)) (.z .s) (fun h => absurd h (by decide))) (alc (bF (nF c1)) (alc (cok0 false (a2c (.z .s) (a2c (.z .s) (a2c (.z .s) a2n))) (.z .s) (fun h => absurd h (by decide))) (alc (bT (nT (vF c2))) aln)))) (acal (impl_TrainsOk.J k a0 a1 _ hx1) (acal (impl_between.J a3 0 3 _ hx2) nocal)) ?_
      refine .cond' (.tmp 29) true [c_ 52, c_ 53, c_ 7] (rfl) ?_
      refine .reg' [8, 9] [] ⟨[(8, nilS), (9, (I (-1)))], [], [], []⟩ [c_ 53, c_ 7] aln nocal ?_
      have h := Option.some.inj h
      subst h
      refine .nl' 1024 ?_
      exact .fin' [] [(1024, 1024)] (.tp [nilS, (I (-1))]) [] aln (shc 1024 (rowF e117_ok _) shn) (cnv_tp (a2c (.nl (memP_mem (p := (1024, 1024)) rfl) rfl) (a2c (.z .s) a2n)))
  · rw [if_neg c1] at h
    refine .reg' [0, 1, 2, 3, 29] [.no, .no, .c ⟨86, [(I a0), (.sl true a1.length 2 (a1.flatMap e117))], [], (B x1), [], [], [], [], (B x1), []⟩, .no, .v (B true)] ⟨[(0, (I a0)), (1, (.sl true a1.length 2 (a1.flatMap e117))), (2, (.sl true a2.length 1 (a2.flatMap encI))), (3, (I a3)), (29, (B true))], [], [COK (hget []) [(I a0), (.sl true a1.length 2 (a1.flatMap e117))] ⟨86, [(I a0), (.sl true a1.length 2 (a1.flatMap e117))], [], (B x1), [], [], [], [], (B x1), []⟩, (B (!x1) : V) = B true], [⟨86, [(I a0), (.sl true a1.length 2 (a1.flatMap e117))], [], (B x1), [], [], [], [], (B x1), []⟩]⟩ [c_ 13, c_ 7] (alc (cok0 false (a2c (.z .s) (a2c (.z (frz_sl e117_ok (fun h => h))) a2n)) (.z .s) (fun h => absurd h (by decide))) (alc (bT (nT (vF c1))) aln)) (acal (impl_TrainsOk.J k a0 a1 _ hx1) nocal) ?_
    refine .cond' (.tmp 29) true [c_ 52, c_ 53, c_ 7] (rfl) ?_
    refine .reg' [8, 9] [] ⟨[(8, nilS), (9, (I (-1)))], [], [], []⟩ [c_ 53, c_ 7] aln nocal ?_
    have h := Option.some.inj h
    subst h
    refine .nl' 1024 ?_
    exact .fin' [] [(1024, 1024)] (.tp [nilS, (I (-1))]) [] aln (shc 1024 (rowF e117_ok _) shn) (cnv_tp (a2c (.nl (memP_mem (p := (1024, 1024)) rfl) rfl) (a2c (.z .s) a2n)))
/-! laws_eqSpan: function 89 -/
def laws_eqSpan.f (a0 : S117) (a1 : S117) : Option Bool := (if a0.f0 = a1.f0 then (if a0.f1 = a1.f1 then (some true) else (some false)) else (some false))
theorem laws_eqSpan.J (a0 : S117) (a1 : S117) (r : Bool) (h : laws_eqSpan.f a0 a1 = some r) : J prog (.call 89 [(.ag [(I a0.f0), (I a0.f1)]), (.ag [(I a1.f0), (I a1.f1)])] [] (B r) []) := by
  unfold laws_eqSpan.f at h
  refine .call' [c_ 2, c_ 3] ?_
  refine .reg' [2, 3] [] ⟨[(2, (.pt 256 0 2)), (3, (.pt 257 0 2))], [(256, [(I a0.f0), (I a0.f1)]), (257, [(I a1.f0), (I a1.f1)])], [], []⟩ [c_ 12, c_ 13, c_ 7] aln nocal ?_
  refine .reg' [2, 3, 9] [] ⟨[(2, (.pt 256 0 2)), (3, (.pt 257 0 2)), (9, (B (!(a0.f0 == a1.f0))))], [(256, [(I a0.f0), (I a0.f1)]), (257, [(I a1.f0), (I a1.f1)])], [2 = 2 ∧ 0 + 1 ≤ 2, 2 = 2 ∧ 0 + 1 ≤ 2], []⟩ [c_ 13, c_ 7] (alc ⟨rfl, by decide⟩ (alc ⟨rfl, by decide⟩ aln)) nocal ?_
  by_cases c1 : a0.f0 = a1.f0
  · rw [if_pos c1] at h
    refine .cond' (.tmp 9) false [c_ 28, c_ 29, c_ 15] (bF (nF (qT c1))) ?_
    refine .reg' [14] [] ⟨[(14, (B (!(a0.f1 == a1.f1))))], [(256, [(I a0.f0), (I a0.f1)]), (257, [(I a1.f0), (I a1.f1)])], [2 = 2 ∧ 1 + 1 ≤ 2, 2 = 2 ∧ 1 + 1 ≤ 2], []⟩ [c_ 29, c_ 15] (alc ⟨rfl, by decide⟩ (alc ⟨rfl, by decide⟩ aln)) nocal ?_
    by_cases c2 : a0.f1 = a1.f1
    · rw [if_pos c2] at h
      refine .cond' (.tmp 14) false [c_ 30, c_ 31] (bF (nF (qT c2))) ?_
      refine .reg' [4] [] ⟨[(4, (B true))], [(256, [(I a0.f0), (I a0.f1)]), (257, [(I a1.f0), (I a1.f1)])], [], []⟩ [c_ 31] aln nocal ?_
      have h := Option.some.inj h
      subst h
      exact .fin0 [] (B true) [] aln (.z .s)
    · rw [if_neg c2] at h
      refine .cond' (.tmp 14) true [c_ 116, c_ 117, c_ 15] (bT (nT (qF c2))) ?_
      refine .reg' [4] [] ⟨[(4, (B false))], [(256, [(I a0.f0), (I a0.f1)]), (257, [(I a1.f0), (I a1.f1)])], [], []⟩ [c_ 117, c_ 15] aln nocal ?_
      have h := Option.some.inj h
      subst h
      exact .fin0 [] (B false) [] aln (.z .s)
  · rw [if_neg c1] at h
    refine .cond' (.tmp 9) true [c_ 52, c_ 53, c_ 7] (bT (nT (qF c1))) ?_
    refine .reg' [4] [] ⟨[(4, (B false))], [(256, [(I a0.f0), (I a0.f1)]), (257, [(I a1.f0), (I a1.f1)])], [], []⟩ [c_ 53, c_ 7] aln nocal ?_
    have h := Option.some.inj h
    subst h
    exact .fin0 [] (B false) [] aln (.z .s)
/-! laws_eqSpanS: function 40 -/
def laws_eqSpanS.l0 : Nat → (List S117) → (List S117) → Int → Option Bool
 | 0, _, _, _ => none
 | k + 1, a0, a1, x1 => (if x1 < (a0.length : Int) then (if 0 ≤ x1 then (if x1 < (a1.length : Int) then ((laws_eqSpan.f (at_ a0 x1) (at_ a1 x1)).bind fun x2 => (if x2 = true then (laws_eqSpanS.l0 k a0 a1 (wrap64 (x1 + 1))) else (some false))) else none) else none) else (some true))
def laws_eqSpanS.f (k : Nat) (a0 : (List S117)) (a1 : (List S117)) : Option Bool := (if (a0.length : Int) = (a1.length : Int) then (laws_eqSpanS.l0 k a0 a1 0) else (some false))
theorem laws_eqSpanS.lab : ∀ k, (∀ (a0 : (List S117)) (a1 : (List S117)) (x1 : Int) (r : Bool), laws_eqSpanS.l0 k a0 a1 x1 = some r → J prog (.run 40 [] [l_ 58, b_ 0, c_ 15] [(0, (.sl true a0.length 2 (a0.flatMap e117))), (1, (.sl true a1.length 2 (a1.flatMap e117))), (5, (I x1))] [] (B r) []))
 | 0 => (by intro a0 a1 x1 r h; unfold laws_eqSpanS.l0 at h; cases h)
 | k + 1 => by
  have ih := laws_eqSpanS.lab k
  have ih0 := ih
  · intro a0 a1 x1 r h
    unfold laws_eqSpanS.l0 at h
    refine .loop' [c_ 464, c_ 465, c_ 233, l_ 58, b_ 0, c_ 15] ?_
    refine .reg' [0, 1, 5, 14] [] ⟨[(0, (.sl true a0.length 2 (a0.flatMap e117))), (1, (.sl true a1.length 2 (a1.flatMap e117))), (5, (I x1)), (14, (B (decide (x1 < (a0.length : Int)))))], [], [], []⟩ [c_ 465, c_ 233, l_ 58, b_ 0, c_ 15] aln nocal ?_
    by_cases c2 : x1 < (a0.length : Int)
    · rw [if_pos c2] at h
      refine .cond' (.tmp 14) true [c_ 1864, c_ 1865, b_ 1, c_ 467, l_ 58, b_ 0, c_ 15] (bT (dT c2)) ?_
      by_cases c3 : 0 ≤ x1
      · rw [if_pos c3] at h
        by_cases c4 : x1 < (a1.length : Int)
        · rw [if_pos c4] at h
          obtain ⟨x2, hx2, h⟩ := Option.bind_eq_some_iff.mp h
          refine .reg' [0, 1, 5, 26] [.no, .no, .no, .v (.ag [(I (at_ a0 x1).f0), (I (at_ a0 x1).f1)]), .no, .no, .no, .v (.ag [(I (at_ a1 x1).f0), (I (at_ a1 x1).f1)]), .c ⟨89, [(.ag [(I (at_ a0 x1).f0), (I (at_ a0 x1).f1)]), (.ag [(I (at_ a1 x1).f0), (I (at_ a1 x1).f1)])], [], (B x2), [], [], [], [], (B x2), []⟩] ⟨[(0, (.sl true a0.length 2 (a0.flatMap e117))), (1, (.sl true a1.length 2 (a1.flatMap e117))), (5, (I x1)), (26, (B (!x2)))], [], [(0 : Int) ≤ x1 ∧ x1 < (a0.length : Int), rdC prog 118 ((a0.flatMap e117).drop (x1.toNat * 2)) = (.ag [(I (at_ a0 x1).f0), (I (at_ a0 x1).f1)]), 2 ≤ ((a0.flatMap e117).drop (x1.toNat * 2)).length, (0 : Int) ≤ x1 ∧ x1 < (a1.length : Int), rdC prog 118 ((a1.flatMap e117).drop (x1.toNat * 2)) = (.ag [(I (at_ a1 x1).f0), (I (at_ a1 x1).f1)]), 2 ≤ ((a1.flatMap e117).drop (x1.toNat * 2)).length, COK (hget []) [(.ag [(I (at_ a0 x1).f0), (I (at_ a0 x1).f1)]), (.ag [(I (at_ a1 x1).f0), (I (at_ a1 x1).f1)])] ⟨89, [(.ag [(I (at_ a0 x1).f0), (I (at_ a0 x1).f1)]), (.ag [(I (at_ a1 x1).f0), (I (at_ a1 x1).f1)])], [], (B x2), [], [], [], [], (B x2), []⟩], [⟨89, [(.ag [(I (at_ a0 x1).f0), (I (at_ a0 x1).f1)]), (.ag [(I (at_ a1 x1).f0), (I (at_ a1 x1).f1)])], [], (B x2), [], [], [], [], (B x2), []⟩]⟩ [c_ 1865, b_ 1, c_ 467, l_ 58, b_ 0, c_ 15] (alc ⟨c3, c2⟩ (alc (ldA e117_ok rfl rfl c3 c2) (alc (okI e117_ok c3 c2 (by decide)) (alc ⟨c3, c4⟩ (alc (ldA e117_ok rfl rfl c3 c4) (alc (okI e117_ok c3 c4 (by decide)) (alc (cok0 false (a2c (.z (frz_ag (a2c .s (a2c .s a2n)))) (a2c (.z (frz_ag (a2c .s (a2c .s a2n)))) a2n)) (.z .s) (fun h => absurd h (by decide))) aln))))))) (acal (laws_eqSpan.J (at_ a0 x1) (at_ a1 x1) _ hx2) nocal) ?_
          by_cases c5 : x2 = true
          · rw [if_pos c5] at h
            refine .cond' (.tmp 26) false [c_ 467, l_ 58, b_ 0, c_ 15] (bF (nF c5)) ?_
            refine .reg' [0, 1, 5] [] ⟨[(0, (.sl true a0.length 2 (a0.flatMap e117))), (1, (.sl true a1.length 2 (a1.flatMap e117))), (5, (I (wrap64 (x1 + 1))))], [], [], []⟩ [l_ 58, b_ 0, c_ 15] aln nocal ?_
            exact ih0 a0 a1 (wrap64 (x1 + 1)) _ h
          · rw [if_neg c5] at h
            refine .cond' (.tmp 26) true [c_ 7460, c_ 7461, b_ 1, c_ 467, l_ 58, b_ 0, c_ 15] (bT (nT (vF c5))) ?_
            refine .reg' [4] [] ⟨[(4, (B false))], [], [], []⟩ [c_ 7461, b_ 1, c_ 467, l_ 58, b_ 0, c_ 15] aln nocal ?_
            have h := Option.some.inj h
            subst h
            exact .fin0 [] (B false) [] aln (.z .s)
        · rw [if_neg c4] at h
          cases h
      · rw [if_neg c3] at h
        cases h
    · rw [if_neg c2] at h
      refine .cond' (.tmp 14) false [c_ 30, c_ 31] (bF (dF c2)) ?_
      refine .reg' [4] [] ⟨[(4, (B true))], [], [], []⟩ [c_ 31] aln nocal ?_
      have h := Option.some.inj h
      subst h
      exact .fin0 [] (B true) [] aln (.z .s)
theorem laws_eqSpanS.J (k : Nat) (a0 : (List S117)) (a1 : (List S117)) (r : Bool) (h : laws_eqSpanS.f k a0 a1 = some r) : J prog (.call 40 [(.sl true a0.length 2 (a0.flatMap e117)), (.sl true a1.length 2 (a1.flatMap e117))] [] (B r) []) := by
  unfold laws_eqSpanS.f at h
  have ih0 := laws_eqSpanS.lab k
  refine .call' [c_ 2, c_ 3] ?_
  refine .reg' [0, 1] [] ⟨[(0, (.sl true a0.length 2 (a0.flatMap e117))), (1, (.sl true a1.length 2 (a1.flatMap e117)))], [], [], []⟩ [c_ 12, c_ 13, c_ 7] aln nocal ?_
  refine .reg' [0, 1, 10] [] ⟨[(0, (.sl true a0.length 2 (a0.flatMap e117))), (1, (.sl true a1.length 2 (a1.flatMap e117))), (10, (B (!((a0.length : Int) == (a1.length : Int)))))], [], [], []⟩ [c_ 13, c_ 7] aln nocal ?_
  by_cases c1 : (a0.length : Int) = (a1.length : Int)
  · rw [if_pos c1] at h
    refine .cond' (.tmp 10) false [c_ 28, c_ 29, c_ 15] (bF (nF (qT c1))) ?_
    refine .reg' [0, 1, 5] [] ⟨[(0, (.sl true a0.length 2 (a0.flatMap e117))), (1, (.sl true a1.length 2 (a1.flatMap e117))), (5, (I 0))], [], [], []⟩ [l_ 58, b_ 0, c_ 15] aln nocal ?_
    exact ih0 a0 a1 0 _ h
  · rw [if_neg c1] at h
    refine .cond' (.tmp 10) true [c_ 52, c_ 53, c_ 7] (bT (nT (qF c1))) ?_
    refine .reg' [4] [] ⟨[(4, (B false))], [], [], []⟩ [c_ 53, c_ 7] aln nocal ?_
    have h := Option.some.inj h
    subst h
    exact .fin0 [] (B false) [] aln (.z .s)
/-! laws_eqIntS: function 41 -/
def laws_eqIntS.l0 : Nat → (List Int) → (List Int) → Int → Option Bool
 | 0, _, _, _ => none
 | k + 1, a0, a1, x1 => (if x1 < (a0.length : Int) then (if 0 ≤ x1 then (if x1 < (a1.length : Int) then (if (at_ a0 x1) = (at_ a1 x1) then (laws_eqIntS.l0 k a0 a1 (wrap64 (x1 + 1))) else (some false)) else none) else none) else (some true))
def laws_eqIntS.f (k : Nat) (a0 : (List Int)) (a1 : (List Int)) : Option Bool := (if (a0.length : Int) = (a1.length : Int) then (laws_eqIntS.l0 k a0 a1 0) else (some false))
theorem laws_eqIntS.lab : ∀ k, (∀ (a0 : (List Int)) (a1 : (List Int)) (x1 : Int) (r : Bool), laws_eqIntS.l0 k a0 a1 x1 = some r → J prog (.run 41 [] [l_ 58, b_ 0, c_ 15] [(0, (.sl true a0.length 1 (a0.flatMap encI))), (1, (.sl true a1.length 1 (a1.flatMap encI))), (5, (I x1))] [] (B r) []))
 | 0 => (by intro a0 a1 x1 r h; unfold laws_eqIntS.l0 at h; cases h)
 | k + 1 => by
  have ih := laws_eqIntS.lab k
  have ih0 := ih
  · intro a0 a1 x1 r h
    unfold laws_eqIntS.l0 at h
    refine .loop' [c_ 464, c_ 465, c_ 233, l_ 58, b_ 0, c_ 15] ?_
    refine .reg' [0, 1, 5, 14] [] ⟨[(0, (.sl true a0.length 1 (a0.flatMap encI))), (1, (.sl true a1.length 1 (a1.flatMap encI))), (5, (I x1)), (14, (B (decide (x1 < (a0.length : Int)))))], [], [], []⟩ [c_ 465, c_ 233, l_ 58, b_ 0, c_ 15] aln nocal ?_
    by_cases c2 : x1 < (a0.length : Int)
    · rw [if_pos c2] at h
      refine .cond' (.tmp 14) true [c_ 1864, c_ 1865, b_ 1, c_ 467, l_ 58, b_ 0, c_ 15] (bT (dT c2)) ?_
      by_cases c3 : 0 ≤ x1
      · rw [if_pos c3] at h
        by_cases c4 : x1 < (a1.length : Int)
        · rw [if_pos c4] at h
          refine .reg' [0, 1, 5, 25] [.no, .no, .no, .v (I (at_ a0 x1)), .no, .no, .no, .v (I (at_ a1 x1))] ⟨[(0, (.sl true a0.length 1 (a0.flatMap encI))), (1, (.sl true a1.length 1 (a1.flatMap encI))), (5, (I x1)), (25, (B (!((at_ a0 x1) == (at_ a1 x1)))))], [], [(0 : Int) ≤ x1 ∧ x1 < (a0.length : Int), rdC prog 3 ((a0.flatMap encI).drop (x1.toNat * 1)) = (I (at_ a0 x1)), 1 ≤ ((a0.flatMap encI).drop (x1.toNat * 1)).length, (0 : Int) ≤ x1 ∧ x1 < (a1.length : Int), rdC prog 3 ((a1.flatMap encI).drop (x1.toNat * 1)) = (I (at_ a1 x1)), 1 ≤ ((a1.flatMap encI).drop (x1.toNat * 1)).length], []⟩ [c_ 1865, b_ 1, c_ 467, l_ 58, b_ 0, c_ 15] (alc ⟨c3, c2⟩ (alc (ldC1 encI_ok rfl c3 c2) (alc (okI encI_ok c3 c2 (by decide)) (alc ⟨c3, c4⟩ (alc (ldC1 encI_ok rfl c3 c4) (alc (okI encI_ok c3 c4 (by decide)) aln)))))) nocal ?_
          by_cases c5 : (at_ a0 x1) = (at_ a1 x1)
          · rw [if_pos c5] at h
            refine .cond' (.tmp 25) false [c_ 467, l_ 58, b_ 0, c_ 15] (bF (nF (qT c5))) ?_
            refine .reg' [0, 1, 5] [] ⟨[(0, (.sl true a0.length 1 (a0.flatMap encI))), (1, (.sl true a1.length 1 (a1.flatMap encI))), (5, (I (wrap64 (x1 + 1))))], [], [], []⟩ [l_ 58, b_ 0, c_ 15] aln nocal ?_
            exact ih0 a0 a1 (wrap64 (x1 + 1)) _ h
          · rw [if_neg c5] at h
            refine .cond' (.tmp 25) true [c_ 7460, c_ 7461, b_ 1, c_ 467, l_ 58, b_ 0, c_ 15] (bT (nT (qF c5))) ?_
            refine .reg' [4] [] ⟨[(4, (B false))], [], [], []⟩ [c_ 7461, b_ 1, c_ 467, l_ 58, b_ 0, c_ 15] aln nocal ?_
            have h := Option.some.inj h
            subst h
            exact .fin0 [] (B false) [] aln (.z .s)
        · rw [if_neg c4] at h
          cases h
      · rw [if_neg c3] at h
        cases h
    · rw [if_neg c2] at h
      refine .cond' (.tmp 14) false [c_ 30, c_ 31] (bF (dF c2)) ?_
      refine .reg' [4] [] ⟨[(4, (B true))], [], [], []⟩ [c_ 31] aln nocal ?_
      have h := Option.some.inj h
      subst h
      exact .fin0 [] (B true) [] aln (.z .s)
theorem laws_eqIntS.J (k : Nat) (a0 : (List Int)) (a1 : (List Int)) (r : Bool) (h : laws_eqIntS.f k a0 a1 = some r) : J prog (.call 41 [(.sl true a0.length 1 (a0.flatMap encI)), (.sl true a1.length 1 (a1.flatMap encI))] [] (B r) []) := by
  unfold laws_eqIntS.f at h
  have ih0 := laws_eqIntS.lab k
  refine .call' [c_ 2, c_ 3] ?_
  refine .reg' [0, 1] [] ⟨[(0, (.sl true a0.length 1 (a0.flatMap encI))), (1, (.sl true a1.length 1 (a1.flatMap encI)))], [], [], []⟩ [c_ 12, c_ 13, c_ 7] aln nocal ?_
  refine .reg' [0, 1, 10] [] ⟨[(0, (.sl true a0.length 1 (a0.flatMap encI))), (1, (.sl true a1.length 1 (a1.flatMap encI))), (10, (B (!((a0.length : Int) == (a1.length : Int)))))], [], [], []⟩ [c_ 13, c_ 7] aln nocal ?_
  by_cases c1 : (a0.length : Int) = (a1.length : Int)
  · rw [if_pos c1] at h
    refine .cond' (.tmp 10) false [c_ 28, c_ 29, c_ 15] (bF (nF (qT c1))) ?_
    refine .reg' [0, 1, 5] [] ⟨[(0, (.sl true a0.length 1 (a0.flatMap encI))), (1, (.sl true a1.length 1 (a1.flatMap encI))), (5, (I 0))], [], [], []⟩ [l_ 58, b_ 0, c_ 15] aln nocal ?_
    exact ih0 a0 a1 0 _ h
  · rw [if_neg c1] at h
    refine .cond' (.tmp 10) true [c_ 52, c_ 53, c_ 7] (bT (nT (qF c1))) ?_
    refine .reg' [4] [] ⟨[(4, (B false))], [], [], []⟩ [c_ 53, c_ 7] aln nocal ?_
    have h := Option.some.inj h
    subst h
    exact .fin0 [] (B false) [] aln (.z .s)
/-! laws_markSpanS: function 42 -/
def laws_markSpanS.l0 : Nat → (List S117) → Int → Int → Option (Int × (List S117))
 | 0, _, _, _ => none
 | k + 1, x1, x2, x3 => (if x3 < (x1.length : Int) then (if 0 ≤ x3 then (laws_markSpanS.l0 k (x1.set x3.toNat (⟨x2, (wrap64 (x2 + 1))⟩ : S117)) (wrap64 ((wrap64 (x2 + 1)) + 1)) (wrap64 (x3 + 1))) else none) else (some (x2, x1)))
def laws_markSpanS.f (k : Nat) (a0 : (List S117)) (a1 : Int) : Option (Int × (List S117)) := (laws_markSpanS.l0 k a0 a1 0)
theorem laws_markSpanS.lab : ∀ k, (∀ (x1 : (List S117)) (x2 : Int) (x3 : Int) (r : (Int × (List S117))), laws_markSpanS.l0 k x1 x2 x3 = some r → J prog (.run 42 [0] [l_ 26, b_ 0, c_ 7] [(0, (.rf 0 0 x1.length 2 (x1.length * 2))), (1, (I x2)), (5, (I x3))] [(0, (x1.flatMap e117))] (I r.1) [(0, (r.2.flatMap e117))]))
 | 0 => (by intro x1 x2 x3 r h; unfold laws_markSpanS.l0 at h; cases h)
 | k + 1 => by
  have ih := laws_markSpanS.lab k
  have ih0 := ih
  · intro x1 x2 x3 r h
    unfold laws_markSpanS.l0 at h
    refine .loop' [c_ 208, c_ 209, c_ 105, l_ 26, b_ 0, c_ 7] ?_
    refine .reg' [0, 1, 5, 9] [] ⟨[(0, (.rf 0 0 x1.length 2 (x1.length * 2))), (1, (I x2)), (5, (I x3)), (9, (B (decide (x3 < (x1.length : Int)))))], [(0, (x1.flatMap e117))], [], []⟩ [c_ 209, c_ 105, l_ 26, b_ 0, c_ 7] aln nocal ?_
    by_cases c1 : x3 < (x1.length : Int)
    · rw [if_pos c1] at h
      refine .cond' (.tmp 9) true [c_ 840, c_ 841, b_ 1, c_ 211, l_ 26, b_ 0, c_ 7] (bT (dT c1)) ?_
      by_cases c2 : 0 ≤ x3
      · rw [if_pos c2] at h
        refine .reg' [0, 1, 5] [.no, .no, .no, .no, .no, .w .un ((x1.set x3.toNat (⟨x2, (at_ x1 x3).f1⟩ : S117)).flatMap e117)] ⟨[(0, (.rf 0 0 x1.length 2 (x1.length * 2))), (1, (I x2)), (5, (I x3))], [(0, ((x1.set x3.toNat (⟨x2, (at_ x1 x3).f1⟩ : S117)).flatMap e117))], [(0 : Int) ≤ x3 ∧ x3 < (x1.length : Int), V.un = V.un, spl (x1.flatMap e117) (0 + x3.toNat * 2 + 0) [(I x2)] = ((x1.set x3.toNat (⟨x2, (at_ x1 x3).f1⟩ : S117)).flatMap e117), x1.length * 2 = (x1.flatMap e117).length ∧ 0 + x3.toNat * 2 + 0 + 1 ≤ (x1.flatMap e117).length], []⟩ [c_ 1682, c_ 1683, b_ 1, c_ 211, l_ 26, b_ 0, c_ 7] (alc ⟨c2, c1⟩ (alc rfl (alc (st_row e117_ok 0 c2 c1 (Nat.le_of_ble_eq_true rfl) rfl) (alc (okA e117_ok c2 c1 (by decide)) aln)))) nocal ?_
        refine .eqs (env2 := [(0, (.rf 0 0 ((x1.set x3.toNat (⟨x2, (at_ x1 x3).f1⟩ : S117)).length) 2 ((x1.set x3.toNat (⟨x2, (at_ x1 x3).f1⟩ : S117)).length * 2))), (1, (I x2)), (5, (I x3))]) (H2 := [(0, ((x1.set x3.toNat (⟨x2, (at_ x1 x3).f1⟩ : S117)).flatMap e117))]) (by first | (simp only [List.length_set]; done) | simp) (by first | rfl | (simp only [List.length_set]; done) | simp) ?_
        refine .reg' [0, 1, 5] [] ⟨[(0, (.rf 0 0 ((x1.set x3.toNat (⟨x2, (at_ x1 x3).f1⟩ : S117)).length) 2 ((x1.set x3.toNat (⟨x2, (at_ x1 x3).f1⟩ : S117)).length * 2))), (1, (I (wrap64 (x2 + 1)))), (5, (I x3))], [(0, ((x1.set x3.toNat (⟨x2, (at_ x1 x3).f1⟩ : S117)).flatMap e117))], [], []⟩ [c_ 3366, c_ 3367, b_ 1, c_ 211, l_ 26, b_ 0, c_ 7] aln nocal ?_
        refine .reg' [0, 1, 5] [.no, .no, .no, .no, .no, .w .un ((x1.set x3.toNat (⟨x2, (wrap64 (x2 + 1))⟩ : S117)).flatMap e117)] ⟨[(0, (.rf 0 0 ((x1.set x3.toNat (⟨x2, (at_ x1 x3).f1⟩ : S117)).length) 2 ((x1.set x3.toNat (⟨x2, (at_ x1 x3).f1⟩ : S117)).length * 2))), (1, (I (wrap64 (x2 + 1)))), (5, (I x3))], [(0, ((x1.set x3.toNat (⟨x2, (wrap64 (x2 + 1))⟩ : S117)).flatMap e117))], [(0 : Int) ≤ x3 ∧ x3 < ((x1.set x3.toNat (⟨x2, (at_ x1 x3).f1⟩ : S117)).length : Int), V.un = V.un, spl ((x1.set x3.toNat (⟨x2, (at_ x1 x3).f1⟩ : S117)).flatMap e117) (0 + x3.toNat * 2 + 1) [(I (wrap64 (x2 + 1)))] = ((x1.set x3.toNat (⟨x2, (wrap64 (x2 + 1))⟩ : S117)).flatMap e117), (x1.set x3.toNat (⟨x2, (at_ x1 x3).f1⟩ : S117)).length * 2 = ((x1.set x3.toNat (⟨x2, (at_ x1 x3).f1⟩ : S117)).flatMap e117).length ∧ 0 + x3.toNat * 2 + 1 + 1 ≤ ((x1.set x3.toNat (⟨x2, (at_ x1 x3).f1⟩ : S117)).flatMap e117).length], []⟩ [c_ 3367, b_ 1, c_ 211, l_ 26, b_ 0, c_ 7] (alc ⟨c2, (ls c1)⟩ (alc rfl (alc (st_row2 e117_ok 1 c2 c1 (Nat.le_of_ble_eq_true rfl) rfl) (alc (okA e117_ok c2 (ls c1) (by decide)) aln)))) nocal ?_
        refine .eqs (env2 := [(0, (.rf 0 0 ((x1.set x3.toNat (⟨x2, (wrap64 (x2 + 1))⟩ : S117)).length) 2 ((x1.set x3.toNat (⟨x2, (wrap64 (x2 + 1))⟩ : S117)).length * 2))), (1, (I (wrap64 (x2 + 1)))), (5, (I x3))]) (H2 := [(0, ((x1.set x3.toNat (⟨x2, (wrap64 (x2 + 1))⟩ : S117)).flatMap e117))]) (by first | (simp only [List.length_set]; done) | simp) (by first | rfl | (simp only [List.length_set]; done) | simp) ?_
        refine .reg' [0, 1, 5] [] ⟨[(0, (.rf 0 0 ((x1.set x3.toNat (⟨x2, (wrap64 (x2 + 1))⟩ : S117)).length) 2 ((x1.set x3.toNat (⟨x2, (wrap64 (x2 + 1))⟩ : S117)).length * 2))), (1, (I (wrap64 ((wrap64 (x2 + 1)) + 1)))), (5, (I x3))], [(0, ((x1.set x3.toNat (⟨x2, (wrap64 (x2 + 1))⟩ : S117)).flatMap e117))], [], []⟩ [c_ 211, l_ 26, b_ 0, c_ 7] aln nocal ?_
        refine .reg' [0, 1, 5] [] ⟨[(0, (.rf 0 0 ((x1.set x3.toNat (⟨x2, (wrap64 (x2 + 1))⟩ : S117)).length) 2 ((x1.set x3.toNat (⟨x2, (wrap64 (x2 + 1))⟩ : S117)).length * 2))), (1, (I (wrap64 ((wrap64 (x2 + 1)) + 1)))), (5, (I (wrap64 (x3 + 1))))], [(0, ((x1.set x3.toNat (⟨x2, (wrap64 (x2 + 1))⟩ : S117)).flatMap e117))], [], []⟩ [l_ 26, b_ 0, c_ 7] aln nocal ?_
        exact ih0 (x1.set x3.toNat (⟨x2, (wrap64 (x2 + 1))⟩ : S117)) (wrap64 ((wrap64 (x2 + 1)) + 1)) (wrap64 (x3 + 1)) _ h
      · rw [if_neg c2] at h
        cases h
    · rw [if_neg c1] at h
      refine .cond' (.tmp 9) false [c_ 14, c_ 15] (bF (dF c1)) ?_
      refine .reg' [4] [] ⟨[(4, (I x2))], [(0, (x1.flatMap e117))], [], []⟩ [c_ 15] aln nocal ?_
      have h := Option.some.inj h
      subst h
      exact .fin' [] [(0, 0)] (I x2) [] aln (shc 0 (rowF e117_ok _) shn) (.z .s)
theorem laws_markSpanS.J (k : Nat) (a0 : (List S117)) (a1 : Int) (r : (Int × (List S117))) (h : laws_markSpanS.f k a0 a1 = some r) : J prog (.call 42 [(.rf 0 0 a0.length 2 (a0.length * 2)), (I a1)] [(0, (a0.flatMap e117))] (I r.1) [(0, (r.2.flatMap e117))]) := by
  unfold laws_markSpanS.f at h
  have ih0 := laws_markSpanS.lab k
  refine .call' [c_ 2, c_ 3] ?_
  refine .reg' [0, 1] [] ⟨[(0, (.rf 0 0 a0.length 2 (a0.length * 2))), (1, (I a1))], [(0, (a0.flatMap e117))], [], []⟩ [c_ 12, c_ 13, c_ 7] aln nocal ?_
  refine .reg' [0, 1, 5] [] ⟨[(0, (.rf 0 0 a0.length 2 (a0.length * 2))), (1, (I a1)), (5, (I 0))], [(0, (a0.flatMap e117))], [], []⟩ [l_ 26, b_ 0, c_ 7] aln nocal ?_
  exact ih0 a0 a1 0 _ h
theorem laws_markSpanS.lenl : ∀ k, (∀ (x1 : (List S117)) (x2 : Int) (x3 : Int) (r : (Int × (List S117))), laws_markSpanS.l0 k x1 x2 x3 = some r → r.2.length = x1.length)
 | 0 => (by intro x1 x2 x3 r h; unfold laws_markSpanS.l0 at h; cases h)
 | k + 1 => by
  have ih0 := laws_markSpanS.lenl k
  · intro x1 x2 x3 r h
    unfold laws_markSpanS.l0 at h
    by_cases c1 : x3 < (x1.length : Int)
    · rw [if_pos c1] at h
      by_cases c2 : 0 ≤ x3
      · rw [if_pos c2] at h
        have q := ih0 (x1.set x3.toNat (⟨x2, (wrap64 (x2 + 1))⟩ : S117)) (wrap64 ((wrap64 (x2 + 1)) + 1)) (wrap64 (x3 + 1)) _ h
        first | exact q | (simp only [List.length_set] at q; exact q)
      · rw [if_neg c2] at h
        cases h
    · rw [if_neg c1] at h
      have h := Option.some.inj h
      subst h
      first | rfl | (simp only [List.length_set]; done) | exact ⟨by first | rfl | simp only [List.length_set]⟩
theorem laws_markSpanS.len (k : Nat) (a0 : (List S117)) (a1 : Int) (r : (Int × (List S117))) (h : laws_markSpanS.f k a0 a1 = some r) : r.2.length = a0.length := by
  unfold laws_markSpanS.f at h
  have ih0 := laws_markSpanS.lenl k
  have q := ih0 a0 a1 0 _ h
  first | exact q | (simp only [List.length_set] at q; exact q)
/-! laws_markIntS: function 43 -/
def laws_markIntS.l0 : Nat → (List Int) → Int → Int → Option (Int × (List Int))
 | 0, _, _, _ => none
 | k + 1, x1, x2, x3 => (if x3 < (x1.length : Int) then (if 0 ≤ x3 then (laws_markIntS.l0 k (x1.set x3.toNat x2) (wrap64 (x2 + 1)) (wrap64 (x3 + 1))) else none) else (some (x2, x1)))
def laws_markIntS.f (k : Nat) (a0 : (List Int)) (a1 : Int) : Option (Int × (List Int)) := (laws_markIntS.l0 k a0 a1 0)
theorem laws_markIntS.lab : ∀ k, (∀ (x1 : (List Int)) (x2 : Int) (x3 : Int) (r : (Int × (List Int))), laws_markIntS.l0 k x1 x2 x3 = some r → J prog (.run 43 [0] [l_ 26, b_ 0, c_ 7] [(0, (.rf 0 0 x1.length 1 (x1.length * 1))), (1, (I x2)), (5, (I x3))] [(0, (x1.flatMap encI))] (I r.1) [(0, (r.2.flatMap encI))]))
 | 0 => (by intro x1 x2 x3 r h; unfold laws_markIntS.l0 at h; cases h)
 | k + 1 => by
  have ih := laws_markIntS.lab k
  have ih0 := ih
  · intro x1 x2 x3 r h
    unfold laws_markIntS.l0 at h
    refine .loop' [c_ 208, c_ 209, c_ 105, l_ 26, b_ 0, c_ 7] ?_
    refine .reg' [0, 1, 5, 9] [] ⟨[(0, (.rf 0 0 x1.length 1 (x1.length * 1))), (1, (I x2)), (5, (I x3)), (9, (B (decide (x3 < (x1.length : Int)))))], [(0, (x1.flatMap encI))], [], []⟩ [c_ 209, c_ 105, l_ 26, b_ 0, c_ 7] aln nocal ?_
    by_cases c1 : x3 < (x1.length : Int)
    · rw [if_pos c1] at h
      refine .cond' (.tmp 9) true [c_ 840, c_ 841, b_ 1, c_ 211, l_ 26, b_ 0, c_ 7] (bT (dT c1)) ?_
      by_cases c2 : 0 ≤ x3
      · rw [if_pos c2] at h
        refine .reg' [0, 1, 5] [.no, .no, .no, .no, .w .un ((x1.set x3.toNat x2).flatMap encI)] ⟨[(0, (.rf 0 0 x1.length 1 (x1.length * 1))), (1, (I x2)), (5, (I x3))], [(0, ((x1.set x3.toNat x2).flatMap encI))], [(0 : Int) ≤ x3 ∧ x3 < (x1.length : Int), V.un = V.un, spl (x1.flatMap encI) (0 + x3.toNat * 1) [(I x2)] = ((x1.set x3.toNat x2).flatMap encI), x1.length * 1 = (x1.flatMap encI).length ∧ 0 + x3.toNat * 1 + 1 ≤ (x1.flatMap encI).length], []⟩ [c_ 841, b_ 1, c_ 211, l_ 26, b_ 0, c_ 7] (alc ⟨c2, c1⟩ (alc rfl (alc (st_row1 encI_ok c2 c1 (I x2) rfl) (alc (okA0 encI_ok c2 c1 (by decide)) aln)))) nocal ?_
        refine .eqs (env2 := [(0, (.rf 0 0 ((x1.set x3.toNat x2).length) 1 ((x1.set x3.toNat x2).length * 1))), (1, (I x2)), (5, (I x3))]) (H2 := [(0, ((x1.set x3.toNat x2).flatMap encI))]) (by first | (simp only [List.length_set]; done) | simp) (by first | rfl | (simp only [List.length_set]; done) | simp) ?_
        refine .reg' [0, 1, 5] [] ⟨[(0, (.rf 0 0 ((x1.set x3.toNat x2).length) 1 ((x1.set x3.toNat x2).length * 1))), (1, (I (wrap64 (x2 + 1)))), (5, (I x3))], [(0, ((x1.set x3.toNat x2).flatMap encI))], [], []⟩ [c_ 211, l_ 26, b_ 0, c_ 7] aln nocal ?_
        refine .reg' [0, 1, 5] [] ⟨[(0, (.rf 0 0 ((x1.set x3.toNat x2).length) 1 ((x1.set x3.toNat x2).length * 1))), (1, (I (wrap64 (x2 + 1)))), (5, (I (wrap64 (x3 + 1))))], [(0, ((x1.set x3.toNat x2).flatMap encI))], [], []⟩ [l_ 26, b_ 0, c_ 7] aln nocal ?_
        exact ih0 (x1.set x3.toNat x2) (wrap64 (x2 + 1)) (wrap64 (x3 + 1)) _ h
      · rw [if_neg c2] at h
        cases h
    · rw [if_neg c1] at h
      refine .cond' (.tmp 9) false [c_ 14, c_ 15] (bF (dF c1)) ?_
      refine .reg' [4] [] ⟨[(4, (I x2))], [(0, (x1.flatMap encI))], [], []⟩ [c_ 15] aln nocal ?_
      have h := Option.some.inj h
      subst h
      exact .fin' [] [(0, 0)] (I x2) [] aln (shc 0 (rowF encI_ok _) shn) (.z .s)
theorem laws_markIntS.J (k : Nat) (a0 : (List Int)) (a1 : Int) (r : (Int × (List Int))) (h : laws_markIntS.f k a0 a1 = some r) : J prog (.call 43 [(.rf 0 0 a0.length 1 (a0.length * 1)), (I a1)] [(0, (a0.flatMap encI))] (I r.1) [(0, (r.2.flatMap encI))]) := by
  unfold laws_markIntS.f at h
  have ih0 := laws_markIntS.lab k
  refine .call' [c_ 2, c_ 3] ?_
  refine .reg' [0, 1] [] ⟨[(0, (.rf 0 0 a0.length 1 (a0.length * 1))), (1, (I a1))], [(0, (a0.flatMap encI))], [], []⟩ [c_ 12, c_ 13, c_ 7] aln nocal ?_
  refine .reg' [0, 1, 5] [] ⟨[(0, (.rf 0 0 a0.length 1 (a0.length * 1))), (1, (I a1)), (5, (I 0))], [(0, (a0.flatMap encI))], [], []⟩ [l_ 26, b_ 0, c_ 7] aln nocal ?_
  exact ih0 a0 a1 0 _ h
theorem laws_markIntS.lenl : ∀ k, (∀ (x1 : (List Int)) (x2 : Int) (x3 : Int) (r : (Int × (List Int))), laws_markIntS.l0 k x1 x2 x3 = some r → r.2.length = x1.length)
 | 0 => (by intro x1 x2 x3 r h; unfold laws_markIntS.l0 at h; cases h)
 | k + 1 => by
  have ih0 := laws_markIntS.lenl k
  · intro x1 x2 x3 r h
    unfold laws_markIntS.l0 at h
    by_cases c1 : x3 < (x1.length : Int)
    · rw [if_pos c1] at h
      by_cases c2 : 0 ≤ x3
      · rw [if_pos c2] at h
        have q := ih0 (x1.set x3.toNat x2) (wrap64 (x2 + 1)) (wrap64 (x3 + 1)) _ h
        first | exact q | (simp only [List.length_set] at q; exact q)
      · rw [if_neg c2] at h
        cases h
    · rw [if_neg c1] at h
      have h := Option.some.inj h
      subst h
      first | rfl | (simp only [List.length_set]; done) | exact ⟨by first | rfl | simp only [List.length_set]⟩
theorem laws_markIntS.len (k : Nat) (a0 : (List Int)) (a1 : Int) (r : (Int × (List Int))) (h : laws_markIntS.f k a0 a1 = some r) : r.2.length = a0.length := by
  unfold laws_markIntS.f at h
  have ih0 := laws_markIntS.lenl k
  have q := ih0 a0 a1 0 _ h
  first | exact q | (simp only [List.length_set] at q; exact q)
/-! laws_heldSpanS: function 44 -/
def laws_heldSpanS.l0 : Nat → (List S117) → Int → Int → Option Int
 | 0, _, _, _ => none
 | k + 1, a0, x1, x2 => (if x2 < (a0.length : Int) then (if 0 ≤ x2 then (if (at_ a0 x2).f0 = x1 then (if (at_ a0 x2).f1 = (wrap64 (x1 + 1)) then (laws_heldSpanS.l0 k a0 (wrap64 ((wrap64 (x1 + 1)) + 1)) (wrap64 (x2 + 1))) else (some (-1))) else (some (-1))) else none) else (some x1))
def laws_heldSpanS.f (k : Nat) (a0 : (List S117)) (a1 : Int) : Option Int := (laws_heldSpanS.l0 k a0 a1 0)
theorem laws_heldSpanS.lab : ∀ k, (∀ (a0 : (List S117)) (x1 : Int) (x2 : Int) (r : Int), laws_heldSpanS.l0 k a0 x1 x2 = some r → J prog (.run 44 [] [l_ 26, b_ 0, c_ 7] [(0, (.sl true a0.length 2 (a0.flatMap e117))), (1, (I x1)), (5, (I x2))] [] (I r) []))
 | 0 => (by intro a0 x1 x2 r h; unfold laws_heldSpanS.l0 at h; cases h)
 | k + 1 => by
  have ih := laws_heldSpanS.lab k
  have ih0 := ih
  · intro a0 x1 x2 r h
    unfold laws_heldSpanS.l0 at h
    refine .loop' [c_ 208, c_ 209, c_ 105, l_ 26, b_ 0, c_ 7] ?_
    refine .reg' [0, 1, 5, 9] [] ⟨[(0, (.sl true a0.length 2 (a0.flatMap e117))), (1, (I x1)), (5, (I x2)), (9, (B (decide (x2 < (a0.length : Int)))))], [], [], []⟩ [c_ 209, c_ 105, l_ 26, b_ 0, c_ 7] aln nocal ?_
    by_cases c1 : x2 < (a0.length : Int)
    · rw [if_pos c1] at h
      refine .cond' (.tmp 9) true [c_ 1680, c_ 1681, c_ 841, b_ 1, c_ 211, l_ 26, b_ 0, c_ 7] (bT (dT c1)) ?_
      by_cases c2 : 0 ≤ x2
      · rw [if_pos c2] at h
        refine .reg' [0, 1, 5, 18] [.no, .no, .no, .no, .v (I (at_ a0 x2).f0)] ⟨[(0, (.sl true a0.length 2 (a0.flatMap e117))), (1, (I x1)), (5, (I x2)), (18, (B (!((at_ a0 x2).f0 == x1))))], [], [(0 : Int) ≤ x2 ∧ x2 < (a0.length : Int), rdC prog 3 (((a0.flatMap e117).drop (x2.toNat * 2)).drop 0) = (I (at_ a0 x2).f0), 1 ≤ (((a0.flatMap e117).drop (x2.toNat * 2)).drop 0).length], []⟩ [c_ 1681, c_ 841, b_ 1, c_ 211, l_ 26, b_ 0, c_ 7] (alc ⟨c2, c1⟩ (alc (ldC e117_ok 0 (by decide) rfl c2 c1) (alc (okIj e117_ok c2 c1 (by decide)) aln))) nocal ?_
        by_cases c3 : (at_ a0 x2).f0 = x1
        · rw [if_pos c3] at h
          refine .cond' (.tmp 18) false [c_ 1682, c_ 1683, b_ 1, c_ 211, l_ 26, b_ 0, c_ 7] (bF (nF (qT c3))) ?_
          refine .reg' [0, 1, 5] [] ⟨[(0, (.sl true a0.length 2 (a0.flatMap e117))), (1, (I (wrap64 (x1 + 1)))), (5, (I x2))], [], [], []⟩ [c_ 6732, c_ 6733, c_ 3367, b_ 1, c_ 211, l_ 26, b_ 0, c_ 7] aln nocal ?_
          refine .reg' [0, 1, 5, 27] [.no, .no, .no, .no, .v (I (at_ a0 x2).f1)] ⟨[(0, (.sl true a0.length 2 (a0.flatMap e117))), (1, (I (wrap64 (x1 + 1)))), (5, (I x2)), (27, (B (!((at_ a0 x2).f1 == (wrap64 (x1 + 1))))))], [], [(0 : Int) ≤ x2 ∧ x2 < (a0.length : Int), rdC prog 3 (((a0.flatMap e117).drop (x2.toNat * 2)).drop 1) = (I (at_ a0 x2).f1), 1 ≤ (((a0.flatMap e117).drop (x2.toNat * 2)).drop 1).length], []⟩ [c_ 6733, c_ 3367, b_ 1, c_ 211, l_ 26, b_ 0, c_ 7] (alc ⟨c2, c1⟩ (alc (ldC e117_ok 1 (by decide) rfl c2 c1) (alc (okIj e117_ok c2 c1 (by decide)) aln))) nocal ?_
          by_cases c4 : (at_ a0 x2).f1 = (wrap64 (x1 + 1))
          · rw [if_pos c4] at h
            refine .cond' (.tmp 27) false [c_ 3367, b_ 1, c_ 211, l_ 26, b_ 0, c_ 7] (bF (nF (qT c4))) ?_
            refine .reg' [0, 1, 5] [] ⟨[(0, (.sl true a0.length 2 (a0.flatMap e117))), (1, (I (wrap64 ((wrap64 (x1 + 1)) + 1)))), (5, (I x2))], [], [], []⟩ [c_ 211, l_ 26, b_ 0, c_ 7] aln nocal ?_
            refine .reg' [0, 1, 5] [] ⟨[(0, (.sl true a0.length 2 (a0.flatMap e117))), (1, (I (wrap64 ((wrap64 (x1 + 1)) + 1)))), (5, (I (wrap64 (x2 + 1))))], [], [], []⟩ [l_ 26, b_ 0, c_ 7] aln nocal ?_
            exact ih0 a0 (wrap64 ((wrap64 (x1 + 1)) + 1)) (wrap64 (x2 + 1)) _ h
          · rw [if_neg c4] at h
            refine .cond' (.tmp 27) true [c_ 26932, c_ 26933, c_ 3367, b_ 1, c_ 211, l_ 26, b_ 0, c_ 7] (bT (nT (qF c4))) ?_
            refine .reg' [4] [] ⟨[(4, (I (-1)))], [], [], []⟩ [c_ 26933, c_ 3367, b_ 1, c_ 211, l_ 26, b_ 0, c_ 7] aln nocal ?_
            have h := Option.some.inj h
            subst h
            exact .fin0 [] (I (-1)) [] aln (.z .s)
        · rw [if_neg c3] at h
          refine .cond' (.tmp 18) true [c_ 6724, c_ 6725, c_ 841, b_ 1, c_ 211, l_ 26, b_ 0, c_ 7] (bT (nT (qF c3))) ?_
          refine .reg' [4] [] ⟨[(4, (I (-1)))], [], [], []⟩ [c_ 6725, c_ 841, b_ 1, c_ 211, l_ 26, b_ 0, c_ 7] aln nocal ?_
          have h := Option.some.inj h
          subst h
          exact .fin0 [] (I (-1)) [] aln (.z .s)
      · rw [if_neg c2] at h
        cases h
    · rw [if_neg c1] at h
      refine .cond' (.tmp 9) false [c_ 14, c_ 15] (bF (dF c1)) ?_
      refine .reg' [4] [] ⟨[(4, (I x1))], [], [], []⟩ [c_ 15] aln nocal ?_
      have h := Option.some.inj h
      subst h
      exact .fin0 [] (I x1) [] aln (.z .s)
theorem laws_heldSpanS.J (k : Nat) (a0 : (List S117)) (a1 : Int) (r : Int) (h : laws_heldSpanS.f k a0 a1 = some r) : J prog (.call 44 [(.sl true a0.length 2 (a0.flatMap e117)), (I a1)] [] (I r) []) := by
  unfold laws_heldSpanS.f at h
  have ih0 := laws_heldSpanS.lab k
  refine .call' [c_ 2, c_ 3] ?_
  refine .reg' [0, 1] [] ⟨[(0, (.sl true a0.length 2 (a0.flatMap e117))), (1, (I a1))], [], [], []⟩ [c_ 12, c_ 13, c_ 7] aln nocal ?_
  refine .reg' [0, 1, 5] [] ⟨[(0, (.sl true a0.length 2 (a0.flatMap e117))), (1, (I a1)), (5, (I 0))], [], [], []⟩ [l_ 26, b_ 0, c_ 7] aln nocal ?_
  exact ih0 a0 a1 0 _ h
/-! laws_FnExactDrive: function 8 -/
def laws_FnExactDrive.f (k : Nat) (a0 : Int) (a1 : (List S117)) (a2 : (List Int)) (a3 : Int) : Option Bool := (if (a2.length : Int) > 1048576 then (some true) else ((laws_szSpanS.f a1 1048576).bind fun x1 => (if x1 < 0 then (some true) else ((laws_toSpanS.f k a1).bind fun x2 => ((laws_toIntS.f k a2).bind fun x3 => ((spec_Drive.f k a0 x2 x3 a3).bind fun x4 => ((laws_toSpanS.f k a1).bind fun x5 => ((laws_toIntS.f k a2).bind fun x6 => ((impl_Drive.f k a0 x5 x6 a3).bind fun x7 => ((laws_eqSpanS.f k x7.1 x4.1).bind fun x8 => (if x8 = true then (if x7.2 = x4.2 then ((laws_toSpanS.f k a1).bind fun x9 => ((laws_eqSpanS.f k x5 x9).bind fun x10 => (if x10 = true then ((laws_toIntS.f k a2).bind fun x11 => ((laws_eqIntS.f k x6 x11).bind fun x12 => (if x12 = true then ((laws_markSpanS.f k x5 1).bind fun x13 => ((laws_markIntS.f k x6 x13.1).bind fun x14 => (if x14.1 < 0 then (some false) else ((laws_eqSpanS.f k x7.1 x4.1).bind fun x15 => (if x15 = true then ((laws_markSpanS.f k x7.1 1).bind fun x16 => ((laws_heldSpanS.f k x16.2 1).bind fun x17 => (if x17 < 0 then (some false) else (if x17 = x16.1 then ((laws_toSpanS.f k a1).bind fun x18 => ((laws_toIntS.f k a2).bind fun x19 => ((impl_Drive.f k a0 x18 x19 a3).bind fun x20 => ((laws_eqSpanS.f k x20.1 x4.1).bind fun x21 => (if x21 = true then (if x20.2 = x4.2 then ((laws_heldSpanS.f k x16.2 1).bind fun x22 => (if x22 < 0 then (some false) else (if x22 = x16.1 then (some true) else (some false)))) else (some false)) else (some false)))))) else (some false))))) else (some false)))))) else (some false)))) else (some false)))) else (some false)) else (some false))))))))))))
end Go.Proofs.Ytjfjifnmfnlfoaa.Fns
