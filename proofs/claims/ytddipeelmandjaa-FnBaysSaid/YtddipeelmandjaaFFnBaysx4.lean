/- The functions that the law FnBays reaches, by the engine. Printed by a program of this seat. -/
import Derived.Test.YtddipeelmandjaaE5
import Derived.Test.YtddipeelmandjaaProg
import Derived.Test.YtddipeelmandjaaFFnBaysx3
namespace Go.Proofs.Ytddipeelmandjaa.Fns
open Go.Proofs.Try Go.Proofs.Ytddipeelmandjaa.Eng Go.RowKit
set_option maxRecDepth 100000
set_option linter.unusedVariables false
set_option linter.unusedSimpArgs false
theorem impl_AssignOk.lab : ∀ k, (∀ (a0 : (List Int)) (a1 : (List S49)) (a2 : Int) (a3 : (List Int)) (x4 : Int) (r : Bool), impl_AssignOk.l0 k a0 a1 a2 a3 x4 = some r → J prog (.run 24 [] [l_ 58, b_ 0, c_ 15] [(0, (.sl true a0.length 1 (a0.flatMap encI))), (1, (.sl true a1.length 3 (a1.flatMap e49))), (2, (I a2)), (3, (.sl true a3.length 1 (a3.flatMap encI))), (31, (.sl true a3.length 1 (a3.flatMap encI))), (32, (I (a3.length : Int))), (33, (I x4))] [] (B r) []))
 | 0 => (by intro a0 a1 a2 a3 x4 r h; unfold impl_AssignOk.l0 at h; cases h)
 | k + 1 => by
  have ih0 := impl_AssignOk.lab k
  · intro a0 a1 a2 a3 x4 r h
    unfold impl_AssignOk.l0 at h
    refine .loop' [c_ 232, c_ 233, l_ 58, b_ 0, c_ 15] ?_
    refine .reg' [0, 1, 2, 3, 31, 32, 33, 34] [] ⟨[(0, (.sl true a0.length 1 (a0.flatMap encI))), (1, (.sl true a1.length 3 (a1.flatMap e49))), (2, (I a2)), (3, (.sl true a3.length 1 (a3.flatMap encI))), (31, (.sl true a3.length 1 (a3.flatMap encI))), (32, (I (a3.length : Int))), (33, (I x4)), (34, (B (decide (x4 < (a3.length : Int)))))], [], [], []⟩ [c_ 466, c_ 467, l_ 58, b_ 0, c_ 15] aln nocal ?_
    by_cases c5 : x4 < (a3.length : Int)
    · rw [if_pos c5] at h
      refine .cond' (.tmp 34) true [c_ 3736, c_ 3737, b_ 1, c_ 935, l_ 58, b_ 0, c_ 15] (bT (dT c5)) ?_
      by_cases c6 : 0 ≤ x4
      · rw [if_pos c6] at h
        refine .reg' [0, 1, 2, 3, 9, 10, 31, 32, 33] [.no, .no, .v (I (at_ a3 x4))] ⟨[(0, (.sl true a0.length 1 (a0.flatMap encI))), (1, (.sl true a1.length 3 (a1.flatMap e49))), (2, (I a2)), (3, (.sl true a3.length 1 (a3.flatMap encI))), (9, (I x4)), (10, (I (at_ a3 x4))), (31, (.sl true a3.length 1 (a3.flatMap encI))), (32, (I (a3.length : Int))), (33, (I x4))], [], [(0 : Int) ≤ x4 ∧ x4 < (a3.length : Int), rdC prog 3 ((a3.flatMap encI).drop (x4.toNat * 1)) = (I (at_ a3 x4)), 1 ≤ ((a3.flatMap encI).drop (x4.toNat * 1)).length], []⟩ [c_ 14948, c_ 14949, c_ 7475, b_ 1, c_ 935, l_ 58, b_ 0, c_ 15] (alc ⟨c6, c5⟩ (alc (ldC1 encI_ok rfl c6 c5) (alc (okI encI_ok c6 c5 (by decide)) aln))) nocal ?_
        refine .reg' [0, 1, 2, 3, 9, 10, 31, 32, 33, 39] [] ⟨[(0, (.sl true a0.length 1 (a0.flatMap encI))), (1, (.sl true a1.length 3 (a1.flatMap e49))), (2, (I a2)), (3, (.sl true a3.length 1 (a3.flatMap encI))), (9, (I x4)), (10, (I (at_ a3 x4))), (31, (.sl true a3.length 1 (a3.flatMap encI))), (32, (I (a3.length : Int))), (33, (I x4)), (39, (B ((at_ a3 x4) == (-1))))], [], [], []⟩ [c_ 14949, c_ 7475, b_ 1, c_ 935, l_ 58, b_ 0, c_ 15] aln nocal ?_
        by_cases c7 : (at_ a3 x4) = (-1)
        · rw [if_pos c7] at h
          refine .cond' (.tmp 39) true [c_ 935, l_ 58, b_ 0, c_ 15] (bT (qT c7)) ?_
          refine .reg' [0, 1, 2, 3, 31, 32, 33] [] ⟨[(0, (.sl true a0.length 1 (a0.flatMap encI))), (1, (.sl true a1.length 3 (a1.flatMap e49))), (2, (I a2)), (3, (.sl true a3.length 1 (a3.flatMap encI))), (31, (.sl true a3.length 1 (a3.flatMap encI))), (32, (I (a3.length : Int))), (33, (I (wrap64 (x4 + 1))))], [], [], []⟩ [l_ 58, b_ 0, c_ 15] aln nocal ?_
          exact ih0 a0 a1 a2 a3 (wrap64 (x4 + 1)) _ h
        · rw [if_neg c7] at h
          refine .cond' (.tmp 39) false [c_ 14950, c_ 14951, b_ 1, c_ 935, l_ 58, b_ 0, c_ 15] (bF (qF c7)) ?_
          obtain ⟨x5, hx5, h⟩ := Option.bind_eq_some_iff.mp h
          by_cases c8 : x5 = true
          · rw [if_pos c8] at h
            by_cases c9 : 0 ≤ (at_ a3 x4)
            · rw [if_pos c9] at h
              by_cases c10 : (at_ a3 x4) < (a0.length : Int)
              · rw [if_pos c10] at h
                by_cases c11 : x4 < (a1.length : Int)
                · rw [if_pos c11] at h
                  by_cases c12 : (at_ a0 (at_ a3 x4)) < (at_ a1 x4).f2
                  · rw [if_pos c12] at h
                    refine .reg' [0, 1, 2, 3, 31, 32, 33, 66] [.no, .no, .no, .no, .c ⟨40, [(I (at_ a3 x4)), (I 0), (I (wrap64 ((a0.length : Int) - 1)))], [], (B x5), [], [], [], [], (B x5), []⟩, .no, .v (B false), .no, .no, .no, .v (I (at_ a0 (at_ a3 x4))), .no, .no, .no, .no, .v (I (at_ a1 x4).f2), .no, .no, .v (B true)] ⟨[(0, (.sl true a0.length 1 (a0.flatMap encI))), (1, (.sl true a1.length 3 (a1.flatMap e49))), (2, (I a2)), (3, (.sl true a3.length 1 (a3.flatMap encI))), (31, (.sl true a3.length 1 (a3.flatMap encI))), (32, (I (a3.length : Int))), (33, (I x4)), (66, (B true))], [], [COK (hget []) [(I (at_ a3 x4)), (I 0), (I (wrap64 ((a0.length : Int) - 1)))] ⟨40, [(I (at_ a3 x4)), (I 0), (I (wrap64 ((a0.length : Int) - 1)))], [], (B x5), [], [], [], [], (B x5), []⟩, (B (!x5) : V) = B false, (0 : Int) ≤ (at_ a3 x4) ∧ (at_ a3 x4) < (a0.length : Int), rdC prog 3 ((a0.flatMap encI).drop ((at_ a3 x4).toNat * 1)) = (I (at_ a0 (at_ a3 x4))), 1 ≤ ((a0.flatMap encI).drop ((at_ a3 x4).toNat * 1)).length, (0 : Int) ≤ x4 ∧ x4 < (a1.length : Int), rdC prog 3 (((a1.flatMap e49).drop (x4.toNat * 3)).drop 2) = (I (at_ a1 x4).f2), 1 ≤ (((a1.flatMap e49).drop (x4.toNat * 3)).drop 2).length, (B (decide ((at_ a0 (at_ a3 x4)) < (at_ a1 x4).f2)) : V) = B true], [⟨40, [(I (at_ a3 x4)), (I 0), (I (wrap64 ((a0.length : Int) - 1)))], [], (B x5), [], [], [], [], (B x5), []⟩]⟩ [c_ 14951, b_ 1, c_ 935, l_ 58, b_ 0, c_ 15] (alc (cok0 false (a2c (.z .s) (a2c (.z .s) (a2c (.z .s) a2n))) (.z .s) (fun h => absurd h (by decide))) (alc (bF (nF c8)) (alc ⟨c9, c10⟩ (alc (ldC1 encI_ok rfl c9 c10) (alc (okI encI_ok c9 c10 (by decide)) (alc ⟨c6, c11⟩ (alc (ldC e49_ok 2 (by decide) rfl c6 c11) (alc (okIj e49_ok c6 c11 (by decide)) (alc (bT (dT c12)) aln))))))))) (acal (impl_between.J (at_ a3 x4) 0 (wrap64 ((a0.length : Int) - 1)) _ hx5) nocal) ?_
                    refine .cond' (.tmp 66) true [c_ 59804, c_ 59805, b_ 1, c_ 935, l_ 58, b_ 0, c_ 15] (rfl) ?_
                    refine .reg' [8] [] ⟨[(8, (B false))], [], [], []⟩ [c_ 59805, b_ 1, c_ 935, l_ 58, b_ 0, c_ 15] aln nocal ?_
                    have h := Option.some.inj h
                    subst h
                    exact .fin0 [] (B false) [] aln (.z .s)
                  · rw [if_neg c12] at h
                    obtain ⟨x6, hx6, h⟩ := Option.bind_eq_some_iff.mp h
                    refine .reg' [0, 1, 2, 3, 31, 32, 33, 66] [.no, .no, .no, .no, .c ⟨40, [(I (at_ a3 x4)), (I 0), (I (wrap64 ((a0.length : Int) - 1)))], [], (B x5), [], [], [], [], (B x5), []⟩, .no, .v (B false), .no, .no, .no, .v (I (at_ a0 (at_ a3 x4))), .no, .no, .no, .no, .v (I (at_ a1 x4).f2), .no, .no, .v (B false), .no, .no, .no, .no, .no, .c ⟨49, [(.sl true a1.length 3 (a1.flatMap e49)), (I a2), (.sl true a3.length 1 (a3.flatMap encI)), (I (at_ a3 x4)), (I x4)], [], (B x6), [], [], [], [], (B x6), []⟩] ⟨[(0, (.sl true a0.length 1 (a0.flatMap encI))), (1, (.sl true a1.length 3 (a1.flatMap e49))), (2, (I a2)), (3, (.sl true a3.length 1 (a3.flatMap encI))), (31, (.sl true a3.length 1 (a3.flatMap encI))), (32, (I (a3.length : Int))), (33, (I x4)), (66, (B (!x6)))], [], [COK (hget []) [(I (at_ a3 x4)), (I 0), (I (wrap64 ((a0.length : Int) - 1)))] ⟨40, [(I (at_ a3 x4)), (I 0), (I (wrap64 ((a0.length : Int) - 1)))], [], (B x5), [], [], [], [], (B x5), []⟩, (B (!x5) : V) = B false, (0 : Int) ≤ (at_ a3 x4) ∧ (at_ a3 x4) < (a0.length : Int), rdC prog 3 ((a0.flatMap encI).drop ((at_ a3 x4).toNat * 1)) = (I (at_ a0 (at_ a3 x4))), 1 ≤ ((a0.flatMap encI).drop ((at_ a3 x4).toNat * 1)).length, (0 : Int) ≤ x4 ∧ x4 < (a1.length : Int), rdC prog 3 (((a1.flatMap e49).drop (x4.toNat * 3)).drop 2) = (I (at_ a1 x4).f2), 1 ≤ (((a1.flatMap e49).drop (x4.toNat * 3)).drop 2).length, (B (decide ((at_ a0 (at_ a3 x4)) < (at_ a1 x4).f2)) : V) = B false, COK (hget []) [(.sl true a1.length 3 (a1.flatMap e49)), (I a2), (.sl true a3.length 1 (a3.flatMap encI)), (I (at_ a3 x4)), (I x4)] ⟨49, [(.sl true a1.length 3 (a1.flatMap e49)), (I a2), (.sl true a3.length 1 (a3.flatMap encI)), (I (at_ a3 x4)), (I x4)], [], (B x6), [], [], [], [], (B x6), []⟩], [⟨40, [(I (at_ a3 x4)), (I 0), (I (wrap64 ((a0.length : Int) - 1)))], [], (B x5), [], [], [], [], (B x5), []⟩, ⟨49, [(.sl true a1.length 3 (a1.flatMap e49)), (I a2), (.sl true a3.length 1 (a3.flatMap encI)), (I (at_ a3 x4)), (I x4)], [], (B x6), [], [], [], [], (B x6), []⟩]⟩ [c_ 14951, b_ 1, c_ 935, l_ 58, b_ 0, c_ 15] (alc (cok0 false (a2c (.z .s) (a2c (.z .s) (a2c (.z .s) a2n))) (.z .s) (fun h => absurd h (by decide))) (alc (bF (nF c8)) (alc ⟨c9, c10⟩ (alc (ldC1 encI_ok rfl c9 c10) (alc (okI encI_ok c9 c10 (by decide)) (alc ⟨c6, c11⟩ (alc (ldC e49_ok 2 (by decide) rfl c6 c11) (alc (okIj e49_ok c6 c11 (by decide)) (alc (bF (dF c12)) (alc (cok0 false (a2c (.z (frz_sl e49_ok (fun h => h))) (a2c (.z .s) (a2c (.z (frz_sl encI_ok (fun h => h))) (a2c (.z .s) (a2c (.z .s) a2n))))) (.z .s) (fun h => absurd h (by decide))) aln)))))))))) (acal (impl_between.J (at_ a3 x4) 0 (wrap64 ((a0.length : Int) - 1)) _ hx5) (acal (impl_room.J k a1 a2 a3 (at_ a3 x4) x4 _ hx6) nocal)) ?_
                    by_cases c13 : x6 = true
                    · rw [if_pos c13] at h
                      refine .cond' (.tmp 66) false [c_ 935, l_ 58, b_ 0, c_ 15] (bF (nF c13)) ?_
                      refine .reg' [0, 1, 2, 3, 31, 32, 33] [] ⟨[(0, (.sl true a0.length 1 (a0.flatMap encI))), (1, (.sl true a1.length 3 (a1.flatMap e49))), (2, (I a2)), (3, (.sl true a3.length 1 (a3.flatMap encI))), (31, (.sl true a3.length 1 (a3.flatMap encI))), (32, (I (a3.length : Int))), (33, (I (wrap64 (x4 + 1))))], [], [], []⟩ [l_ 58, b_ 0, c_ 15] aln nocal ?_
                      exact ih0 a0 a1 a2 a3 (wrap64 (x4 + 1)) _ h
                    · rw [if_neg c13] at h
                      refine .cond' (.tmp 66) true [c_ 59804, c_ 59805, b_ 1, c_ 935, l_ 58, b_ 0, c_ 15] (bT (nT (vF c13))) ?_
                      refine .reg' [8] [] ⟨[(8, (B false))], [], [], []⟩ [c_ 59805, b_ 1, c_ 935, l_ 58, b_ 0, c_ 15] aln nocal ?_
                      have h := Option.some.inj h
                      subst h
                      exact .fin0 [] (B false) [] aln (.z .s)
                · rw [if_neg c11] at h
                  cases h
              · rw [if_neg c10] at h
                cases h
            · rw [if_neg c9] at h
              cases h
          · rw [if_neg c8] at h
            refine .reg' [0, 1, 2, 3, 31, 32, 33, 66] [.no, .no, .no, .no, .c ⟨40, [(I (at_ a3 x4)), (I 0), (I (wrap64 ((a0.length : Int) - 1)))], [], (B x5), [], [], [], [], (B x5), []⟩, .no, .v (B true)] ⟨[(0, (.sl true a0.length 1 (a0.flatMap encI))), (1, (.sl true a1.length 3 (a1.flatMap e49))), (2, (I a2)), (3, (.sl true a3.length 1 (a3.flatMap encI))), (31, (.sl true a3.length 1 (a3.flatMap encI))), (32, (I (a3.length : Int))), (33, (I x4)), (66, (B true))], [], [COK (hget []) [(I (at_ a3 x4)), (I 0), (I (wrap64 ((a0.length : Int) - 1)))] ⟨40, [(I (at_ a3 x4)), (I 0), (I (wrap64 ((a0.length : Int) - 1)))], [], (B x5), [], [], [], [], (B x5), []⟩, (B (!x5) : V) = B true], [⟨40, [(I (at_ a3 x4)), (I 0), (I (wrap64 ((a0.length : Int) - 1)))], [], (B x5), [], [], [], [], (B x5), []⟩]⟩ [c_ 14951, b_ 1, c_ 935, l_ 58, b_ 0, c_ 15] (alc (cok0 false (a2c (.z .s) (a2c (.z .s) (a2c (.z .s) a2n))) (.z .s) (fun h => absurd h (by decide))) (alc (bT (nT (vF c8))) aln)) (acal (impl_between.J (at_ a3 x4) 0 (wrap64 ((a0.length : Int) - 1)) _ hx5) nocal) ?_
            refine .cond' (.tmp 66) true [c_ 59804, c_ 59805, b_ 1, c_ 935, l_ 58, b_ 0, c_ 15] (rfl) ?_
            refine .reg' [8] [] ⟨[(8, (B false))], [], [], []⟩ [c_ 59805, b_ 1, c_ 935, l_ 58, b_ 0, c_ 15] aln nocal ?_
            have h := Option.some.inj h
            subst h
            exact .fin0 [] (B false) [] aln (.z .s)
      · rw [if_neg c6] at h
        cases h
    · rw [if_neg c5] at h
      refine .cond' (.tmp 34) false [c_ 30, c_ 31] (bF (dF c5)) ?_
      refine .reg' [8] [] ⟨[(8, (B true))], [], [], []⟩ [c_ 31] aln nocal ?_
      have h := Option.some.inj h
      subst h
      exact .fin0 [] (B true) [] aln (.z .s)
theorem impl_AssignOk.J (k : Nat) (a0 : (List Int)) (a1 : (List S49)) (a2 : Int) (a3 : (List Int)) (r : Bool) (h : impl_AssignOk.f k a0 a1 a2 a3 = some r) : J prog (.call 24 [(.sl true a0.length 1 (a0.flatMap encI)), (.sl true a1.length 3 (a1.flatMap e49)), (I a2), (.sl true a3.length 1 (a3.flatMap encI))] [] (B r) []) := by
  unfold impl_AssignOk.f at h
  have ih0 := impl_AssignOk.lab k
  refine .call' [c_ 2, c_ 3] ?_
  refine .reg' [0, 1, 2, 3] [] ⟨[(0, (.sl true a0.length 1 (a0.flatMap encI))), (1, (.sl true a1.length 3 (a1.flatMap e49))), (2, (I a2)), (3, (.sl true a3.length 1 (a3.flatMap encI)))], [], [], []⟩ [c_ 12, c_ 13, c_ 7] aln nocal ?_
  obtain ⟨x1, hx1, h⟩ := Option.bind_eq_some_iff.mp h
  by_cases c1 : x1 = true
  · rw [if_pos c1] at h
    obtain ⟨x2, hx2, h⟩ := Option.bind_eq_some_iff.mp h
    by_cases c2 : x2 = true
    · rw [if_pos c2] at h
      obtain ⟨x3, hx3, h⟩ := Option.bind_eq_some_iff.mp h
      by_cases c3 : x3 = true
      · rw [if_pos c3] at h
        refine .reg' [0, 1, 2, 3, 30] [.no, .c ⟨14, [(.sl true a0.length 1 (a0.flatMap encI))], [], (B x1), [], [], [], [], (B x1), []⟩, .no, .v (B false), .no, .c ⟨19, [(.sl true a1.length 3 (a1.flatMap e49))], [], (B x2), [], [], [], [], (B x2), []⟩, .no, .no, .v (B false), .no, .c ⟨46, [(I a2)], [], (B x3), [], [], [], [], (B x3), []⟩, .no, .no, .v (B false)] ⟨[(0, (.sl true a0.length 1 (a0.flatMap encI))), (1, (.sl true a1.length 3 (a1.flatMap e49))), (2, (I a2)), (3, (.sl true a3.length 1 (a3.flatMap encI))), (30, (B (!((a3.length : Int) == (a1.length : Int)))))], [], [COK (hget []) [(.sl true a0.length 1 (a0.flatMap encI))] ⟨14, [(.sl true a0.length 1 (a0.flatMap encI))], [], (B x1), [], [], [], [], (B x1), []⟩, (B (!x1) : V) = B false, COK (hget []) [(.sl true a1.length 3 (a1.flatMap e49))] ⟨19, [(.sl true a1.length 3 (a1.flatMap e49))], [], (B x2), [], [], [], [], (B x2), []⟩, (B (!x2) : V) = B false, COK (hget []) [(I a2)] ⟨46, [(I a2)], [], (B x3), [], [], [], [], (B x3), []⟩, (B (!x3) : V) = B false], [⟨14, [(.sl true a0.length 1 (a0.flatMap encI))], [], (B x1), [], [], [], [], (B x1), []⟩, ⟨19, [(.sl true a1.length 3 (a1.flatMap e49))], [], (B x2), [], [], [], [], (B x2), []⟩, ⟨46, [(I a2)], [], (B x3), [], [], [], [], (B x3), []⟩]⟩ [c_ 13, c_ 7] (alc (cok0 false (a2c (.z (frz_sl encI_ok (fun h => h))) a2n) (.z .s) (fun h => absurd h (by decide))) (alc (bF (nF c1)) (alc (cok0 false (a2c (.z (frz_sl e49_ok (fun h => h))) a2n) (.z .s) (fun h => absurd h (by decide))) (alc (bF (nF c2)) (alc (cok0 false (a2c (.z .s) a2n) (.z .s) (fun h => absurd h (by decide))) (alc (bF (nF c3)) aln)))))) (acal (impl_BaysOk.J k a0 _ hx1) (acal (impl_StaysOk.J k a1 _ hx2) (acal (impl_gapOk.J a2 _ hx3) nocal))) ?_
        by_cases c4 : (a3.length : Int) = (a1.length : Int)
        · rw [if_pos c4] at h
          refine .cond' (.tmp 30) false [c_ 28, c_ 29, c_ 15] (bF (nF (qT c4))) ?_
          refine .reg' [0, 1, 2, 3, 31, 32, 33] [] ⟨[(0, (.sl true a0.length 1 (a0.flatMap encI))), (1, (.sl true a1.length 3 (a1.flatMap e49))), (2, (I a2)), (3, (.sl true a3.length 1 (a3.flatMap encI))), (31, (.sl true a3.length 1 (a3.flatMap encI))), (32, (I (a3.length : Int))), (33, (I 0))], [], [], []⟩ [l_ 58, b_ 0, c_ 15] aln nocal ?_
          exact ih0 a0 a1 a2 a3 0 _ h
        · rw [if_neg c4] at h
          refine .cond' (.tmp 30) true [c_ 52, c_ 53, c_ 7] (bT (nT (qF c4))) ?_
          refine .reg' [8] [] ⟨[(8, (B false))], [], [], []⟩ [c_ 53, c_ 7] aln nocal ?_
          have h := Option.some.inj h
          subst h
          exact .fin0 [] (B false) [] aln (.z .s)
      · rw [if_neg c3] at h
        refine .reg' [0, 1, 2, 3, 30] [.no, .c ⟨14, [(.sl true a0.length 1 (a0.flatMap encI))], [], (B x1), [], [], [], [], (B x1), []⟩, .no, .v (B false), .no, .c ⟨19, [(.sl true a1.length 3 (a1.flatMap e49))], [], (B x2), [], [], [], [], (B x2), []⟩, .no, .no, .v (B false), .no, .c ⟨46, [(I a2)], [], (B x3), [], [], [], [], (B x3), []⟩, .no, .no, .v (B true)] ⟨[(0, (.sl true a0.length 1 (a0.flatMap encI))), (1, (.sl true a1.length 3 (a1.flatMap e49))), (2, (I a2)), (3, (.sl true a3.length 1 (a3.flatMap encI))), (30, (B true))], [], [COK (hget []) [(.sl true a0.length 1 (a0.flatMap encI))] ⟨14, [(.sl true a0.length 1 (a0.flatMap encI))], [], (B x1), [], [], [], [], (B x1), []⟩, (B (!x1) : V) = B false, COK (hget []) [(.sl true a1.length 3 (a1.flatMap e49))] ⟨19, [(.sl true a1.length 3 (a1.flatMap e49))], [], (B x2), [], [], [], [], (B x2), []⟩, (B (!x2) : V) = B false, COK (hget []) [(I a2)] ⟨46, [(I a2)], [], (B x3), [], [], [], [], (B x3), []⟩, (B (!x3) : V) = B true], [⟨14, [(.sl true a0.length 1 (a0.flatMap encI))], [], (B x1), [], [], [], [], (B x1), []⟩, ⟨19, [(.sl true a1.length 3 (a1.flatMap e49))], [], (B x2), [], [], [], [], (B x2), []⟩, ⟨46, [(I a2)], [], (B x3), [], [], [], [], (B x3), []⟩]⟩ [c_ 13, c_ 7] (alc (cok0 false (a2c (.z (frz_sl encI_ok (fun h => h))) a2n) (.z .s) (fun h => absurd h (by decide))) (alc (bF (nF c1)) (alc (cok0 false (a2c (.z (frz_sl e49_ok (fun h => h))) a2n) (.z .s) (fun h => absurd h (by decide))) (alc (bF (nF c2)) (alc (cok0 false (a2c (.z .s) a2n) (.z .s) (fun h => absurd h (by decide))) (alc (bT (nT (vF c3))) aln)))))) (acal (impl_BaysOk.J k a0 _ hx1) (acal (impl_StaysOk.J k a1 _ hx2) (acal (impl_gapOk.J a2 _ hx3) nocal))) ?_
        refine .cond' (.tmp 30) true [c_ 52, c_ 53, c_ 7] (rfl) ?_
        refine .reg' [8] [] ⟨[(8, (B false))], [], [], []⟩ [c_ 53, c_ 7] aln nocal ?_
        have h := Option.some.inj h
        subst h
        exact .fin0 [] (B false) [] aln (.z .s)
    · rw [if_neg c2] at h
      refine .reg' [0, 1, 2, 3, 30] [.no, .c ⟨14, [(.sl true a0.length 1 (a0.flatMap encI))], [], (B x1), [], [], [], [], (B x1), []⟩, .no, .v (B false), .no, .c ⟨19, [(.sl true a1.length 3 (a1.flatMap e49))], [], (B x2), [], [], [], [], (B x2), []⟩, .no, .no, .v (B true)] ⟨[(0, (.sl true a0.length 1 (a0.flatMap encI))), (1, (.sl true a1.length 3 (a1.flatMap e49))), (2, (I a2)), (3, (.sl true a3.length 1 (a3.flatMap encI))), (30, (B true))], [], [COK (hget []) [(.sl true a0.length 1 (a0.flatMap encI))] ⟨14, [(.sl true a0.length 1 (a0.flatMap encI))], [], (B x1), [], [], [], [], (B x1), []⟩, (B (!x1) : V) = B false, COK (hget []) [(.sl true a1.length 3 (a1.flatMap e49))] ⟨19, [(.sl true a1.length 3 (a1.flatMap e49))], [], (B x2), [], [], [], [], (B x2), []⟩, (B (!x2) : V) = B true], [⟨14, [(.sl true a0.length 1 (a0.flatMap encI))], [], (B x1), [], [], [], [], (B x1), []⟩, ⟨19, [(.sl true a1.length 3 (a1.flatMap e49))], [], (B x2), [], [], [], [], (B x2), []⟩]⟩ [c_ 13, c_ 7] (alc (cok0 false (a2c (.z (frz_sl encI_ok (fun h => h))) a2n) (.z .s) (fun h => absurd h (by decide))) (alc (bF (nF c1)) (alc (cok0 false (a2c (.z (frz_sl e49_ok (fun h => h))) a2n) (.z .s) (fun h => absurd h (by decide))) (alc (bT (nT (vF c2))) aln)))) (acal (impl_BaysOk.J k a0 _ hx1) (acal (impl_StaysOk.J k a1 _ hx2) nocal)) ?_
      refine .cond' (.tmp 30) true [c_ 52, c_ 53, c_ 7] (rfl) ?_
      refine .reg' [8] [] ⟨[(8, (B false))], [], [], []⟩ [c_ 53, c_ 7] aln nocal ?_
      have h := Option.some.inj h
      subst h
      exact .fin0 [] (B false) [] aln (.z .s)
  · rw [if_neg c1] at h
    refine .reg' [0, 1, 2, 3, 30] [.no, .c ⟨14, [(.sl true a0.length 1 (a0.flatMap encI))], [], (B x1), [], [], [], [], (B x1), []⟩, .no, .v (B true)] ⟨[(0, (.sl true a0.length 1 (a0.flatMap encI))), (1, (.sl true a1.length 3 (a1.flatMap e49))), (2, (I a2)), (3, (.sl true a3.length 1 (a3.flatMap encI))), (30, (B true))], [], [COK (hget []) [(.sl true a0.length 1 (a0.flatMap encI))] ⟨14, [(.sl true a0.length 1 (a0.flatMap encI))], [], (B x1), [], [], [], [], (B x1), []⟩, (B (!x1) : V) = B true], [⟨14, [(.sl true a0.length 1 (a0.flatMap encI))], [], (B x1), [], [], [], [], (B x1), []⟩]⟩ [c_ 13, c_ 7] (alc (cok0 false (a2c (.z (frz_sl encI_ok (fun h => h))) a2n) (.z .s) (fun h => absurd h (by decide))) (alc (bT (nT (vF c1))) aln)) (acal (impl_BaysOk.J k a0 _ hx1) nocal) ?_
    refine .cond' (.tmp 30) true [c_ 52, c_ 53, c_ 7] (rfl) ?_
    refine .reg' [8] [] ⟨[(8, (B false))], [], [], []⟩ [c_ 53, c_ 7] aln nocal ?_
    have h := Option.some.inj h
    subst h
    exact .fin0 [] (B false) [] aln (.z .s)
/-! spec_l01In: function 39 -/
def spec_l01In.f (a0 : Int) (a1 : Int) (a2 : Int) : Option Bool := (if a1 ≤ a0 then (some (decide (a0 ≤ a2))) else (some false))
theorem spec_l01In.J (a0 : Int) (a1 : Int) (a2 : Int) (r : Bool) (h : spec_l01In.f a0 a1 a2 = some r) : J prog (.call 39 [(I a0), (I a1), (I a2)] [] (B r) []) := by
  unfold spec_l01In.f at h
  refine .call' [c_ 2, c_ 3] ?_
  refine .reg' [0, 1, 2] [] ⟨[(0, (I a0)), (1, (I a1)), (2, (I a2))], [], [], []⟩ [c_ 6, c_ 7] aln nocal ?_
  by_cases c1 : a1 ≤ a0
  · rw [if_pos c1] at h
    refine .reg' [6] [.no, .no, .no, .v (B true)] ⟨[(6, (B (decide (a0 ≤ a2))))], [], [(B (decide (a1 ≤ a0)) : V) = B true], []⟩ [c_ 7] (alc (bT (dT c1)) aln) nocal ?_
    have h := Option.some.inj h
    subst h
    exact .fin0 [] (B (decide (a0 ≤ a2))) [] aln (.z .s)
  · rw [if_neg c1] at h
    refine .reg' [6] [.no, .no, .no, .v (B false)] ⟨[(6, (B false))], [], [(B (decide (a1 ≤ a0)) : V) = B false], []⟩ [c_ 7] (alc (bF (dF c1)) aln) nocal ?_
    have h := Option.some.inj h
    subst h
    exact .fin0 [] (B false) [] aln (.z .s)
/-! spec_BaysOk: function 12 -/
def spec_BaysOk.l0 : Nat → (List Int) → Int → Option Bool
 | 0, _, _ => none
 | k + 1, a0, x1 => (if x1 < (a0.length : Int) then (if 0 ≤ x1 then ((spec_l01In.f (at_ a0 x1) 1 1000).bind fun x2 => (if x2 = true then (spec_BaysOk.l0 k a0 (wrap64 (x1 + 1))) else (some false))) else none) else ((spec_l01In.f (a0.length : Int) 1 12).bind fun x3 => (some x3)))
def spec_BaysOk.f (k : Nat) (a0 : (List Int)) : Option Bool := (spec_BaysOk.l0 k a0 0)
theorem spec_BaysOk.lab : ∀ k, (∀ (a0 : (List Int)) (x1 : Int) (r : Bool), spec_BaysOk.l0 k a0 x1 = some r → J prog (.run 12 [] [l_ 26, b_ 0, c_ 7] [(0, (.sl true a0.length 1 (a0.flatMap encI))), (3, (I x1))] [] (B r) []))
 | 0 => (by intro a0 x1 r h; unfold spec_BaysOk.l0 at h; cases h)
 | k + 1 => by
  have ih0 := spec_BaysOk.lab k
  · intro a0 x1 r h
    unfold spec_BaysOk.l0 at h
    refine .loop' [c_ 208, c_ 209, c_ 105, l_ 26, b_ 0, c_ 7] ?_
    refine .reg' [0, 3, 7] [] ⟨[(0, (.sl true a0.length 1 (a0.flatMap encI))), (3, (I x1)), (7, (B (decide (x1 < (a0.length : Int)))))], [], [], []⟩ [c_ 209, c_ 105, l_ 26, b_ 0, c_ 7] aln nocal ?_
    by_cases c1 : x1 < (a0.length : Int)
    · rw [if_pos c1] at h
      refine .cond' (.tmp 7) true [c_ 840, c_ 841, b_ 1, c_ 211, l_ 26, b_ 0, c_ 7] (bT (dT c1)) ?_
      by_cases c2 : 0 ≤ x1
      · rw [if_pos c2] at h
        obtain ⟨x2, hx2, h⟩ := Option.bind_eq_some_iff.mp h
        refine .reg' [0, 3, 15] [.no, .no, .no, .v (I (at_ a0 x1)), .c ⟨39, [(I (at_ a0 x1)), (I 1), (I 1000)], [], (B x2), [], [], [], [], (B x2), []⟩] ⟨[(0, (.sl true a0.length 1 (a0.flatMap encI))), (3, (I x1)), (15, (B (!x2)))], [], [(0 : Int) ≤ x1 ∧ x1 < (a0.length : Int), rdC prog 3 ((a0.flatMap encI).drop (x1.toNat * 1)) = (I (at_ a0 x1)), 1 ≤ ((a0.flatMap encI).drop (x1.toNat * 1)).length, COK (hget []) [(I (at_ a0 x1)), (I 1), (I 1000)] ⟨39, [(I (at_ a0 x1)), (I 1), (I 1000)], [], (B x2), [], [], [], [], (B x2), []⟩], [⟨39, [(I (at_ a0 x1)), (I 1), (I 1000)], [], (B x2), [], [], [], [], (B x2), []⟩]⟩ [c_ 841, b_ 1, c_ 211, l_ 26, b_ 0, c_ 7] (alc ⟨c2, c1⟩ (alc (ldC1 encI_ok rfl c2 c1) (alc (okI encI_ok c2 c1 (by decide)) (alc (cok0 false (a2c (.z .s) (a2c (.z .s) (a2c (.z .s) a2n))) (.z .s) (fun h => absurd h (by decide))) aln)))) (acal (spec_l01In.J (at_ a0 x1) 1 1000 _ hx2) nocal) ?_
        by_cases c3 : x2 = true
        · rw [if_pos c3] at h
          refine .cond' (.tmp 15) false [c_ 211, l_ 26, b_ 0, c_ 7] (bF (nF c3)) ?_
          refine .reg' [0, 3] [] ⟨[(0, (.sl true a0.length 1 (a0.flatMap encI))), (3, (I (wrap64 (x1 + 1))))], [], [], []⟩ [l_ 26, b_ 0, c_ 7] aln nocal ?_
          exact ih0 a0 (wrap64 (x1 + 1)) _ h
        · rw [if_neg c3] at h
          refine .cond' (.tmp 15) true [c_ 3364, c_ 3365, b_ 1, c_ 211, l_ 26, b_ 0, c_ 7] (bT (nT (vF c3))) ?_
          refine .reg' [2] [] ⟨[(2, (B false))], [], [], []⟩ [c_ 3365, b_ 1, c_ 211, l_ 26, b_ 0, c_ 7] aln nocal ?_
          have h := Option.some.inj h
          subst h
          exact .fin0 [] (B false) [] aln (.z .s)
      · rw [if_neg c2] at h
        cases h
    · rw [if_neg c1] at h
      refine .cond' (.tmp 7) false [c_ 14, c_ 15] (bF (dF c1)) ?_
      obtain ⟨x3, hx3, h⟩ := Option.bind_eq_some_iff.mp h
      refine .reg' [2] [.no, .no, .c ⟨39, [(I (a0.length : Int)), (I 1), (I 12)], [], (B x3), [], [], [], [], (B x3), []⟩] ⟨[(2, (B x3))], [], [COK (hget []) [(I (a0.length : Int)), (I 1), (I 12)] ⟨39, [(I (a0.length : Int)), (I 1), (I 12)], [], (B x3), [], [], [], [], (B x3), []⟩], [⟨39, [(I (a0.length : Int)), (I 1), (I 12)], [], (B x3), [], [], [], [], (B x3), []⟩]⟩ [c_ 15] (alc (cok0 false (a2c (.z .s) (a2c (.z .s) (a2c (.z .s) a2n))) (.z .s) (fun h => absurd h (by decide))) aln) (acal (spec_l01In.J (a0.length : Int) 1 12 _ hx3) nocal) ?_
      have h := Option.some.inj h
      subst h
      exact .fin0 [] (B x3) [] aln (.z .s)
theorem spec_BaysOk.J (k : Nat) (a0 : (List Int)) (r : Bool) (h : spec_BaysOk.f k a0 = some r) : J prog (.call 12 [(.sl true a0.length 1 (a0.flatMap encI))] [] (B r) []) := by
  unfold spec_BaysOk.f at h
  have ih0 := spec_BaysOk.lab k
  refine .call' [c_ 2, c_ 3] ?_
  refine .reg' [0] [] ⟨[(0, (.sl true a0.length 1 (a0.flatMap encI)))], [], [], []⟩ [c_ 12, c_ 13, c_ 7] aln nocal ?_
  refine .reg' [0, 3] [] ⟨[(0, (.sl true a0.length 1 (a0.flatMap encI))), (3, (I 0))], [], [], []⟩ [l_ 26, b_ 0, c_ 7] aln nocal ?_
  exact ih0 a0 0 _ h
/-! spec_StaysOk: function 17 -/
def spec_StaysOk.l0 : Nat → (List S49) → Int → Option Bool
 | 0, _, _ => none
 | k + 1, a0, x1 => (if x1 < (a0.length : Int) then (if 0 ≤ x1 then ((spec_l01In.f ((at_ a0 x1).f1) 0 100000).bind fun x2 => (if x2 = true then ((spec_l01In.f ((at_ a0 x1).f0) 0 ((at_ a0 x1).f1)).bind fun x3 => (if x3 = true then ((spec_l01In.f ((at_ a0 x1).f2) 1 1000).bind fun x4 => (if x4 = true then (spec_StaysOk.l0 k a0 (wrap64 (x1 + 1))) else (some false))) else (some false))) else (some false))) else none) else (some (decide ((a0.length : Int) ≤ 60))))
def spec_StaysOk.f (k : Nat) (a0 : (List S49)) : Option Bool := (spec_StaysOk.l0 k a0 0)
theorem spec_StaysOk.lab : ∀ k, (∀ (a0 : (List S49)) (x1 : Int) (r : Bool), spec_StaysOk.l0 k a0 x1 = some r → J prog (.run 17 [] [l_ 26, b_ 0, c_ 7] [(0, (.sl true a0.length 3 (a0.flatMap e49))), (3, (I x1))] [] (B r) []))
 | 0 => (by intro a0 x1 r h; unfold spec_StaysOk.l0 at h; cases h)
 | k + 1 => by
  have ih0 := spec_StaysOk.lab k
  · intro a0 x1 r h
    unfold spec_StaysOk.l0 at h
    refine .loop' [c_ 208, c_ 209, c_ 105, l_ 26, b_ 0, c_ 7] ?_
    refine .reg' [0, 3, 8] [] ⟨[(0, (.sl true a0.length 3 (a0.flatMap e49))), (3, (I x1)), (8, (B (decide (x1 < (a0.length : Int)))))], [], [], []⟩ [c_ 209, c_ 105, l_ 26, b_ 0, c_ 7] aln nocal ?_
    by_cases c1 : x1 < (a0.length : Int)
    · rw [if_pos c1] at h
      refine .cond' (.tmp 8) true [c_ 840, c_ 841, b_ 1, c_ 211, l_ 26, b_ 0, c_ 7] (bT (dT c1)) ?_
      by_cases c2 : 0 ≤ x1
      · rw [if_pos c2] at h
        refine .reg' [0, 3, 4] [.no, .no, .no, .v (.ag [(I (at_ a0 x1).f0), (I (at_ a0 x1).f1), (I (at_ a0 x1).f2)])] ⟨[(0, (.sl true a0.length 3 (a0.flatMap e49))), (3, (I x1)), (4, (.pt 1284 0 3))], [(1284, [(I (at_ a0 x1).f0), (I (at_ a0 x1).f1), (I (at_ a0 x1).f2)])], [(0 : Int) ≤ x1 ∧ x1 < (a0.length : Int), rdC prog 50 ((a0.flatMap e49).drop (x1.toNat * 3)) = (.ag [(I (at_ a0 x1).f0), (I (at_ a0 x1).f1), (I (at_ a0 x1).f2)]), 3 ≤ ((a0.flatMap e49).drop (x1.toNat * 3)).length, 3 = 3 ∧ 0 + 3 ≤ 3], []⟩ [c_ 1682, c_ 1683, b_ 1, c_ 211, l_ 26, b_ 0, c_ 7] (alc ⟨c2, c1⟩ (alc (ldA e49_ok rfl rfl c2 c1) (alc (okI e49_ok c2 c1 (by decide)) (alc ⟨rfl, by decide⟩ aln)))) nocal ?_
        obtain ⟨x2, hx2, h⟩ := Option.bind_eq_some_iff.mp h
        by_cases c3 : x2 = true
        · rw [if_pos c3] at h
          obtain ⟨x3, hx3, h⟩ := Option.bind_eq_some_iff.mp h
          by_cases c4 : x3 = true
          · rw [if_pos c4] at h
            obtain ⟨x4, hx4, h⟩ := Option.bind_eq_some_iff.mp h
            refine .reg' [0, 3, 32] [.no, .no, .c ⟨39, [(I (at_ a0 x1).f1), (I 0), (I 100000)], [], (B x2), [], [], [], [], (B x2), []⟩, .no, .v (B false), .no, .no, .no, .no, .c ⟨39, [(I (at_ a0 x1).f0), (I 0), (I (at_ a0 x1).f1)], [], (B x3), [], [], [], [], (B x3), []⟩, .no, .no, .v (B false), .no, .no, .c ⟨39, [(I (at_ a0 x1).f2), (I 1), (I 1000)], [], (B x4), [], [], [], [], (B x4), []⟩] ⟨[(0, (.sl true a0.length 3 (a0.flatMap e49))), (3, (I x1)), (32, (B (!x4)))], [(1284, [(I (at_ a0 x1).f0), (I (at_ a0 x1).f1), (I (at_ a0 x1).f2)])], [3 = 3 ∧ 1 + 1 ≤ 3, COK (hget [(1284, [(I (at_ a0 x1).f0), (I (at_ a0 x1).f1), (I (at_ a0 x1).f2)])]) [(I (at_ a0 x1).f1), (I 0), (I 100000)] ⟨39, [(I (at_ a0 x1).f1), (I 0), (I 100000)], [], (B x2), [], [], [], [], (B x2), []⟩, (B (!x2) : V) = B false, 3 = 3 ∧ 0 + 1 ≤ 3, 3 = 3 ∧ 1 + 1 ≤ 3, COK (hget [(1284, [(I (at_ a0 x1).f0), (I (at_ a0 x1).f1), (I (at_ a0 x1).f2)])]) [(I (at_ a0 x1).f0), (I 0), (I (at_ a0 x1).f1)] ⟨39, [(I (at_ a0 x1).f0), (I 0), (I (at_ a0 x1).f1)], [], (B x3), [], [], [], [], (B x3), []⟩, (B (!x3) : V) = B false, 3 = 3 ∧ 2 + 1 ≤ 3, COK (hget [(1284, [(I (at_ a0 x1).f0), (I (at_ a0 x1).f1), (I (at_ a0 x1).f2)])]) [(I (at_ a0 x1).f2), (I 1), (I 1000)] ⟨39, [(I (at_ a0 x1).f2), (I 1), (I 1000)], [], (B x4), [], [], [], [], (B x4), []⟩], [⟨39, [(I (at_ a0 x1).f1), (I 0), (I 100000)], [], (B x2), [], [], [], [], (B x2), []⟩, ⟨39, [(I (at_ a0 x1).f0), (I 0), (I (at_ a0 x1).f1)], [], (B x3), [], [], [], [], (B x3), []⟩, ⟨39, [(I (at_ a0 x1).f2), (I 1), (I 1000)], [], (B x4), [], [], [], [], (B x4), []⟩]⟩ [c_ 1683, b_ 1, c_ 211, l_ 26, b_ 0, c_ 7] (alc ⟨rfl, by decide⟩ (alc (cok0 false (a2c (.z .s) (a2c (.z .s) (a2c (.z .s) a2n))) (.z .s) (fun h => absurd h (by decide))) (alc (bF (nF c3)) (alc ⟨rfl, by decide⟩ (alc ⟨rfl, by decide⟩ (alc (cok0 false (a2c (.z .s) (a2c (.z .s) (a2c (.z .s) a2n))) (.z .s) (fun h => absurd h (by decide))) (alc (bF (nF c4)) (alc ⟨rfl, by decide⟩ (alc (cok0 false (a2c (.z .s) (a2c (.z .s) (a2c (.z .s) a2n))) (.z .s) (fun h => absurd h (by decide))) aln))))))))) (acal (spec_l01In.J ((at_ a0 x1).f1) 0 100000 _ hx2) (acal (spec_l01In.J ((at_ a0 x1).f0) 0 ((at_ a0 x1).f1) _ hx3) (acal (spec_l01In.J ((at_ a0 x1).f2) 1 1000 _ hx4) nocal))) ?_
            by_cases c5 : x4 = true
            · rw [if_pos c5] at h
              refine .cond' (.tmp 32) false [c_ 211, l_ 26, b_ 0, c_ 7] (bF (nF c5)) ?_
              refine .reg' [0, 3] [] ⟨[(0, (.sl true a0.length 3 (a0.flatMap e49))), (3, (I (wrap64 (x1 + 1))))], [(1284, [(I (at_ a0 x1).f0), (I (at_ a0 x1).f1), (I (at_ a0 x1).f2)])], [], []⟩ [l_ 26, b_ 0, c_ 7] aln nocal ?_
              refine .wk' [] [] [(0, (.sl true a0.length 3 (a0.flatMap e49))), (3, (I (wrap64 (x1 + 1))))] [] shn (enc_ (.z (frz_sl e49_ok (fun h => h))) (enc_ (.z .s) enn)) ?_
              exact ih0 a0 (wrap64 (x1 + 1)) _ h
            · rw [if_neg c5] at h
              refine .cond' (.tmp 32) true [c_ 6732, c_ 6733, b_ 1, c_ 211, l_ 26, b_ 0, c_ 7] (bT (nT (vF c5))) ?_
              refine .reg' [2] [] ⟨[(2, (B false))], [(1284, [(I (at_ a0 x1).f0), (I (at_ a0 x1).f1), (I (at_ a0 x1).f2)])], [], []⟩ [c_ 6733, b_ 1, c_ 211, l_ 26, b_ 0, c_ 7] aln nocal ?_
              have h := Option.some.inj h
              subst h
              exact .fin0 [] (B false) [] aln (.z .s)
          · rw [if_neg c4] at h
            refine .reg' [0, 3, 32] [.no, .no, .c ⟨39, [(I (at_ a0 x1).f1), (I 0), (I 100000)], [], (B x2), [], [], [], [], (B x2), []⟩, .no, .v (B false), .no, .no, .no, .no, .c ⟨39, [(I (at_ a0 x1).f0), (I 0), (I (at_ a0 x1).f1)], [], (B x3), [], [], [], [], (B x3), []⟩, .no, .no, .v (B true)] ⟨[(0, (.sl true a0.length 3 (a0.flatMap e49))), (3, (I x1)), (32, (B true))], [(1284, [(I (at_ a0 x1).f0), (I (at_ a0 x1).f1), (I (at_ a0 x1).f2)])], [3 = 3 ∧ 1 + 1 ≤ 3, COK (hget [(1284, [(I (at_ a0 x1).f0), (I (at_ a0 x1).f1), (I (at_ a0 x1).f2)])]) [(I (at_ a0 x1).f1), (I 0), (I 100000)] ⟨39, [(I (at_ a0 x1).f1), (I 0), (I 100000)], [], (B x2), [], [], [], [], (B x2), []⟩, (B (!x2) : V) = B false, 3 = 3 ∧ 0 + 1 ≤ 3, 3 = 3 ∧ 1 + 1 ≤ 3, COK (hget [(1284, [(I (at_ a0 x1).f0), (I (at_ a0 x1).f1), (I (at_ a0 x1).f2)])]) [(I (at_ a0 x1).f0), (I 0), (I (at_ a0 x1).f1)] ⟨39, [(I (at_ a0 x1).f0), (I 0), (I (at_ a0 x1).f1)], [], (B x3), [], [], [], [], (B x3), []⟩, (B (!x3) : V) = B true], [⟨39, [(I (at_ a0 x1).f1), (I 0), (I 100000)], [], (B x2), [], [], [], [], (B x2), []⟩, ⟨39, [(I (at_ a0 x1).f0), (I 0), (I (at_ a0 x1).f1)], [], (B x3), [], [], [], [], (B x3), []⟩]⟩ [c_ 1683, b_ 1, c_ 211, l_ 26, b_ 0, c_ 7] (alc ⟨rfl, by decide⟩ (alc (cok0 false (a2c (.z .s) (a2c (.z .s) (a2c (.z .s) a2n))) (.z .s) (fun h => absurd h (by decide))) (alc (bF (nF c3)) (alc ⟨rfl, by decide⟩ (alc ⟨rfl, by decide⟩ (alc (cok0 false (a2c (.z .s) (a2c (.z .s) (a2c (.z .s) a2n))) (.z .s) (fun h => absurd h (by decide))) (alc (bT (nT (vF c4))) aln))))))) (acal (spec_l01In.J ((at_ a0 x1).f1) 0 100000 _ hx2) (acal (spec_l01In.J ((at_ a0 x1).f0) 0 ((at_ a0 x1).f1) _ hx3) nocal)) ?_
            refine .cond' (.tmp 32) true [c_ 6732, c_ 6733, b_ 1, c_ 211, l_ 26, b_ 0, c_ 7] (rfl) ?_
            refine .reg' [2] [] ⟨[(2, (B false))], [(1284, [(I (at_ a0 x1).f0), (I (at_ a0 x1).f1), (I (at_ a0 x1).f2)])], [], []⟩ [c_ 6733, b_ 1, c_ 211, l_ 26, b_ 0, c_ 7] aln nocal ?_
            have h := Option.some.inj h
            subst h
            exact .fin0 [] (B false) [] aln (.z .s)
        · rw [if_neg c3] at h
          refine .reg' [0, 3, 32] [.no, .no, .c ⟨39, [(I (at_ a0 x1).f1), (I 0), (I 100000)], [], (B x2), [], [], [], [], (B x2), []⟩, .no, .v (B true)] ⟨[(0, (.sl true a0.length 3 (a0.flatMap e49))), (3, (I x1)), (32, (B true))], [(1284, [(I (at_ a0 x1).f0), (I (at_ a0 x1).f1), (I (at_ a0 x1).f2)])], [3 = 3 ∧ 1 + 1 ≤ 3, COK (hget [(1284, [(I (at_ a0 x1).f0), (I (at_ a0 x1).f1), (I (at_ a0 x1).f2)])]) [(I (at_ a0 x1).f1), (I 0), (I 100000)] ⟨39, [(I (at_ a0 x1).f1), (I 0), (I 100000)], [], (B x2), [], [], [], [], (B x2), []⟩, (B (!x2) : V) = B true], [⟨39, [(I (at_ a0 x1).f1), (I 0), (I 100000)], [], (B x2), [], [], [], [], (B x2), []⟩]⟩ [c_ 1683, b_ 1, c_ 211, l_ 26, b_ 0, c_ 7] (alc ⟨rfl, by decide⟩ (alc (cok0 false (a2c (.z .s) (a2c (.z .s) (a2c (.z .s) a2n))) (.z .s) (fun h => absurd h (by decide))) (alc (bT (nT (vF c3))) aln))) (acal (spec_l01In.J ((at_ a0 x1).f1) 0 100000 _ hx2) nocal) ?_
          refine .cond' (.tmp 32) true [c_ 6732, c_ 6733, b_ 1, c_ 211, l_ 26, b_ 0, c_ 7] (rfl) ?_
          refine .reg' [2] [] ⟨[(2, (B false))], [(1284, [(I (at_ a0 x1).f0), (I (at_ a0 x1).f1), (I (at_ a0 x1).f2)])], [], []⟩ [c_ 6733, b_ 1, c_ 211, l_ 26, b_ 0, c_ 7] aln nocal ?_
          have h := Option.some.inj h
          subst h
          exact .fin0 [] (B false) [] aln (.z .s)
      · rw [if_neg c2] at h
        cases h
    · rw [if_neg c1] at h
      refine .cond' (.tmp 8) false [c_ 14, c_ 15] (bF (dF c1)) ?_
      refine .reg' [2] [] ⟨[(2, (B (decide ((a0.length : Int) ≤ 60))))], [], [], []⟩ [c_ 15] aln nocal ?_
      have h := Option.some.inj h
      subst h
      exact .fin0 [] (B (decide ((a0.length : Int) ≤ 60))) [] aln (.z .s)
theorem spec_StaysOk.J (k : Nat) (a0 : (List S49)) (r : Bool) (h : spec_StaysOk.f k a0 = some r) : J prog (.call 17 [(.sl true a0.length 3 (a0.flatMap e49))] [] (B r) []) := by
  unfold spec_StaysOk.f at h
  have ih0 := spec_StaysOk.lab k
  refine .call' [c_ 2, c_ 3] ?_
  refine .reg' [0] [] ⟨[(0, (.sl true a0.length 3 (a0.flatMap e49)))], [], [], []⟩ [c_ 12, c_ 13, c_ 7] aln nocal ?_
  refine .reg' [0, 3] [] ⟨[(0, (.sl true a0.length 3 (a0.flatMap e49))), (3, (I 0))], [], [], []⟩ [l_ 26, b_ 0, c_ 7] aln nocal ?_
  exact ih0 a0 0 _ h
/-! spec_l10Gap: function 44 -/
def spec_l10Gap.f (a0 : Int) : Option Bool := ((spec_l01In.f a0 1 60).bind fun x1 => (some x1))
theorem spec_l10Gap.J (a0 : Int) (r : Bool) (h : spec_l10Gap.f a0 = some r) : J prog (.call 44 [(I a0)] [] (B r) []) := by
  unfold spec_l10Gap.f at h
  refine .call' [c_ 2, c_ 3] ?_
  refine .reg' [0] [] ⟨[(0, (I a0))], [], [], []⟩ [c_ 6, c_ 7] aln nocal ?_
  obtain ⟨x1, hx1, h⟩ := Option.bind_eq_some_iff.mp h
  refine .reg' [2] [.no, .c ⟨39, [(I a0), (I 1), (I 60)], [], (B x1), [], [], [], [], (B x1), []⟩] ⟨[(2, (B x1))], [], [COK (hget []) [(I a0), (I 1), (I 60)] ⟨39, [(I a0), (I 1), (I 60)], [], (B x1), [], [], [], [], (B x1), []⟩], [⟨39, [(I a0), (I 1), (I 60)], [], (B x1), [], [], [], [], (B x1), []⟩]⟩ [c_ 7] (alc (cok0 false (a2c (.z .s) (a2c (.z .s) (a2c (.z .s) a2n))) (.z .s) (fun h => absurd h (by decide))) aln) (acal (spec_l01In.J a0 1 60 _ hx1) nocal) ?_
  have h := Option.some.inj h
  subst h
  exact .fin0 [] (B x1) [] aln (.z .s)
/-! spec_l01Has: function 57 -/
def spec_l01Has.l0 : Nat → (List Int) → Int → Int → Option Bool
 | 0, _, _, _ => none
 | k + 1, a0, a1, x1 => (if x1 < (a0.length : Int) then (if 0 ≤ x1 then (if (at_ a0 x1) = a1 then (some true) else (spec_l01Has.l0 k a0 a1 (wrap64 (x1 + 1)))) else none) else (some false))
def spec_l01Has.f (k : Nat) (a0 : (List Int)) (a1 : Int) : Option Bool := (spec_l01Has.l0 k a0 a1 0)
theorem spec_l01Has.lab : ∀ k, (∀ (a0 : (List Int)) (a1 : Int) (x1 : Int) (r : Bool), spec_l01Has.l0 k a0 a1 x1 = some r → J prog (.run 57 [] [l_ 26, b_ 0, c_ 7] [(0, (.sl true a0.length 1 (a0.flatMap encI))), (1, (I a1)), (5, (I x1))] [] (B r) []))
 | 0 => (by intro a0 a1 x1 r h; unfold spec_l01Has.l0 at h; cases h)
 | k + 1 => by
  have ih0 := spec_l01Has.lab k
  · intro a0 a1 x1 r h
    unfold spec_l01Has.l0 at h
    refine .loop' [c_ 208, c_ 209, c_ 105, l_ 26, b_ 0, c_ 7] ?_
    refine .reg' [0, 1, 5, 9] [] ⟨[(0, (.sl true a0.length 1 (a0.flatMap encI))), (1, (I a1)), (5, (I x1)), (9, (B (decide (x1 < (a0.length : Int)))))], [], [], []⟩ [c_ 209, c_ 105, l_ 26, b_ 0, c_ 7] aln nocal ?_
    by_cases c1 : x1 < (a0.length : Int)
    · rw [if_pos c1] at h
      refine .cond' (.tmp 9) true [c_ 840, c_ 841, b_ 1, c_ 211, l_ 26, b_ 0, c_ 7] (bT (dT c1)) ?_
      by_cases c2 : 0 ≤ x1
      · rw [if_pos c2] at h
        refine .reg' [0, 1, 5, 17] [.no, .no, .no, .v (I (at_ a0 x1))] ⟨[(0, (.sl true a0.length 1 (a0.flatMap encI))), (1, (I a1)), (5, (I x1)), (17, (B ((at_ a0 x1) == a1)))], [], [(0 : Int) ≤ x1 ∧ x1 < (a0.length : Int), rdC prog 3 ((a0.flatMap encI).drop (x1.toNat * 1)) = (I (at_ a0 x1)), 1 ≤ ((a0.flatMap encI).drop (x1.toNat * 1)).length], []⟩ [c_ 841, b_ 1, c_ 211, l_ 26, b_ 0, c_ 7] (alc ⟨c2, c1⟩ (alc (ldC1 encI_ok rfl c2 c1) (alc (okI encI_ok c2 c1 (by decide)) aln))) nocal ?_
        by_cases c3 : (at_ a0 x1) = a1
        · rw [if_pos c3] at h
          refine .cond' (.tmp 17) true [c_ 3364, c_ 3365, b_ 1, c_ 211, l_ 26, b_ 0, c_ 7] (bT (qT c3)) ?_
          refine .reg' [4] [] ⟨[(4, (B true))], [], [], []⟩ [c_ 3365, b_ 1, c_ 211, l_ 26, b_ 0, c_ 7] aln nocal ?_
          have h := Option.some.inj h
          subst h
          exact .fin0 [] (B true) [] aln (.z .s)
        · rw [if_neg c3] at h
          refine .cond' (.tmp 17) false [c_ 211, l_ 26, b_ 0, c_ 7] (bF (qF c3)) ?_
          refine .reg' [0, 1, 5] [] ⟨[(0, (.sl true a0.length 1 (a0.flatMap encI))), (1, (I a1)), (5, (I (wrap64 (x1 + 1))))], [], [], []⟩ [l_ 26, b_ 0, c_ 7] aln nocal ?_
          exact ih0 a0 a1 (wrap64 (x1 + 1)) _ h
      · rw [if_neg c2] at h
        cases h
    · rw [if_neg c1] at h
      refine .cond' (.tmp 9) false [c_ 14, c_ 15] (bF (dF c1)) ?_
      refine .reg' [4] [] ⟨[(4, (B false))], [], [], []⟩ [c_ 15] aln nocal ?_
      have h := Option.some.inj h
      subst h
      exact .fin0 [] (B false) [] aln (.z .s)
theorem spec_l01Has.J (k : Nat) (a0 : (List Int)) (a1 : Int) (r : Bool) (h : spec_l01Has.f k a0 a1 = some r) : J prog (.call 57 [(.sl true a0.length 1 (a0.flatMap encI)), (I a1)] [] (B r) []) := by
  unfold spec_l01Has.f at h
  have ih0 := spec_l01Has.lab k
  refine .call' [c_ 2, c_ 3] ?_
  refine .reg' [0, 1] [] ⟨[(0, (.sl true a0.length 1 (a0.flatMap encI))), (1, (I a1))], [], [], []⟩ [c_ 12, c_ 13, c_ 7] aln nocal ?_
  refine .reg' [0, 1, 5] [] ⟨[(0, (.sl true a0.length 1 (a0.flatMap encI))), (1, (I a1)), (5, (I 0))], [], [], []⟩ [l_ 26, b_ 0, c_ 7] aln nocal ?_
  exact ih0 a0 a1 0 _ h
/-! spec_l10Order: function 50 -/
mutual
def spec_l10Order.l0 : Nat → (List S49) → (List Int) → Option (List Int)
 | 0, _, _ => none
 | k + 1, a0, x1 => (if (x1.length : Int) < (a0.length : Int) then (spec_l10Order.l1 k a0 x1 (-1) 0) else (some x1))
def spec_l10Order.l1 : Nat → (List S49) → (List Int) → Int → Int → Option (List Int)
 | 0, _, _, _, _ => none
 | k + 1, a0, x1, x2, x3 => (if x3 < (a0.length : Int) then ((spec_l01Has.f k x1 x3).bind fun x4 => (if x4 = true then (spec_l10Order.l1 k a0 x1 x2 (wrap64 (x3 + 1))) else (if x2 < 0 then (spec_l10Order.l1 k a0 x1 x3 (wrap64 (x3 + 1))) else (if 0 ≤ x3 then (if 0 ≤ x2 then (if x2 < (a0.length : Int) then (if (at_ a0 x3).f0 < (at_ a0 x2).f0 then (spec_l10Order.l1 k a0 x1 x3 (wrap64 (x3 + 1))) else (spec_l10Order.l1 k a0 x1 x2 (wrap64 (x3 + 1)))) else none) else none) else none)))) else (if (x1.length + ([x2] : List Int).length) * 8 ≤ 70368744177664 then (spec_l10Order.l0 k a0 (x1 ++ ([x2] : List Int))) else none))
end
def spec_l10Order.f (k : Nat) (a0 : (List S49)) : Option (List Int) := (spec_l10Order.l0 k a0 ([] : List Int))
theorem spec_l10Order.lab : ∀ k, (∀ (a0 : (List S49)) (x1 : (List Int)) (r : (List Int)), spec_l10Order.l0 k a0 x1 = some r → J prog (.run 50 [] [l_ 28, b_ 0, c_ 15] [(0, (.sl true a0.length 3 (a0.flatMap e49))), (3, (.rf 512 0 x1.length 1 (x1.length * 1)))] [(512, (x1.flatMap encI))] (.rf 512 0 r.length 1 (r.length * 1)) [(512, (r.flatMap encI))])) ∧ (∀ (a0 : (List S49)) (x1 : (List Int)) (x2 : Int) (x3 : Int) (r : (List Int)), spec_l10Order.l1 k a0 x1 x2 x3 = some r → J prog (.run 50 [] [l_ 3626, b_ 2, c_ 907, b_ 1, l_ 28, b_ 0, c_ 15] [(0, (.sl true a0.length 3 (a0.flatMap e49))), (3, (.rf 512 0 x1.length 1 (x1.length * 1))), (4, (I x2)), (5, (I x3))] [(512, (x1.flatMap encI))] (.rf 512 0 r.length 1 (r.length * 1)) [(512, (r.flatMap encI))]))
 | 0 => ⟨(by intro a0 x1 r h; unfold spec_l10Order.l0 at h; cases h), (by intro a0 x1 x2 x3 r h; unfold spec_l10Order.l1 at h; cases h)⟩
 | k + 1 => by
  obtain ⟨ih0, ih1⟩ := spec_l10Order.lab k
  refine ⟨?_, ?_⟩
  · intro a0 x1 r h
    unfold spec_l10Order.l0 at h
    refine .loop' [c_ 224, c_ 225, c_ 113, l_ 28, b_ 0, c_ 15] ?_
    refine .reg' [0, 3, 11] [] ⟨[(0, (.sl true a0.length 3 (a0.flatMap e49))), (3, (.rf 512 0 x1.length 1 (x1.length * 1))), (11, (B (decide ((x1.length : Int) < (a0.length : Int)))))], [(512, (x1.flatMap encI))], [], []⟩ [c_ 225, c_ 113, l_ 28, b_ 0, c_ 15] aln nocal ?_
    by_cases c1 : (x1.length : Int) < (a0.length : Int)
    · rw [if_pos c1] at h
      refine .cond' (.tmp 11) true [c_ 452, c_ 453, b_ 1, l_ 28, b_ 0, c_ 15] (bT (dT c1)) ?_
      refine .reg' [0, 3, 4] [] ⟨[(0, (.sl true a0.length 3 (a0.flatMap e49))), (3, (.rf 512 0 x1.length 1 (x1.length * 1))), (4, (I (-1)))], [(512, (x1.flatMap encI))], [], []⟩ [c_ 1812, c_ 1813, c_ 907, b_ 1, l_ 28, b_ 0, c_ 15] aln nocal ?_
      refine .reg' [0, 3, 4, 5] [] ⟨[(0, (.sl true a0.length 3 (a0.flatMap e49))), (3, (.rf 512 0 x1.length 1 (x1.length * 1))), (4, (I (-1))), (5, (I 0))], [(512, (x1.flatMap encI))], [], []⟩ [l_ 3626, b_ 2, c_ 907, b_ 1, l_ 28, b_ 0, c_ 15] aln nocal ?_
      exact ih1 a0 x1 (-1) 0 _ h
    · rw [if_neg c1] at h
      refine .cond' (.tmp 11) false [c_ 30, c_ 31] (bF (dF c1)) ?_
      refine .reg' [2] [] ⟨[(2, (.rf 512 0 x1.length 1 (x1.length * 1)))], [(512, (x1.flatMap encI))], [], []⟩ [c_ 31] aln nocal ?_
      have h := Option.some.inj h
      subst h
      exact .fin' [] [(512, 512)] (.rf 512 0 x1.length 1 (x1.length * 1)) [] aln (shc 512 (rowF encI_ok _) shn) (.rf (memP_mem (p := (512, 512)) rfl))
  · intro a0 x1 x2 x3 r h
    unfold spec_l10Order.l1 at h
    refine .loop' [c_ 29008, c_ 29009, c_ 14505, l_ 3626, b_ 2, c_ 907, b_ 1, l_ 28, b_ 0, c_ 15] ?_
    refine .reg' [0, 3, 4, 5, 15] [] ⟨[(0, (.sl true a0.length 3 (a0.flatMap e49))), (3, (.rf 512 0 x1.length 1 (x1.length * 1))), (4, (I x2)), (5, (I x3)), (15, (B (decide (x3 < (a0.length : Int)))))], [(512, (x1.flatMap encI))], [], []⟩ [c_ 29009, c_ 14505, l_ 3626, b_ 2, c_ 907, b_ 1, l_ 28, b_ 0, c_ 15] aln nocal ?_
    by_cases c2 : x3 < (a0.length : Int)
    · rw [if_pos c2] at h
      refine .cond' (.tmp 15) true [c_ 116040, c_ 116041, b_ 3, c_ 29011, l_ 3626, b_ 2, c_ 907, b_ 1, l_ 28, b_ 0, c_ 15] (bT (dT c2)) ?_
      obtain ⟨x4, hx4, h⟩ := Option.bind_eq_some_iff.mp h
      by_cases c3 : x4 = true
      · rw [if_pos c3] at h
        refine .reg' [0, 3, 4, 5, 38] [.no, .no, .c ⟨57, [(.sl true x1.length 1 (x1.flatMap encI)), (I x3)], [], (B x4), [], [512], [], [], (B x4), []⟩, .no, .v (B false)] ⟨[(0, (.sl true a0.length 3 (a0.flatMap e49))), (3, (.rf 512 0 x1.length 1 (x1.length * 1))), (4, (I x2)), (5, (I x3)), (38, (B false))], [(512, (x1.flatMap encI))], [COK (hget [(512, (x1.flatMap encI))]) [(.rf 512 0 x1.length 1 (x1.length * 1)), (I x3)] ⟨57, [(.sl true x1.length 1 (x1.flatMap encI)), (I x3)], [], (B x4), [], [512], [], [], (B x4), []⟩, (B (!x4) : V) = B false], [⟨57, [(.sl true x1.length 1 (x1.flatMap encI)), (I x3)], [], (B x4), [], [512], [], [], (B x4), []⟩]⟩ [c_ 116041, b_ 3, c_ 29011, l_ 3626, b_ 2, c_ 907, b_ 1, l_ 28, b_ 0, c_ 15] (alc (cok0 false (a2c (.z (frz_rf (k := 512) encI_ok (by simp) rfl rfl (row_len encI_ok _).symm)) (a2c (.z .s) a2n)) (.z .s) (fun h => absurd h (by decide))) (alc (bF (nF c3)) aln)) (acal (spec_l01Has.J k x1 x3 _ hx4) nocal) ?_
        refine .cond' (.tmp 38) false [c_ 29011, l_ 3626, b_ 2, c_ 907, b_ 1, l_ 28, b_ 0, c_ 15] (rfl) ?_
        refine .reg' [0, 3, 4, 5] [] ⟨[(0, (.sl true a0.length 3 (a0.flatMap e49))), (3, (.rf 512 0 x1.length 1 (x1.length * 1))), (4, (I x2)), (5, (I (wrap64 (x3 + 1))))], [(512, (x1.flatMap encI))], [], []⟩ [l_ 3626, b_ 2, c_ 907, b_ 1, l_ 28, b_ 0, c_ 15] aln nocal ?_
        exact ih1 a0 x1 x2 (wrap64 (x3 + 1)) _ h
      · rw [if_neg c3] at h
        by_cases c4 : x2 < 0
        · rw [if_pos c4] at h
          refine .reg' [0, 3, 4, 5, 38] [.no, .no, .c ⟨57, [(.sl true x1.length 1 (x1.flatMap encI)), (I x3)], [], (B x4), [], [512], [], [], (B x4), []⟩, .no, .v (B true), .no, .no, .v (B true)] ⟨[(0, (.sl true a0.length 3 (a0.flatMap e49))), (3, (.rf 512 0 x1.length 1 (x1.length * 1))), (4, (I x2)), (5, (I x3)), (38, (B true))], [(512, (x1.flatMap encI))], [COK (hget [(512, (x1.flatMap encI))]) [(.rf 512 0 x1.length 1 (x1.length * 1)), (I x3)] ⟨57, [(.sl true x1.length 1 (x1.flatMap encI)), (I x3)], [], (B x4), [], [512], [], [], (B x4), []⟩, (B (!x4) : V) = B true, (B (decide (x2 < 0)) : V) = B true], [⟨57, [(.sl true x1.length 1 (x1.flatMap encI)), (I x3)], [], (B x4), [], [512], [], [], (B x4), []⟩]⟩ [c_ 116041, b_ 3, c_ 29011, l_ 3626, b_ 2, c_ 907, b_ 1, l_ 28, b_ 0, c_ 15] (alc (cok0 false (a2c (.z (frz_rf (k := 512) encI_ok (by simp) rfl rfl (row_len encI_ok _).symm)) (a2c (.z .s) a2n)) (.z .s) (fun h => absurd h (by decide))) (alc (bT (nT (vF c3))) (alc (bT (dT c4)) aln))) (acal (spec_l01Has.J k x1 x3 _ hx4) nocal) ?_
          refine .cond' (.tmp 38) true [c_ 232082, b_ 3, c_ 29011, l_ 3626, b_ 2, c_ 907, b_ 1, l_ 28, b_ 0, c_ 15] (rfl) ?_
          refine .reg' [0, 3, 4, 5] [] ⟨[(0, (.sl true a0.length 3 (a0.flatMap e49))), (3, (.rf 512 0 x1.length 1 (x1.length * 1))), (4, (I x3)), (5, (I x3))], [(512, (x1.flatMap encI))], [], []⟩ [c_ 29011, l_ 3626, b_ 2, c_ 907, b_ 1, l_ 28, b_ 0, c_ 15] aln nocal ?_
          refine .reg' [0, 3, 4, 5] [] ⟨[(0, (.sl true a0.length 3 (a0.flatMap e49))), (3, (.rf 512 0 x1.length 1 (x1.length * 1))), (4, (I x3)), (5, (I (wrap64 (x3 + 1))))], [(512, (x1.flatMap encI))], [], []⟩ [l_ 3626, b_ 2, c_ 907, b_ 1, l_ 28, b_ 0, c_ 15] aln nocal ?_
          exact ih1 a0 x1 x3 (wrap64 (x3 + 1)) _ h
        · rw [if_neg c4] at h
          by_cases c5 : 0 ≤ x3
          · rw [if_pos c5] at h
            by_cases c6 : 0 ≤ x2
            · rw [if_pos c6] at h
              by_cases c7 : x2 < (a0.length : Int)
              · rw [if_pos c7] at h
                refine .reg' [0, 3, 4, 5, 38] [.no, .no, .c ⟨57, [(.sl true x1.length 1 (x1.flatMap encI)), (I x3)], [], (B x4), [], [512], [], [], (B x4), []⟩, .no, .v (B true), .no, .no, .v (B false), .no, .no, .no, .no, .v (I (at_ a0 x3).f0), .no, .no, .no, .no, .v (I (at_ a0 x2).f0)] ⟨[(0, (.sl true a0.length 3 (a0.flatMap e49))), (3, (.rf 512 0 x1.length 1 (x1.length * 1))), (4, (I x2)), (5, (I x3)), (38, (B (decide ((at_ a0 x3).f0 < (at_ a0 x2).f0))))], [(512, (x1.flatMap encI))], [COK (hget [(512, (x1.flatMap encI))]) [(.rf 512 0 x1.length 1 (x1.length * 1)), (I x3)] ⟨57, [(.sl true x1.length 1 (x1.flatMap encI)), (I x3)], [], (B x4), [], [512], [], [], (B x4), []⟩, (B (!x4) : V) = B true, (B (decide (x2 < 0)) : V) = B false, (0 : Int) ≤ x3 ∧ x3 < (a0.length : Int), rdC prog 3 (((a0.flatMap e49).drop (x3.toNat * 3)).drop 0) = (I (at_ a0 x3).f0), 1 ≤ (((a0.flatMap e49).drop (x3.toNat * 3)).drop 0).length, (0 : Int) ≤ x2 ∧ x2 < (a0.length : Int), rdC prog 3 (((a0.flatMap e49).drop (x2.toNat * 3)).drop 0) = (I (at_ a0 x2).f0), 1 ≤ (((a0.flatMap e49).drop (x2.toNat * 3)).drop 0).length], [⟨57, [(.sl true x1.length 1 (x1.flatMap encI)), (I x3)], [], (B x4), [], [512], [], [], (B x4), []⟩]⟩ [c_ 116041, b_ 3, c_ 29011, l_ 3626, b_ 2, c_ 907, b_ 1, l_ 28, b_ 0, c_ 15] (alc (cok0 false (a2c (.z (frz_rf (k := 512) encI_ok (by simp) rfl rfl (row_len encI_ok _).symm)) (a2c (.z .s) a2n)) (.z .s) (fun h => absurd h (by decide))) (alc (bT (nT (vF c3))) (alc (bF (dF c4)) (alc ⟨c5, c2⟩ (alc (ldC e49_ok 0 (by decide) rfl c5 c2) (alc (okIj e49_ok c5 c2 (by decide)) (alc ⟨c6, c7⟩ (alc (ldC e49_ok 0 (by decide) rfl c6 c7) (alc (okIj e49_ok c6 c7 (by decide)) aln))))))))) (acal (spec_l01Has.J k x1 x3 _ hx4) nocal) ?_
                by_cases c8 : (at_ a0 x3).f0 < (at_ a0 x2).f0
                · rw [if_pos c8] at h
                  refine .cond' (.tmp 38) true [c_ 232082, b_ 3, c_ 29011, l_ 3626, b_ 2, c_ 907, b_ 1, l_ 28, b_ 0, c_ 15] (bT (dT c8)) ?_
                  refine .reg' [0, 3, 4, 5] [] ⟨[(0, (.sl true a0.length 3 (a0.flatMap e49))), (3, (.rf 512 0 x1.length 1 (x1.length * 1))), (4, (I x3)), (5, (I x3))], [(512, (x1.flatMap encI))], [], []⟩ [c_ 29011, l_ 3626, b_ 2, c_ 907, b_ 1, l_ 28, b_ 0, c_ 15] aln nocal ?_
                  refine .reg' [0, 3, 4, 5] [] ⟨[(0, (.sl true a0.length 3 (a0.flatMap e49))), (3, (.rf 512 0 x1.length 1 (x1.length * 1))), (4, (I x3)), (5, (I (wrap64 (x3 + 1))))], [(512, (x1.flatMap encI))], [], []⟩ [l_ 3626, b_ 2, c_ 907, b_ 1, l_ 28, b_ 0, c_ 15] aln nocal ?_
                  exact ih1 a0 x1 x3 (wrap64 (x3 + 1)) _ h
                · rw [if_neg c8] at h
                  refine .cond' (.tmp 38) false [c_ 29011, l_ 3626, b_ 2, c_ 907, b_ 1, l_ 28, b_ 0, c_ 15] (bF (dF c8)) ?_
                  refine .reg' [0, 3, 4, 5] [] ⟨[(0, (.sl true a0.length 3 (a0.flatMap e49))), (3, (.rf 512 0 x1.length 1 (x1.length * 1))), (4, (I x2)), (5, (I (wrap64 (x3 + 1))))], [(512, (x1.flatMap encI))], [], []⟩ [l_ 3626, b_ 2, c_ 907, b_ 1, l_ 28, b_ 0, c_ 15] aln nocal ?_
                  exact ih1 a0 x1 x2 (wrap64 (x3 + 1)) _ h
              · rw [if_neg c7] at h
                cases h
            · rw [if_neg c6] at h
              cases h
          · rw [if_neg c5] at h
            cases h
    · rw [if_neg c2] at h
      refine .cond' (.tmp 15) false [c_ 907, b_ 1, l_ 28, b_ 0, c_ 15] (bF (dF c2)) ?_
      by_cases c9 : (x1.length + ([x2] : List Int).length) * 8 ≤ 70368744177664
      · rw [if_pos c9] at h
        refine .reg' [0, 3] [.no, .no, .no, .w (.rf 512 0 ((x1 ++ ([x2] : List Int)).length) 1 ((x1 ++ ([x2] : List Int)).length * 1)) ((x1 ++ ([x2] : List Int)).flatMap encI)] ⟨[(0, (.sl true a0.length 3 (a0.flatMap e49))), (3, (.rf 512 0 ((x1 ++ ([x2] : List Int)).length) 1 ((x1 ++ ([x2] : List Int)).length * 1)))], [(512, ((x1 ++ ([x2] : List Int)).flatMap encI)), (2562, (([x2] : List Int).flatMap encI))], [V.rf 512 0 (x1.length + ([x2] : List Int).length) 1 (x1.length * 1 + ([x2] : List Int).length * 1) = (.rf 512 0 ((x1 ++ ([x2] : List Int)).length) 1 ((x1 ++ ([x2] : List Int)).length * 1)), x1.flatMap encI ++ (((([x2] : List Int).flatMap encI).drop 0).take (([x2] : List Int).length * 1)) = ((x1 ++ ([x2] : List Int)).flatMap encI), (([x2] : List Int).length * 1 = (([x2] : List Int).flatMap encI).length ∧ 0 + ([x2] : List Int).length * 1 ≤ (([x2] : List Int).flatMap encI).length) ∧ x1.length * 1 = (x1.flatMap encI).length ∧ x1.length * 1 = (x1.flatMap encI).length ∧ (x1.length + ([x2] : List Int).length) * 8 ≤ 70368744177664], []⟩ [l_ 28, b_ 0, c_ 15] (alc (apV rfl) (alc (apR encI_ok rfl) (alc (apO encI_ok rfl c9 rfl) aln))) nocal ?_
        refine .wk' [] [(512, 512)] [(0, (.sl true a0.length 3 (a0.flatMap e49))), (3, (.rf 512 0 ((x1 ++ ([x2] : List Int)).length) 1 ((x1 ++ ([x2] : List Int)).length * 1)))] [(512, ((x1 ++ ([x2] : List Int)).flatMap encI))] (shc 512 (rowF encI_ok _) shn) (enc_ (.z (frz_sl e49_ok (fun h => h))) (enc_ (.rf (memP_mem (p := (512, 512)) rfl)) enn)) ?_
        exact ih0 a0 (x1 ++ ([x2] : List Int)) _ h
      · rw [if_neg c9] at h
        cases h
theorem spec_l10Order.J (k : Nat) (a0 : (List S49)) (r : (List Int)) (h : spec_l10Order.f k a0 = some r) : J prog (.call 50 [(.sl true a0.length 3 (a0.flatMap e49))] [] (.rf 512 0 r.length 1 (r.length * 1)) [(512, (r.flatMap encI))]) := by
  unfold spec_l10Order.f at h
  obtain ⟨ih0, ih1⟩ := spec_l10Order.lab k
  refine .call' [c_ 2, c_ 3] ?_
  refine .reg' [0] [] ⟨[(0, (.sl true a0.length 3 (a0.flatMap e49)))], [], [], []⟩ [c_ 6, c_ 7] aln nocal ?_
  refine .reg' [0, 3] [] ⟨[(0, (.sl true a0.length 3 (a0.flatMap e49))), (3, (.rf 512 0 (([] : List Int).length) 1 (([] : List Int).length * 1)))], [(512, (([] : List Int).flatMap encI))], [], []⟩ [l_ 28, b_ 0, c_ 15] aln nocal ?_
  exact ih0 a0 ([] : List Int) _ h
/-! spec_l10Holds: function 45 -/
def spec_l10Holds.f (a0 : S49) (a1 : Int) (a2 : Int) : Option Bool := ((spec_l01In.f a2 a0.f0 (wrap64 ((wrap64 (a0.f1 + a1)) - 1))).bind fun x1 => (some x1))
theorem spec_l10Holds.J (a0 : S49) (a1 : Int) (a2 : Int) (r : Bool) (h : spec_l10Holds.f a0 a1 a2 = some r) : J prog (.call 45 [(.ag [(I a0.f0), (I a0.f1), (I a0.f2)]), (I a1), (I a2)] [] (B r) []) := by
  unfold spec_l10Holds.f at h
  refine .call' [c_ 2, c_ 3] ?_
  refine .reg' [1, 2, 3] [] ⟨[(1, (I a1)), (2, (I a2)), (3, (.pt 256 0 3))], [(256, [(I a0.f0), (I a0.f1), (I a0.f2)])], [], []⟩ [c_ 6, c_ 7] aln nocal ?_
  obtain ⟨x1, hx1, h⟩ := Option.bind_eq_some_iff.mp h
  refine .reg' [6] [.no, .no, .no, .no, .no, .no, .no, .no, .c ⟨39, [(I a2), (I a0.f0), (I (wrap64 ((wrap64 (a0.f1 + a1)) - 1)))], [], (B x1), [], [], [], [], (B x1), []⟩] ⟨[(6, (B x1))], [(256, [(I a0.f0), (I a0.f1), (I a0.f2)])], [3 = 3 ∧ 0 + 1 ≤ 3, 3 = 3 ∧ 1 + 1 ≤ 3, COK (hget [(256, [(I a0.f0), (I a0.f1), (I a0.f2)])]) [(I a2), (I a0.f0), (I (wrap64 ((wrap64 (a0.f1 + a1)) - 1)))] ⟨39, [(I a2), (I a0.f0), (I (wrap64 ((wrap64 (a0.f1 + a1)) - 1)))], [], (B x1), [], [], [], [], (B x1), []⟩], [⟨39, [(I a2), (I a0.f0), (I (wrap64 ((wrap64 (a0.f1 + a1)) - 1)))], [], (B x1), [], [], [], [], (B x1), []⟩]⟩ [c_ 7] (alc ⟨rfl, by decide⟩ (alc ⟨rfl, by decide⟩ (alc (cok0 false (a2c (.z .s) (a2c (.z .s) (a2c (.z .s) a2n))) (.z .s) (fun h => absurd h (by decide))) aln))) (acal (spec_l01In.J a2 a0.f0 (wrap64 ((wrap64 (a0.f1 + a1)) - 1)) _ hx1) nocal) ?_
  have h := Option.some.inj h
  subst h
  exact .fin0 [] (B x1) [] aln (.z .s)
/-! spec_l10Meet: function 48 -/
def spec_l10Meet.f (a0 : S49) (a1 : S49) (a2 : Int) : Option Bool := ((spec_l10Holds.f a0 a2 a1.f0).bind fun x1 => (if x1 = true then (some true) else ((spec_l10Holds.f a1 a2 a0.f0).bind fun x2 => (some x2))))
theorem spec_l10Meet.J (a0 : S49) (a1 : S49) (a2 : Int) (r : Bool) (h : spec_l10Meet.f a0 a1 a2 = some r) : J prog (.call 48 [(.ag [(I a0.f0), (I a0.f1), (I a0.f2)]), (.ag [(I a1.f0), (I a1.f1), (I a1.f2)]), (I a2)] [] (B r) []) := by
  unfold spec_l10Meet.f at h
  refine .call' [c_ 2, c_ 3] ?_
  refine .reg' [2, 3, 4] [] ⟨[(2, (I a2)), (3, (.pt 256 0 3)), (4, (.pt 257 0 3))], [(256, [(I a0.f0), (I a0.f1), (I a0.f2)]), (257, [(I a1.f0), (I a1.f1), (I a1.f2)])], [], []⟩ [c_ 6, c_ 7] aln nocal ?_
  obtain ⟨x1, hx1, h⟩ := Option.bind_eq_some_iff.mp h
  by_cases c1 : x1 = true
  · rw [if_pos c1] at h
    refine .reg' [6] [.no, .no, .no, .no, .c ⟨45, [(.ag [(I a0.f0), (I a0.f1), (I a0.f2)]), (I a2), (I a1.f0)], [], (B x1), [], [], [], [], (B x1), []⟩, .v (B true)] ⟨[(6, (B true))], [(256, [(I a0.f0), (I a0.f1), (I a0.f2)]), (257, [(I a1.f0), (I a1.f1), (I a1.f2)])], [3 = 3 ∧ 0 + 3 ≤ 3, 3 = 3 ∧ 0 + 1 ≤ 3, COK (hget [(256, [(I a0.f0), (I a0.f1), (I a0.f2)]), (257, [(I a1.f0), (I a1.f1), (I a1.f2)])]) [(.ag [(I a0.f0), (I a0.f1), (I a0.f2)]), (I a2), (I a1.f0)] ⟨45, [(.ag [(I a0.f0), (I a0.f1), (I a0.f2)]), (I a2), (I a1.f0)], [], (B x1), [], [], [], [], (B x1), []⟩, (B x1 : V) = B true], [⟨45, [(.ag [(I a0.f0), (I a0.f1), (I a0.f2)]), (I a2), (I a1.f0)], [], (B x1), [], [], [], [], (B x1), []⟩]⟩ [c_ 7] (alc ⟨rfl, by decide⟩ (alc ⟨rfl, by decide⟩ (alc (cok0 false (a2c (.z (frz_ag (a2c .s (a2c .s (a2c .s a2n))))) (a2c (.z .s) (a2c (.z .s) a2n))) (.z .s) (fun h => absurd h (by decide))) (alc (bT c1) aln)))) (acal (spec_l10Holds.J a0 a2 a1.f0 _ hx1) nocal) ?_
    have h := Option.some.inj h
    subst h
    exact .fin0 [] (B true) [] aln (.z .s)
  · rw [if_neg c1] at h
    obtain ⟨x2, hx2, h⟩ := Option.bind_eq_some_iff.mp h
    refine .reg' [6] [.no, .no, .no, .no, .c ⟨45, [(.ag [(I a0.f0), (I a0.f1), (I a0.f2)]), (I a2), (I a1.f0)], [], (B x1), [], [], [], [], (B x1), []⟩, .v (B false), .no, .no, .no, .no, .c ⟨45, [(.ag [(I a1.f0), (I a1.f1), (I a1.f2)]), (I a2), (I a0.f0)], [], (B x2), [], [], [], [], (B x2), []⟩] ⟨[(6, (B x2))], [(256, [(I a0.f0), (I a0.f1), (I a0.f2)]), (257, [(I a1.f0), (I a1.f1), (I a1.f2)])], [3 = 3 ∧ 0 + 3 ≤ 3, 3 = 3 ∧ 0 + 1 ≤ 3, COK (hget [(256, [(I a0.f0), (I a0.f1), (I a0.f2)]), (257, [(I a1.f0), (I a1.f1), (I a1.f2)])]) [(.ag [(I a0.f0), (I a0.f1), (I a0.f2)]), (I a2), (I a1.f0)] ⟨45, [(.ag [(I a0.f0), (I a0.f1), (I a0.f2)]), (I a2), (I a1.f0)], [], (B x1), [], [], [], [], (B x1), []⟩, (B x1 : V) = B false, 3 = 3 ∧ 0 + 3 ≤ 3, 3 = 3 ∧ 0 + 1 ≤ 3, COK (hget [(256, [(I a0.f0), (I a0.f1), (I a0.f2)]), (257, [(I a1.f0), (I a1.f1), (I a1.f2)])]) [(.ag [(I a1.f0), (I a1.f1), (I a1.f2)]), (I a2), (I a0.f0)] ⟨45, [(.ag [(I a1.f0), (I a1.f1), (I a1.f2)]), (I a2), (I a0.f0)], [], (B x2), [], [], [], [], (B x2), []⟩], [⟨45, [(.ag [(I a0.f0), (I a0.f1), (I a0.f2)]), (I a2), (I a1.f0)], [], (B x1), [], [], [], [], (B x1), []⟩, ⟨45, [(.ag [(I a1.f0), (I a1.f1), (I a1.f2)]), (I a2), (I a0.f0)], [], (B x2), [], [], [], [], (B x2), []⟩]⟩ [c_ 7] (alc ⟨rfl, by decide⟩ (alc ⟨rfl, by decide⟩ (alc (cok0 false (a2c (.z (frz_ag (a2c .s (a2c .s (a2c .s a2n))))) (a2c (.z .s) (a2c (.z .s) a2n))) (.z .s) (fun h => absurd h (by decide))) (alc (bF (vF c1)) (alc ⟨rfl, by decide⟩ (alc ⟨rfl, by decide⟩ (alc (cok0 false (a2c (.z (frz_ag (a2c .s (a2c .s (a2c .s a2n))))) (a2c (.z .s) (a2c (.z .s) a2n))) (.z .s) (fun h => absurd h (by decide))) aln))))))) (acal (spec_l10Holds.J a0 a2 a1.f0 _ hx1) (acal (spec_l10Holds.J a1 a2 a0.f0 _ hx2) nocal)) ?_
    have h := Option.some.inj h
    subst h
    exact .fin0 [] (B x2) [] aln (.z .s)
/-! spec_Assign: function 30 -/
mutual
def spec_Assign.l0 : Nat → (List Int) → (List S49) → Int → (List Int) → Int → Option (List Int)
 | 0, _, _, _, _, _ => none
 | k + 1, a0, a1, a2, x4, x5 => (if x5 < (a1.length : Int) then (if (x4.length + ([(-1)] : List Int).length) * 8 ≤ 70368744177664 then (spec_Assign.l0 k a0 a1 a2 (x4 ++ ([(-1)] : List Int)) (wrap64 (x5 + 1))) else none) else ((spec_l10Order.f k a1).bind fun x6 => (spec_Assign.l1 k a0 a1 a2 x6 x4 0)))
def spec_Assign.l1 : Nat → (List Int) → (List S49) → Int → (List Int) → (List Int) → Int → Option (List Int)
 | 0, _, _, _, _, _, _ => none
 | k + 1, a0, a1, a2, x6, x7, x8 => (if x8 < (x6.length : Int) then (if 0 ≤ x8 then (spec_Assign.l2 k a0 a1 a2 x6 x8 x7 (wrap64 ((a0.length : Int) - 1))) else none) else (some x7))
def spec_Assign.l2 : Nat → (List Int) → (List S49) → Int → (List Int) → Int → (List Int) → Int → Option (List Int)
 | 0, _, _, _, _, _, _, _ => none
 | k + 1, a0, a1, a2, x6, x8, x9, x10 => (if x10 ≥ 0 then (if 0 ≤ x10 then (if x10 < (a0.length : Int) then (if 0 ≤ (at_ x6 x8) then (if (at_ x6 x8) < (a1.length : Int) then (spec_Assign.l3 k a0 a1 a2 x6 x8 x9 x10 (decide ((at_ a0 x10) ≥ (at_ a1 (at_ x6 x8)).f2)) 0) else none) else none) else none) else none) else (spec_Assign.l1 k a0 a1 a2 x6 x9 (wrap64 (x8 + 1))))
def spec_Assign.l3 : Nat → (List Int) → (List S49) → Int → (List Int) → Int → (List Int) → Int → Bool → Int → Option (List Int)
 | 0, _, _, _, _, _, _, _, _, _ => none
 | k + 1, a0, a1, a2, x6, x8, x9, x10, x11, x12 => (if x12 < x8 then (if 0 ≤ x12 then (if x12 < (x6.length : Int) then (if 0 ≤ (at_ x6 x12) then (if (at_ x6 x12) < (x9.length : Int) then (if (at_ x9 (at_ x6 x12)) = x10 then (if 0 ≤ (at_ x6 x8) then (if (at_ x6 x8) < (a1.length : Int) then (if (at_ x6 x12) < (a1.length : Int) then ((spec_l10Meet.f (at_ a1 (at_ x6 x8)) (at_ a1 (at_ x6 x12)) a2).bind fun x13 => (if x13 = true then (spec_Assign.l3 k a0 a1 a2 x6 x8 x9 x10 false (wrap64 (x12 + 1))) else (spec_Assign.l3 k a0 a1 a2 x6 x8 x9 x10 x11 (wrap64 (x12 + 1))))) else none) else none) else none) else (spec_Assign.l3 k a0 a1 a2 x6 x8 x9 x10 x11 (wrap64 (x12 + 1)))) else none) else none) else none) else none) else (if x11 = true then (if 0 ≤ (at_ x6 x8) then (if (at_ x6 x8) < (x9.length : Int) then (spec_Assign.l2 k a0 a1 a2 x6 x8 (x9.set (at_ x6 x8).toNat x10) (wrap64 (x10 - 1))) else none) else none) else (spec_Assign.l2 k a0 a1 a2 x6 x8 x9 (wrap64 (x10 - 1)))))
end
def spec_Assign.f (k : Nat) (a0 : (List Int)) (a1 : (List S49)) (a2 : Int) : Option (List Int) := ((spec_BaysOk.f k a0).bind fun x1 => (if x1 = true then ((spec_StaysOk.f k a1).bind fun x2 => (if x2 = true then ((spec_l10Gap.f a2).bind fun x3 => (if x3 = true then (spec_Assign.l0 k a0 a1 a2 ([] : List Int) 0) else (some ([] : List Int)))) else (some ([] : List Int)))) else (some ([] : List Int))))
end Go.Proofs.Ytddipeelmandjaa.Fns
