/- The functions that the law FnExactDrive reaches, by the engine. Printed by a program of this seat. -/
import Derived.Test.YtjfjifnmfnlfoaaE5
import Derived.Test.YtjfjifnmfnlfoaaProg
import Derived.Test.YtjfjifnmfnlfoaaFFnExactDrivex0
namespace Go.Proofs.Ytjfjifnmfnlfoaa.Fns
open Go.Proofs.Try Go.Proofs.Ytjfjifnmfnlfoaa.Eng Go.RowKit
set_option maxRecDepth 100000
set_option linter.unusedVariables false
set_option linter.unusedSimpArgs false
theorem spec_Forward.J (k : Nat) (a0 : Int) (a1 : (List S117)) (a2 : Int) (a3 : Int) (r : ((List S117) × Bool)) (h : spec_Forward.f k a0 a1 a2 a3 = some r) : J prog (.call 83 [(I a0), (.sl true a1.length 2 (a1.flatMap e117)), (I a2), (I a3)] [] (.tp [(.rf 1002051 0 r.1.length 2 (r.1.length * 2)), (B r.2)]) [(1002051, (r.1.flatMap e117))]) := by
  unfold spec_Forward.f at h
  refine .call' [c_ 2, c_ 3] ?_
  refine .reg' [0, 1, 2, 3] [] ⟨[(0, (I a0)), (1, (.sl true a1.length 2 (a1.flatMap e117))), (2, (I a2)), (3, (I a3))], [], [], []⟩ [c_ 12, c_ 13, c_ 7] aln nocal ?_
  obtain ⟨x1, hx1, h⟩ := Option.bind_eq_some_iff.mp h
  by_cases c1 : x1 = true
  · rw [if_pos c1] at h
    obtain ⟨x2, hx2, h⟩ := Option.bind_eq_some_iff.mp h
    by_cases c2 : x2 = true
    · rw [if_pos c2] at h
      obtain ⟨x3, hx3, h⟩ := Option.bind_eq_some_iff.mp h
      refine .reg' [0, 1, 2, 3, 27] [.no, .no, .c ⟨81, [(I a0), (.sl true a1.length 2 (a1.flatMap e117))], [], (B x1), [], [], [], [], (B x1), []⟩, .no, .v (B false), .no, .no, .no, .no, .c ⟨54, [(I a2), (I 0), (I (wrap64 ((a1.length : Int) - 1)))], [], (B x2), [], [], [], [], (B x2), []⟩, .no, .no, .v (B false), .no, .c ⟨54, [(I a3), (I 0), (I 3)], [], (B x3), [], [], [], [], (B x3), []⟩] ⟨[(0, (I a0)), (1, (.sl true a1.length 2 (a1.flatMap e117))), (2, (I a2)), (3, (I a3)), (27, (B (!x3)))], [], [COK (hget []) [(I a0), (.sl true a1.length 2 (a1.flatMap e117))] ⟨81, [(I a0), (.sl true a1.length 2 (a1.flatMap e117))], [], (B x1), [], [], [], [], (B x1), []⟩, (B (!x1) : V) = B false, COK (hget []) [(I a2), (I 0), (I (wrap64 ((a1.length : Int) - 1)))] ⟨54, [(I a2), (I 0), (I (wrap64 ((a1.length : Int) - 1)))], [], (B x2), [], [], [], [], (B x2), []⟩, (B (!x2) : V) = B false, COK (hget []) [(I a3), (I 0), (I 3)] ⟨54, [(I a3), (I 0), (I 3)], [], (B x3), [], [], [], [], (B x3), []⟩], [⟨81, [(I a0), (.sl true a1.length 2 (a1.flatMap e117))], [], (B x1), [], [], [], [], (B x1), []⟩, ⟨54, [(I a2), (I 0), (I (wrap64 ((a1.length : Int) - 1)))], [], (B x2), [], [], [], [], (B x2), []⟩, ⟨54, [(I a3), (I 0), (I 3)], [], (B x3), [], [], [], [], (B x3), []⟩]⟩ [c_ 13, c_ 7] (alc (cok0 false (a2c (.z .s) (a2c (.z (frz_sl e117_ok (fun h => h))) a2n)) (.z .s) (fun h => absurd h (by decide))) (alc (bF (nF c1)) (alc (cok0 false (a2c (.z .s) (a2c (.z .s) (a2c (.z .s) a2n))) (.z .s) (fun h => absurd h (by decide))) (alc (bF (nF c2)) (alc (cok0 false (a2c (.z .s) (a2c (.z .s) (a2c (.z .s) a2n))) (.z .s) (fun h => absurd h (by decide))) aln))))) (acal (spec_TrainsOk.J k a0 a1 _ hx1) (acal (spec_l01In.J a2 0 (wrap64 ((a1.length : Int) - 1)) _ hx2) (acal (spec_l01In.J a3 0 3 _ hx3) nocal))) ?_
      by_cases c3 : x3 = true
      · rw [if_pos c3] at h
        refine .cond' (.tmp 27) false [c_ 14, c_ 15] (bF (nF c3)) ?_
        by_cases c4 : 0 ≤ a2
        · rw [if_pos c4] at h
          by_cases c5 : a2 < (a1.length : Int)
          · rw [if_pos c5] at h
            refine .reg' [0, 1, 2, 3, 10] [.no, .no, .no, .v (.ag [(I (at_ a1 a2).f0), (I (at_ a1 a2).f1)])] ⟨[(0, (I a0)), (1, (.sl true a1.length 2 (a1.flatMap e117))), (2, (I a2)), (3, (I a3)), (10, (.pt 1028 0 2))], [(1028, [(I (at_ a1 a2).f0), (I (at_ a1 a2).f1)])], [(0 : Int) ≤ a2 ∧ a2 < (a1.length : Int), rdC prog 118 ((a1.flatMap e117).drop (a2.toNat * 2)) = (.ag [(I (at_ a1 a2).f0), (I (at_ a1 a2).f1)]), 2 ≤ ((a1.flatMap e117).drop (a2.toNat * 2)).length, 2 = 2 ∧ 0 + 2 ≤ 2], []⟩ [c_ 60, c_ 61, c_ 31] (alc ⟨c4, c5⟩ (alc (ldA e117_ok rfl rfl c4 c5) (alc (okI e117_ok c4 c5 (by decide)) (alc ⟨rfl, by decide⟩ aln)))) nocal ?_
            refine .reg' [0, 1, 2, 3, 10, 36] [] ⟨[(0, (I a0)), (1, (.sl true a1.length 2 (a1.flatMap e117))), (2, (I a2)), (3, (I a3)), (10, (.pt 1028 0 2)), (36, (B ((at_ a1 a2).f1 == (wrap64 (a0 - 1)))))], [(1028, [(I (at_ a1 a2).f0), (I (at_ a1 a2).f1)])], [2 = 2 ∧ 1 + 1 ≤ 2], []⟩ [c_ 61, c_ 31] (alc ⟨rfl, by decide⟩ aln) nocal ?_
            by_cases c6 : (at_ a1 a2).f1 = (wrap64 (a0 - 1))
            · rw [if_pos c6] at h
              refine .cond' (.tmp 36) true [c_ 488, c_ 489, c_ 245, c_ 31] (bT (qT c6)) ?_
              refine .reg' [1, 2, 10, 38] [] ⟨[(1, (.sl true a1.length 2 (a1.flatMap e117))), (2, (I a2)), (10, (.pt 1028 0 2)), (38, (B (a3 == 0)))], [(1028, [(I (at_ a1 a2).f0), (I (at_ a1 a2).f1)])], [], []⟩ [c_ 489, c_ 245, c_ 31] aln nocal ?_
              by_cases c7 : a3 = 0
              · rw [if_pos c7] at h
                refine .cond' (.tmp 38) true [c_ 1956, c_ 1957, c_ 245, c_ 31] (bT (qT c7)) ?_
                refine .reg' [8, 9] [] ⟨[(8, nilS), (9, (B false))], [(1028, [(I (at_ a1 a2).f0), (I (at_ a1 a2).f1)])], [], []⟩ [c_ 1957, c_ 245, c_ 31] aln nocal ?_
                have h := Option.some.inj h
                subst h
                refine .nl' 1002051 ?_
                exact .fin' [] [(1002051, 1002051)] (.tp [nilS, (B false)]) [] aln (shc 1002051 (rowF e117_ok _) shn) (cnv_tp (a2c (.nl (memP_mem (p := (1002051, 1002051)) rfl) rfl) (a2c (.z .s) a2n)))
              · rw [if_neg c7] at h
                refine .cond' (.tmp 38) false [c_ 490, c_ 491, c_ 31] (bF (qF c7)) ?_
                obtain ⟨x4, hx4, h⟩ := Option.bind_eq_some_iff.mp h
                refine .reg' [8, 9] [.no, .no, .no, .c ⟨82, [(.sl true a1.length 2 (a1.flatMap e117)), (I a2), (.ag [(I (at_ a1 a2).f0), (I (at_ a1 a2).f1)]), (B true)], [], (.rf 512 0 x4.length 2 (x4.length * 2)), [(512, (x4.flatMap e117))], [], [], [(1002051, 512)], (.rf 1002051 0 x4.length 2 (x4.length * 2)), [(1002051, (x4.flatMap e117))]⟩] ⟨[(8, (.rf 1002051 0 x4.length 2 (x4.length * 2))), (9, (B true))], [(1028, [(I (at_ a1 a2).f0), (I (at_ a1 a2).f1)]), (1002051, (x4.flatMap e117))], [2 = 2 ∧ 0 + 2 ≤ 2, COK (hget [(1028, [(I (at_ a1 a2).f0), (I (at_ a1 a2).f1)])]) [(.sl true a1.length 2 (a1.flatMap e117)), (I a2), (.ag [(I (at_ a1 a2).f0), (I (at_ a1 a2).f1)]), (B true)] ⟨82, [(.sl true a1.length 2 (a1.flatMap e117)), (I a2), (.ag [(I (at_ a1 a2).f0), (I (at_ a1 a2).f1)]), (B true)], [], (.rf 512 0 x4.length 2 (x4.length * 2)), [(512, (x4.flatMap e117))], [], [], [(1002051, 512)], (.rf 1002051 0 x4.length 2 (x4.length * 2)), [(1002051, (x4.flatMap e117))]⟩], [⟨82, [(.sl true a1.length 2 (a1.flatMap e117)), (I a2), (.ag [(I (at_ a1 a2).f0), (I (at_ a1 a2).f1)]), (B true)], [], (.rf 512 0 x4.length 2 (x4.length * 2)), [(512, (x4.flatMap e117))], [], [], [(1002051, 512)], (.rf 1002051 0 x4.length 2 (x4.length * 2)), [(1002051, (x4.flatMap e117))]⟩]⟩ [c_ 491, c_ 31] (alc ⟨rfl, by decide⟩ (alc (cokW false (a2c (.z (frz_sl e117_ok (fun h => h))) (a2c (.z .s) (a2c (.z (frz_ag (a2c .s (a2c .s a2n)))) (a2c (.z .s) a2n)))) akn (akc (.inr rfl) akn) (.rf (memP_mem (p := (1002051, 512)) rfl)) (akc ⟨_, _, rfl, rfl, rowB e117_c _⟩ akn) (fun h => absurd h (by decide))) aln)) (acal (spec_l05Put.J k a1 a2 (at_ a1 a2) true _ hx4) nocal) ?_
                have h := Option.some.inj h
                subst h
                exact .fin' [] [(1002051, 1002051)] (.tp [(.rf 1002051 0 x4.length 2 (x4.length * 2)), (B true)]) [] aln (shc 1002051 (rowF e117_ok _) shn) (cnv_tp (a2c (.rf (memP_mem (p := (1002051, 1002051)) rfl)) (a2c (.z .s) a2n)))
            · rw [if_neg c6] at h
              refine .cond' (.tmp 36) false [c_ 124, c_ 125, c_ 63] (bF (qF c6)) ?_
              obtain ⟨x5, hx5, h⟩ := Option.bind_eq_some_iff.mp h
              obtain ⟨x6, hx6, h⟩ := Option.bind_eq_some_iff.mp h
              by_cases c8 : 0 ≤ (wrap64 ((at_ a1 a2).f1 + 1))
              · rw [if_pos c8] at h
                by_cases c9 : (wrap64 ((at_ a1 a2).f1 + 1)) < (x6.length : Int)
                · rw [if_pos c9] at h
                  refine .reg' [1, 2, 10, 53] [.no, .no, .c ⟨110, [(I a0), (.sl true a1.length 2 (a1.flatMap e117))], [], (.rf 1024 0 x5.length 1 (x5.length * 1)), [(1024, (x5.flatMap encB))], [], [], [(1002306, 1024)], (.rf 1002306 0 x5.length 1 (x5.length * 1)), [(1002306, (x5.flatMap encB))]⟩, .no, .c ⟨109, [(.sl true x5.length 1 (x5.flatMap encB)), (I a3)], [], (.rf 1024 0 x6.length 1 (x6.length * 1)), [(1024, (x6.flatMap encI))], [1002306], [], [(1002308, 1024)], (.rf 1002308 0 x6.length 1 (x6.length * 1)), [(1002308, (x6.flatMap encI))]⟩, .no, .no, .no, .no, .v (I (at_ x6 (wrap64 ((at_ a1 a2).f1 + 1))))] ⟨[(1, (.sl true a1.length 2 (a1.flatMap e117))), (2, (I a2)), (10, (.pt 1028 0 2)), (53, (B ((at_ x6 (wrap64 ((at_ a1 a2).f1 + 1))) == 0)))], [(1028, [(I (at_ a1 a2).f0), (I (at_ a1 a2).f1)]), (1002306, (x5.flatMap encB)), (1002308, (x6.flatMap encI))], [COK (hget [(1028, [(I (at_ a1 a2).f0), (I (at_ a1 a2).f1)])]) [(I a0), (.sl true a1.length 2 (a1.flatMap e117))] ⟨110, [(I a0), (.sl true a1.length 2 (a1.flatMap e117))], [], (.rf 1024 0 x5.length 1 (x5.length * 1)), [(1024, (x5.flatMap encB))], [], [], [(1002306, 1024)], (.rf 1002306 0 x5.length 1 (x5.length * 1)), [(1002306, (x5.flatMap encB))]⟩, COK (hget [(1028, [(I (at_ a1 a2).f0), (I (at_ a1 a2).f1)]), (1002306, (x5.flatMap encB))]) [(.rf 1002306 0 x5.length 1 (x5.length * 1)), (I a3)] ⟨109, [(.sl true x5.length 1 (x5.flatMap encB)), (I a3)], [], (.rf 1024 0 x6.length 1 (x6.length * 1)), [(1024, (x6.flatMap encI))], [1002306], [], [(1002308, 1024)], (.rf 1002308 0 x6.length 1 (x6.length * 1)), [(1002308, (x6.flatMap encI))]⟩, 2 = 2 ∧ 1 + 1 ≤ 2, (0 : Int) ≤ (wrap64 ((at_ a1 a2).f1 + 1)) ∧ (wrap64 ((at_ a1 a2).f1 + 1)) < (x6.length : Int), rdC prog 3 ((x6.flatMap encI).drop (0 + (wrap64 ((at_ a1 a2).f1 + 1)).toNat * 1)) = (I (at_ x6 (wrap64 ((at_ a1 a2).f1 + 1)))), x6.length * 1 = (x6.flatMap encI).length ∧ 0 + (wrap64 ((at_ a1 a2).f1 + 1)).toNat * 1 + 1 ≤ (x6.flatMap encI).length], [⟨110, [(I a0), (.sl true a1.length 2 (a1.flatMap e117))], [], (.rf 1024 0 x5.length 1 (x5.length * 1)), [(1024, (x5.flatMap encB))], [], [], [(1002306, 1024)], (.rf 1002306 0 x5.length 1 (x5.length * 1)), [(1002306, (x5.flatMap encB))]⟩, ⟨109, [(.sl true x5.length 1 (x5.flatMap encB)), (I a3)], [], (.rf 1024 0 x6.length 1 (x6.length * 1)), [(1024, (x6.flatMap encI))], [1002306], [], [(1002308, 1024)], (.rf 1002308 0 x6.length 1 (x6.length * 1)), [(1002308, (x6.flatMap encI))]⟩]⟩ [c_ 125, c_ 63] (alc (cokW false (a2c (.z .s) (a2c (.z (frz_sl e117_ok (fun h => h))) a2n)) akn (akc (.inr rfl) akn) (.rf (memP_mem (p := (1002306, 1024)) rfl)) (akc ⟨_, _, rfl, rfl, rowB encB_c _⟩ akn) (fun h => absurd h (by decide))) (alc (cokW false (a2c (.z (frz_rf encB_ok (by simp) rfl rfl (row_len encB_ok _).symm)) (a2c (.z .s) a2n)) akn (akc (.inr rfl) akn) (.rf (memP_mem (p := (1002308, 1024)) rfl)) (akc ⟨_, _, rfl, rfl, rowB encI_c _⟩ akn) (fun h => absurd h (by decide))) (alc ⟨rfl, by decide⟩ (alc ⟨c8, c9⟩ (alc (ldC01 encI_ok rfl c8 c9) (alc (okA0 encI_ok c8 c9 (by decide)) aln)))))) (acal (spec_TakenBy.J k a0 a1 _ hx5) (acal (spec_Aspects.J k x5 a3 _ hx6) nocal)) ?_
                  by_cases c10 : (at_ x6 (wrap64 ((at_ a1 a2).f1 + 1))) = 0
                  · rw [if_pos c10] at h
                    refine .cond' (.tmp 53) true [c_ 500, c_ 501, c_ 63] (bT (qT c10)) ?_
                    refine .reg' [8, 9] [] ⟨[(8, nilS), (9, (B false))], [(1028, [(I (at_ a1 a2).f0), (I (at_ a1 a2).f1)]), (1002306, (x5.flatMap encB)), (1002308, (x6.flatMap encI))], [], []⟩ [c_ 501, c_ 63] aln nocal ?_
                    have h := Option.some.inj h
                    subst h
                    refine .nl' 1002051 ?_
                    exact .fin' [] [(1002051, 1002051)] (.tp [nilS, (B false)]) [] aln (shc 1002051 (rowF e117_ok _) shn) (cnv_tp (a2c (.nl (memP_mem (p := (1002051, 1002051)) rfl) rfl) (a2c (.z .s) a2n)))
                  · rw [if_neg c10] at h
                    refine .cond' (.tmp 53) false [c_ 126, c_ 127] (bF (qF c10)) ?_
                    obtain ⟨x7, hx7, h⟩ := Option.bind_eq_some_iff.mp h
                    refine .reg' [8, 9] [.no, .no, .no, .no, .no, .no, .no, .no, .c ⟨82, [(.sl true a1.length 2 (a1.flatMap e117)), (I a2), (.ag [(I (at_ a1 a2).f0), (I (wrap64 ((at_ a1 a2).f1 + 1)))]), (B false)], [], (.rf 512 0 x7.length 2 (x7.length * 2)), [(512, (x7.flatMap e117))], [], [], [(1002824, 512)], (.rf 1002824 0 x7.length 2 (x7.length * 2)), [(1002824, (x7.flatMap e117))]⟩] ⟨[(8, (.rf 1002824 0 x7.length 2 (x7.length * 2))), (9, (B true))], [(1028, [(I (at_ a1 a2).f0), (I (at_ a1 a2).f1)]), (1002306, (x5.flatMap encB)), (1002308, (x6.flatMap encI)), (1002824, (x7.flatMap e117))], [2 = 2 ∧ 0 + 1 ≤ 2, 2 = 2 ∧ 1 + 1 ≤ 2, COK (hget [(1028, [(I (at_ a1 a2).f0), (I (at_ a1 a2).f1)]), (1002306, (x5.flatMap encB)), (1002308, (x6.flatMap encI))]) [(.sl true a1.length 2 (a1.flatMap e117)), (I a2), (.ag [(I (at_ a1 a2).f0), (I (wrap64 ((at_ a1 a2).f1 + 1)))]), (B false)] ⟨82, [(.sl true a1.length 2 (a1.flatMap e117)), (I a2), (.ag [(I (at_ a1 a2).f0), (I (wrap64 ((at_ a1 a2).f1 + 1)))]), (B false)], [], (.rf 512 0 x7.length 2 (x7.length * 2)), [(512, (x7.flatMap e117))], [], [], [(1002824, 512)], (.rf 1002824 0 x7.length 2 (x7.length * 2)), [(1002824, (x7.flatMap e117))]⟩], [⟨82, [(.sl true a1.length 2 (a1.flatMap e117)), (I a2), (.ag [(I (at_ a1 a2).f0), (I (wrap64 ((at_ a1 a2).f1 + 1)))]), (B false)], [], (.rf 512 0 x7.length 2 (x7.length * 2)), [(512, (x7.flatMap e117))], [], [], [(1002824, 512)], (.rf 1002824 0 x7.length 2 (x7.length * 2)), [(1002824, (x7.flatMap e117))]⟩]⟩ [c_ 127] (alc ⟨rfl, by decide⟩ (alc ⟨rfl, by decide⟩ (alc (cokW false (a2c (.z (frz_sl e117_ok (fun h => h))) (a2c (.z .s) (a2c (.z (frz_ag (a2c .s (a2c .s a2n)))) (a2c (.z .s) a2n)))) akn (akc (.inr rfl) akn) (.rf (memP_mem (p := (1002824, 512)) rfl)) (akc ⟨_, _, rfl, rfl, rowB e117_c _⟩ akn) (fun h => absurd h (by decide))) aln))) (acal (spec_l05Put.J k a1 a2 (⟨(at_ a1 a2).f0, (wrap64 ((at_ a1 a2).f1 + 1))⟩ : S117) false _ hx7) nocal) ?_
                    have h := Option.some.inj h
                    subst h
                    exact .fin' [] [(1002824, 1002051)] (.tp [(.rf 1002824 0 x7.length 2 (x7.length * 2)), (B true)]) [] aln (shc 1002824 (rowF e117_ok _) shn) (cnv_tp (a2c (.rf (memP_mem (p := (1002824, 1002051)) rfl)) (a2c (.z .s) a2n)))
                · rw [if_neg c9] at h
                  cases h
              · rw [if_neg c8] at h
                cases h
          · rw [if_neg c5] at h
            cases h
        · rw [if_neg c4] at h
          cases h
      · rw [if_neg c3] at h
        refine .cond' (.tmp 27) true [c_ 52, c_ 53, c_ 7] (bT (nT (vF c3))) ?_
        refine .reg' [8, 9] [] ⟨[(8, nilS), (9, (B false))], [], [], []⟩ [c_ 53, c_ 7] aln nocal ?_
        have h := Option.some.inj h
        subst h
        refine .nl' 1002051 ?_
        exact .fin' [] [(1002051, 1002051)] (.tp [nilS, (B false)]) [] aln (shc 1002051 (rowF e117_ok _) shn) (cnv_tp (a2c (.nl (memP_mem (p := (1002051, 1002051)) rfl) rfl) (a2c (.z .s) a2n)))
    · rw [if_neg c2] at h
      refine .reg' [0, 1, 2, 3, 27] [.no, .no, .c ⟨81, [(I a0), (.sl true a1.length 2 (a1.flatMap e117))], [], (B x1), [], [], [], [], (B x1), []⟩, .no, .v (B false), .no, .no, .no, .no, .c ⟨54, [(I a2), (I 0), (I (wrap64 ((a1.length : Int) - 1)))], [], (B x2), [], [], [], [], (B x2), []⟩, .no, .no, .v (B true)] ⟨[(0, (I a0)), (1, (.sl true a1.length 2 (a1.flatMap e117))), (2, (I a2)), (3, (I a3)), (27, (B true))], [], [COK (hget []) [(I a0), (.sl true a1.length 2 (a1.flatMap e117))] ⟨81, [(I a0), (.sl true a1.length 2 (a1.flatMap e117))], [], (B x1), [], [], [], [], (B x1), []⟩, (B (!x1) : V) = B false, COK (hget []) [(I a2), (I 0), (I (wrap64 ((a1.length : Int) - 1)))] ⟨54, [(I a2), (I 0), (I (wrap64 ((a1.length : Int) - 1)))], [], (B x2), [], [], [], [], (B x2), []⟩, (B (!x2) : V) = B true], [⟨81, [(I a0), (.sl true a1.length 2 (a1.flatMap e117))], [], (B x1), [], [], [], [], (B x1), []⟩, ⟨54, [(I a2), (I 0), (I (wrap64 ((a1.length : Int) - 1)))], [], (B x2), [], [], [], [], (B x2), []⟩]⟩ [c_ 13, c_ 7] (alc (cok0 false (a2c (.z .s) (a2c (.z (frz_sl e117_ok (fun h => h))) a2n)) (.z .s) (fun h => absurd h (by decide))) (alc (bF (nF c1)) (alc (cok0 false (a2c (.z .s) (a2c (.z .s) (a2c (.z .s) a2n))) (.z .s) (fun h => absurd h (by decide))) (alc (bT (nT (vF c2))) aln)))) (acal (spec_TrainsOk.J k a0 a1 _ hx1) (acal (spec_l01In.J a2 0 (wrap64 ((a1.length : Int) - 1)) _ hx2) nocal)) ?_
      refine .cond' (.tmp 27) true [c_ 52, c_ 53, c_ 7] (rfl) ?_
      refine .reg' [8, 9] [] ⟨[(8, nilS), (9, (B false))], [], [], []⟩ [c_ 53, c_ 7] aln nocal ?_
      have h := Option.some.inj h
      subst h
      refine .nl' 1002051 ?_
      exact .fin' [] [(1002051, 1002051)] (.tp [nilS, (B false)]) [] aln (shc 1002051 (rowF e117_ok _) shn) (cnv_tp (a2c (.nl (memP_mem (p := (1002051, 1002051)) rfl) rfl) (a2c (.z .s) a2n)))
  · rw [if_neg c1] at h
    refine .reg' [0, 1, 2, 3, 27] [.no, .no, .c ⟨81, [(I a0), (.sl true a1.length 2 (a1.flatMap e117))], [], (B x1), [], [], [], [], (B x1), []⟩, .no, .v (B true)] ⟨[(0, (I a0)), (1, (.sl true a1.length 2 (a1.flatMap e117))), (2, (I a2)), (3, (I a3)), (27, (B true))], [], [COK (hget []) [(I a0), (.sl true a1.length 2 (a1.flatMap e117))] ⟨81, [(I a0), (.sl true a1.length 2 (a1.flatMap e117))], [], (B x1), [], [], [], [], (B x1), []⟩, (B (!x1) : V) = B true], [⟨81, [(I a0), (.sl true a1.length 2 (a1.flatMap e117))], [], (B x1), [], [], [], [], (B x1), []⟩]⟩ [c_ 13, c_ 7] (alc (cok0 false (a2c (.z .s) (a2c (.z (frz_sl e117_ok (fun h => h))) a2n)) (.z .s) (fun h => absurd h (by decide))) (alc (bT (nT (vF c1))) aln)) (acal (spec_TrainsOk.J k a0 a1 _ hx1) nocal) ?_
    refine .cond' (.tmp 27) true [c_ 52, c_ 53, c_ 7] (rfl) ?_
    refine .reg' [8, 9] [] ⟨[(8, nilS), (9, (B false))], [], [], []⟩ [c_ 53, c_ 7] aln nocal ?_
    have h := Option.some.inj h
    subst h
    refine .nl' 1002051 ?_
    exact .fin' [] [(1002051, 1002051)] (.tp [nilS, (B false)]) [] aln (shc 1002051 (rowF e117_ok _) shn) (cnv_tp (a2c (.nl (memP_mem (p := (1002051, 1002051)) rfl) rfl) (a2c (.z .s) a2n)))
/-! spec_Shrink: function 84 -/
def spec_Shrink.f (k : Nat) (a0 : Int) (a1 : (List S117)) (a2 : Int) : Option ((List S117) × Bool) := ((spec_TrainsOk.f k a0 a1).bind fun x1 => (if x1 = true then ((spec_l01In.f a2 0 (wrap64 ((a1.length : Int) - 1))).bind fun x2 => (if x2 = true then (if 0 ≤ a2 then (if a2 < (a1.length : Int) then (if (at_ a1 a2).f0 = (at_ a1 a2).f1 then (some (([] : List S117), false)) else ((spec_l05Put.f k a1 a2 (⟨(wrap64 ((at_ a1 a2).f0 + 1)), (at_ a1 a2).f1⟩ : S117) false).bind fun x3 => (some (x3, true)))) else none) else none) else (some (([] : List S117), false)))) else (some (([] : List S117), false))))
theorem spec_Shrink.J (k : Nat) (a0 : Int) (a1 : (List S117)) (a2 : Int) (r : ((List S117) × Bool)) (h : spec_Shrink.f k a0 a1 a2 = some r) : J prog (.call 84 [(I a0), (.sl true a1.length 2 (a1.flatMap e117)), (I a2)] [] (.tp [(.rf 1001038 0 r.1.length 2 (r.1.length * 2)), (B r.2)]) [(1001038, (r.1.flatMap e117))]) := by
  unfold spec_Shrink.f at h
  refine .call' [c_ 2, c_ 3] ?_
  refine .reg' [0, 1, 2] [] ⟨[(0, (I a0)), (1, (.sl true a1.length 2 (a1.flatMap e117))), (2, (I a2))], [], [], []⟩ [c_ 12, c_ 13, c_ 7] aln nocal ?_
  obtain ⟨x1, hx1, h⟩ := Option.bind_eq_some_iff.mp h
  by_cases c1 : x1 = true
  · rw [if_pos c1] at h
    obtain ⟨x2, hx2, h⟩ := Option.bind_eq_some_iff.mp h
    by_cases c2 : x2 = true
    · rw [if_pos c2] at h
      by_cases c3 : 0 ≤ a2
      · rw [if_pos c3] at h
        by_cases c4 : a2 < (a1.length : Int)
        · rw [if_pos c4] at h
          refine .reg' [1, 2, 32] [.no, .no, .c ⟨81, [(I a0), (.sl true a1.length 2 (a1.flatMap e117))], [], (B x1), [], [], [], [], (B x1), []⟩, .no, .v (B false), .no, .no, .no, .no, .c ⟨54, [(I a2), (I 0), (I (wrap64 ((a1.length : Int) - 1)))], [], (B x2), [], [], [], [], (B x2), []⟩, .no, .no, .v (B false), .no, .no, .no, .no, .v (I (at_ a1 a2).f0), .no, .no, .no, .no, .v (I (at_ a1 a2).f1)] ⟨[(1, (.sl true a1.length 2 (a1.flatMap e117))), (2, (I a2)), (32, (B ((at_ a1 a2).f0 == (at_ a1 a2).f1)))], [], [COK (hget []) [(I a0), (.sl true a1.length 2 (a1.flatMap e117))] ⟨81, [(I a0), (.sl true a1.length 2 (a1.flatMap e117))], [], (B x1), [], [], [], [], (B x1), []⟩, (B (!x1) : V) = B false, COK (hget []) [(I a2), (I 0), (I (wrap64 ((a1.length : Int) - 1)))] ⟨54, [(I a2), (I 0), (I (wrap64 ((a1.length : Int) - 1)))], [], (B x2), [], [], [], [], (B x2), []⟩, (B (!x2) : V) = B false, (0 : Int) ≤ a2 ∧ a2 < (a1.length : Int), rdC prog 3 (((a1.flatMap e117).drop (a2.toNat * 2)).drop 0) = (I (at_ a1 a2).f0), 1 ≤ (((a1.flatMap e117).drop (a2.toNat * 2)).drop 0).length, (0 : Int) ≤ a2 ∧ a2 < (a1.length : Int), rdC prog 3 (((a1.flatMap e117).drop (a2.toNat * 2)).drop 1) = (I (at_ a1 a2).f1), 1 ≤ (((a1.flatMap e117).drop (a2.toNat * 2)).drop 1).length], [⟨81, [(I a0), (.sl true a1.length 2 (a1.flatMap e117))], [], (B x1), [], [], [], [], (B x1), []⟩, ⟨54, [(I a2), (I 0), (I (wrap64 ((a1.length : Int) - 1)))], [], (B x2), [], [], [], [], (B x2), []⟩]⟩ [c_ 13, c_ 7] (alc (cok0 false (a2c (.z .s) (a2c (.z (frz_sl e117_ok (fun h => h))) a2n)) (.z .s) (fun h => absurd h (by decide))) (alc (bF (nF c1)) (alc (cok0 false (a2c (.z .s) (a2c (.z .s) (a2c (.z .s) a2n))) (.z .s) (fun h => absurd h (by decide))) (alc (bF (nF c2)) (alc ⟨c3, c4⟩ (alc (ldC e117_ok 0 (by decide) rfl c3 c4) (alc (okIj e117_ok c3 c4 (by decide)) (alc ⟨c3, c4⟩ (alc (ldC e117_ok 1 (by decide) rfl c3 c4) (alc (okIj e117_ok c3 c4 (by decide)) aln)))))))))) (acal (spec_TrainsOk.J k a0 a1 _ hx1) (acal (spec_l01In.J a2 0 (wrap64 ((a1.length : Int) - 1)) _ hx2) nocal)) ?_
          by_cases c5 : (at_ a1 a2).f0 = (at_ a1 a2).f1
          · rw [if_pos c5] at h
            refine .cond' (.tmp 32) true [c_ 52, c_ 53, c_ 7] (bT (qT c5)) ?_
            refine .reg' [6, 7] [] ⟨[(6, nilS), (7, (B false))], [], [], []⟩ [c_ 53, c_ 7] aln nocal ?_
            have h := Option.some.inj h
            subst h
            refine .nl' 1001038 ?_
            exact .fin' [] [(1001038, 1001038)] (.tp [nilS, (B false)]) [] aln (shc 1001038 (rowF e117_ok _) shn) (cnv_tp (a2c (.nl (memP_mem (p := (1001038, 1001038)) rfl) rfl) (a2c (.z .s) a2n)))
          · rw [if_neg c5] at h
            refine .cond' (.tmp 32) false [c_ 14, c_ 15] (bF (qF c5)) ?_
            obtain ⟨x3, hx3, h⟩ := Option.bind_eq_some_iff.mp h
            refine .reg' [6, 7] [.no, .no, .no, .no, .no, .no, .v (I (at_ a1 a2).f0), .no, .no, .no, .no, .no, .v (I (at_ a1 a2).f1), .no, .c ⟨82, [(.sl true a1.length 2 (a1.flatMap e117)), (I a2), (.ag [(I (wrap64 ((at_ a1 a2).f0 + 1))), (I (at_ a1 a2).f1)]), (B false)], [], (.rf 512 0 x3.length 2 (x3.length * 2)), [(512, (x3.flatMap e117))], [], [], [(1001038, 512)], (.rf 1001038 0 x3.length 2 (x3.length * 2)), [(1001038, (x3.flatMap e117))]⟩] ⟨[(6, (.rf 1001038 0 x3.length 2 (x3.length * 2))), (7, (B true))], [(1001038, (x3.flatMap e117))], [(0 : Int) ≤ a2 ∧ a2 < (a1.length : Int), rdC prog 3 (((a1.flatMap e117).drop (a2.toNat * 2)).drop 0) = (I (at_ a1 a2).f0), 1 ≤ (((a1.flatMap e117).drop (a2.toNat * 2)).drop 0).length, (0 : Int) ≤ a2 ∧ a2 < (a1.length : Int), rdC prog 3 (((a1.flatMap e117).drop (a2.toNat * 2)).drop 1) = (I (at_ a1 a2).f1), 1 ≤ (((a1.flatMap e117).drop (a2.toNat * 2)).drop 1).length, COK (hget []) [(.sl true a1.length 2 (a1.flatMap e117)), (I a2), (.ag [(I (wrap64 ((at_ a1 a2).f0 + 1))), (I (at_ a1 a2).f1)]), (B false)] ⟨82, [(.sl true a1.length 2 (a1.flatMap e117)), (I a2), (.ag [(I (wrap64 ((at_ a1 a2).f0 + 1))), (I (at_ a1 a2).f1)]), (B false)], [], (.rf 512 0 x3.length 2 (x3.length * 2)), [(512, (x3.flatMap e117))], [], [], [(1001038, 512)], (.rf 1001038 0 x3.length 2 (x3.length * 2)), [(1001038, (x3.flatMap e117))]⟩], [⟨82, [(.sl true a1.length 2 (a1.flatMap e117)), (I a2), (.ag [(I (wrap64 ((at_ a1 a2).f0 + 1))), (I (at_ a1 a2).f1)]), (B false)], [], (.rf 512 0 x3.length 2 (x3.length * 2)), [(512, (x3.flatMap e117))], [], [], [(1001038, 512)], (.rf 1001038 0 x3.length 2 (x3.length * 2)), [(1001038, (x3.flatMap e117))]⟩]⟩ [c_ 15] (alc ⟨c3, c4⟩ (alc (ldC e117_ok 0 (by decide) rfl c3 c4) (alc (okIj e117_ok c3 c4 (by decide)) (alc ⟨c3, c4⟩ (alc (ldC e117_ok 1 (by decide) rfl c3 c4) (alc (okIj e117_ok c3 c4 (by decide)) (alc (cokW false (a2c (.z (frz_sl e117_ok (fun h => h))) (a2c (.z .s) (a2c (.z (frz_ag (a2c .s (a2c .s a2n)))) (a2c (.z .s) a2n)))) akn (akc (.inr rfl) akn) (.rf (memP_mem (p := (1001038, 512)) rfl)) (akc ⟨_, _, rfl, rfl, rowB e117_c _⟩ akn) (fun h => absurd h (by decide))) aln))))))) (acal (spec_l05Put.J k a1 a2 (⟨(wrap64 ((at_ a1 a2).f0 + 1)), (at_ a1 a2).f1⟩ : S117) false _ hx3) nocal) ?_
            have h := Option.some.inj h
            subst h
            exact .fin' [] [(1001038, 1001038)] (.tp [(.rf 1001038 0 x3.length 2 (x3.length * 2)), (B true)]) [] aln (shc 1001038 (rowF e117_ok _) shn) (cnv_tp (a2c (.rf (memP_mem (p := (1001038, 1001038)) rfl)) (a2c (.z .s) a2n)))
        · rw [if_neg c4] at h
          cases h
      · rw [if_neg c3] at h
        cases h
    · rw [if_neg c2] at h
      refine .reg' [1, 2, 32] [.no, .no, .c ⟨81, [(I a0), (.sl true a1.length 2 (a1.flatMap e117))], [], (B x1), [], [], [], [], (B x1), []⟩, .no, .v (B false), .no, .no, .no, .no, .c ⟨54, [(I a2), (I 0), (I (wrap64 ((a1.length : Int) - 1)))], [], (B x2), [], [], [], [], (B x2), []⟩, .no, .no, .v (B true)] ⟨[(1, (.sl true a1.length 2 (a1.flatMap e117))), (2, (I a2)), (32, (B true))], [], [COK (hget []) [(I a0), (.sl true a1.length 2 (a1.flatMap e117))] ⟨81, [(I a0), (.sl true a1.length 2 (a1.flatMap e117))], [], (B x1), [], [], [], [], (B x1), []⟩, (B (!x1) : V) = B false, COK (hget []) [(I a2), (I 0), (I (wrap64 ((a1.length : Int) - 1)))] ⟨54, [(I a2), (I 0), (I (wrap64 ((a1.length : Int) - 1)))], [], (B x2), [], [], [], [], (B x2), []⟩, (B (!x2) : V) = B true], [⟨81, [(I a0), (.sl true a1.length 2 (a1.flatMap e117))], [], (B x1), [], [], [], [], (B x1), []⟩, ⟨54, [(I a2), (I 0), (I (wrap64 ((a1.length : Int) - 1)))], [], (B x2), [], [], [], [], (B x2), []⟩]⟩ [c_ 13, c_ 7] (alc (cok0 false (a2c (.z .s) (a2c (.z (frz_sl e117_ok (fun h => h))) a2n)) (.z .s) (fun h => absurd h (by decide))) (alc (bF (nF c1)) (alc (cok0 false (a2c (.z .s) (a2c (.z .s) (a2c (.z .s) a2n))) (.z .s) (fun h => absurd h (by decide))) (alc (bT (nT (vF c2))) aln)))) (acal (spec_TrainsOk.J k a0 a1 _ hx1) (acal (spec_l01In.J a2 0 (wrap64 ((a1.length : Int) - 1)) _ hx2) nocal)) ?_
      refine .cond' (.tmp 32) true [c_ 52, c_ 53, c_ 7] (rfl) ?_
      refine .reg' [6, 7] [] ⟨[(6, nilS), (7, (B false))], [], [], []⟩ [c_ 53, c_ 7] aln nocal ?_
      have h := Option.some.inj h
      subst h
      refine .nl' 1001038 ?_
      exact .fin' [] [(1001038, 1001038)] (.tp [nilS, (B false)]) [] aln (shc 1001038 (rowF e117_ok _) shn) (cnv_tp (a2c (.nl (memP_mem (p := (1001038, 1001038)) rfl) rfl) (a2c (.z .s) a2n)))
  · rw [if_neg c1] at h
    refine .reg' [1, 2, 32] [.no, .no, .c ⟨81, [(I a0), (.sl true a1.length 2 (a1.flatMap e117))], [], (B x1), [], [], [], [], (B x1), []⟩, .no, .v (B true)] ⟨[(1, (.sl true a1.length 2 (a1.flatMap e117))), (2, (I a2)), (32, (B true))], [], [COK (hget []) [(I a0), (.sl true a1.length 2 (a1.flatMap e117))] ⟨81, [(I a0), (.sl true a1.length 2 (a1.flatMap e117))], [], (B x1), [], [], [], [], (B x1), []⟩, (B (!x1) : V) = B true], [⟨81, [(I a0), (.sl true a1.length 2 (a1.flatMap e117))], [], (B x1), [], [], [], [], (B x1), []⟩]⟩ [c_ 13, c_ 7] (alc (cok0 false (a2c (.z .s) (a2c (.z (frz_sl e117_ok (fun h => h))) a2n)) (.z .s) (fun h => absurd h (by decide))) (alc (bT (nT (vF c1))) aln)) (acal (spec_TrainsOk.J k a0 a1 _ hx1) nocal) ?_
    refine .cond' (.tmp 32) true [c_ 52, c_ 53, c_ 7] (rfl) ?_
    refine .reg' [6, 7] [] ⟨[(6, nilS), (7, (B false))], [], [], []⟩ [c_ 53, c_ 7] aln nocal ?_
    have h := Option.some.inj h
    subst h
    refine .nl' 1001038 ?_
    exact .fin' [] [(1001038, 1001038)] (.tp [nilS, (B false)]) [] aln (shc 1001038 (rowF e117_ok _) shn) (cnv_tp (a2c (.nl (memP_mem (p := (1001038, 1001038)) rfl) rfl) (a2c (.z .s) a2n)))
/-! spec_Drive: function 36 -/
mutual
def spec_Drive.l0 : Nat → Int → (List Int) → Int → (List S117) → Int → Int → Option ((List S117) × Int)
 | 0, _, _, _, _, _, _ => none
 | k + 1, a0, a2, a3, x4, x5, x6 => (if x6 < (a2.length : Int) then (if 0 ≤ x6 then (if (at_ a2 x6) ≥ 0 then (if ((at_ a2 x6).tmod (2 : Int)) = 0 then ((spec_Forward.f k a0 x4 (wrap64 ((at_ a2 x6).tdiv (2 : Int))) a3).bind fun x7 => (if x7.2 = true then (spec_Drive.l0 k a0 a2 a3 x7.1 x5 (wrap64 (x6 + 1))) else (spec_Drive.l0 k a0 a2 a3 x4 (wrap64 (x5 + 1)) (wrap64 (x6 + 1))))) else (spec_Drive.j1 k a0 a2 a3 x4 x5 x6)) else (spec_Drive.j1 k a0 a2 a3 x4 x5 x6)) else none) else (some (x4, x5)))
def spec_Drive.j1 : Nat → Int → (List Int) → Int → (List S117) → Int → Int → Option ((List S117) × Int)
 | 0, _, _, _, _, _, _ => none
 | k + 1, a0, a2, a3, x4, x5, x6 => (if 0 ≤ x6 then (if x6 < (a2.length : Int) then (if (at_ a2 x6) ≥ 0 then ((spec_Shrink.f k a0 x4 (wrap64 ((at_ a2 x6).tdiv (2 : Int)))).bind fun x8 => (if x8.2 = true then (spec_Drive.l0 k a0 a2 a3 x8.1 x5 (wrap64 (x6 + 1))) else (spec_Drive.l0 k a0 a2 a3 x4 (wrap64 (x5 + 1)) (wrap64 (x6 + 1))))) else (spec_Drive.l0 k a0 a2 a3 x4 (wrap64 (x5 + 1)) (wrap64 (x6 + 1)))) else none) else none)
end
def spec_Drive.f (k : Nat) (a0 : Int) (a1 : (List S117)) (a2 : (List Int)) (a3 : Int) : Option ((List S117) × Int) := ((spec_TrainsOk.f k a0 a1).bind fun x1 => (if x1 = true then ((spec_l01In.f a3 0 3).bind fun x2 => (if x2 = true then (if (a2.length : Int) > 300 then (some (([] : List S117), (-1))) else ((spec_l05Put.f k a1 (-1) (⟨0, 0⟩ : S117) false).bind fun x3 => (spec_Drive.l0 k a0 a2 a3 x3 0 0))) else (some (([] : List S117), (-1))))) else (some (([] : List S117), (-1)))))
theorem spec_Drive.lab : ∀ k, (∀ (a0 : Int) (a2 : (List Int)) (a3 : Int) (x4 : (List S117)) (x5 : Int) (x6 : Int) (r : ((List S117) × Int)), spec_Drive.l0 k a0 a2 a3 x4 x5 x6 = some r → J prog (.run 36 [] [l_ 250, b_ 0, c_ 63] [(0, (I a0)), (2, (.sl true a2.length 1 (a2.flatMap encI))), (3, (I a3)), (10, (.rf 1001026 0 x4.length 2 (x4.length * 2))), (11, (I x5)), (12, (I x6))] [(1001026, (x4.flatMap e117))] (.tp [(.rf 1001026 0 r.1.length 2 (r.1.length * 2)), (I r.2)]) [(1001026, (r.1.flatMap e117))])) ∧ (∀ (a0 : Int) (a2 : (List Int)) (a3 : Int) (x4 : (List S117)) (x5 : Int) (x6 : Int) (r : ((List S117) × Int)), spec_Drive.j1 k a0 a2 a3 x4 x5 x6 = some r → J prog (.run 36 [] [c_ 256310, c_ 256311, c_ 32039, b_ 1, c_ 2003, l_ 250, b_ 0, c_ 63] [(0, (I a0)), (2, (.sl true a2.length 1 (a2.flatMap encI))), (3, (I a3)), (10, (.rf 1001026 0 x4.length 2 (x4.length * 2))), (11, (I x5)), (12, (I x6)), (13, (.rf 2304 0 (([] : List S117).length) 2 (([] : List S117).length * 2))), (14, (B false))] [(1001026, (x4.flatMap e117)), (2304, (([] : List S117).flatMap e117))] (.tp [(.rf 1001026 0 r.1.length 2 (r.1.length * 2)), (I r.2)]) [(1001026, (r.1.flatMap e117))]))
 | 0 => ⟨(by intro a0 a2 a3 x4 x5 x6 r h; unfold spec_Drive.l0 at h; cases h), (by intro a0 a2 a3 x4 x5 x6 r h; unfold spec_Drive.j1 at h; cases h)⟩
 | k + 1 => by
  obtain ⟨ih0, ih1⟩ := spec_Drive.lab k
  refine ⟨?_, ?_⟩
  · intro a0 a2 a3 x4 x5 x6 r h
    unfold spec_Drive.l0 at h
    refine .loop' [c_ 2000, c_ 2001, c_ 1001, l_ 250, b_ 0, c_ 63] ?_
    refine .reg' [0, 2, 3, 10, 11, 12, 35] [] ⟨[(0, (I a0)), (2, (.sl true a2.length 1 (a2.flatMap encI))), (3, (I a3)), (10, (.rf 1001026 0 x4.length 2 (x4.length * 2))), (11, (I x5)), (12, (I x6)), (35, (B (decide (x6 < (a2.length : Int)))))], [(1001026, (x4.flatMap e117))], [], []⟩ [c_ 2001, c_ 1001, l_ 250, b_ 0, c_ 63] aln nocal ?_
    by_cases c4 : x6 < (a2.length : Int)
    · rw [if_pos c4] at h
      refine .cond' (.tmp 35) true [c_ 8008, c_ 8009, b_ 1, c_ 2003, l_ 250, b_ 0, c_ 63] (bT (dT c4)) ?_
      refine .reg' [0, 2, 3, 10, 11, 12, 13] [] ⟨[(0, (I a0)), (2, (.sl true a2.length 1 (a2.flatMap encI))), (3, (I a3)), (10, (.rf 1001026 0 x4.length 2 (x4.length * 2))), (11, (I x5)), (12, (I x6)), (13, (.rf 2304 0 (([] : List S117).length) 2 (([] : List S117).length * 2)))], [(1001026, (x4.flatMap e117)), (2304, (([] : List S117).flatMap e117))], [], []⟩ [c_ 16018, c_ 16019, b_ 1, c_ 2003, l_ 250, b_ 0, c_ 63] aln nocal ?_
      refine .reg' [0, 2, 3, 10, 11, 12, 13, 14] [] ⟨[(0, (I a0)), (2, (.sl true a2.length 1 (a2.flatMap encI))), (3, (I a3)), (10, (.rf 1001026 0 x4.length 2 (x4.length * 2))), (11, (I x5)), (12, (I x6)), (13, (.rf 2304 0 (([] : List S117).length) 2 (([] : List S117).length * 2))), (14, (B false))], [(1001026, (x4.flatMap e117)), (2304, (([] : List S117).flatMap e117))], [], []⟩ [c_ 64076, c_ 64077, c_ 32039, b_ 1, c_ 2003, l_ 250, b_ 0, c_ 63] aln nocal ?_
      by_cases c5 : 0 ≤ x6
      · rw [if_pos c5] at h
        by_cases c6 : (at_ a2 x6) ≥ 0
        · rw [if_pos c6] at h
          refine .reg' [0, 2, 3, 10, 11, 12, 13, 14, 51] [.no, .no, .no, .v (I (at_ a2 x6)), .no, .v (B true), .no, .no, .no, .v (I (at_ a2 x6))] ⟨[(0, (I a0)), (2, (.sl true a2.length 1 (a2.flatMap encI))), (3, (I a3)), (10, (.rf 1001026 0 x4.length 2 (x4.length * 2))), (11, (I x5)), (12, (I x6)), (13, (.rf 2304 0 (([] : List S117).length) 2 (([] : List S117).length * 2))), (14, (B false)), (51, (B (((at_ a2 x6).tmod (2 : Int)) == 0)))], [(1001026, (x4.flatMap e117)), (2304, (([] : List S117).flatMap e117))], [(0 : Int) ≤ x6 ∧ x6 < (a2.length : Int), rdC prog 3 ((a2.flatMap encI).drop (x6.toNat * 1)) = (I (at_ a2 x6)), 1 ≤ ((a2.flatMap encI).drop (x6.toNat * 1)).length, (B (decide ((at_ a2 x6) ≥ 0)) : V) = B true, (0 : Int) ≤ x6 ∧ x6 < (a2.length : Int), rdC prog 3 ((a2.flatMap encI).drop (x6.toNat * 1)) = (I (at_ a2 x6)), 1 ≤ ((a2.flatMap encI).drop (x6.toNat * 1)).length, (2 : Int) ≠ 0], []⟩ [c_ 64077, c_ 32039, b_ 1, c_ 2003, l_ 250, b_ 0, c_ 63] (alc ⟨c5, c4⟩ (alc (ldC1 encI_ok rfl c5 c4) (alc (okI encI_ok c5 c4 (by decide)) (alc (bT (dT c6)) (alc ⟨c5, c4⟩ (alc (ldC1 encI_ok rfl c5 c4) (alc (okI encI_ok c5 c4 (by decide)) (alc (by decide) aln)))))))) nocal ?_
          by_cases c7 : ((at_ a2 x6).tmod (2 : Int)) = 0
          · rw [if_pos c7] at h
            refine .cond' (.tmp 51) true [c_ 128154, c_ 32039, b_ 1, c_ 2003, l_ 250, b_ 0, c_ 63] (bT (qT c7)) ?_
            obtain ⟨x7, hx7, h⟩ := Option.bind_eq_some_iff.mp h
            refine .reg' [0, 2, 3, 10, 11, 12, 13, 14] [.no, .no, .no, .no, .no, .v (I (at_ a2 x6)), .no, .no, .c ⟨83, [(I a0), (.sl true x4.length 2 (x4.flatMap e117)), (I (wrap64 ((at_ a2 x6).tdiv (2 : Int)))), (I a3)], [], (.tp [(.rf 1002051 0 x7.1.length 2 (x7.1.length * 2)), (B x7.2)]), [(1002051, (x7.1.flatMap e117))], [1001026], [], [(1003080, 1002051)], (.tp [(.rf 1003080 0 x7.1.length 2 (x7.1.length * 2)), (B x7.2)]), [(1003080, (x7.1.flatMap e117))]⟩] ⟨[(0, (I a0)), (2, (.sl true a2.length 1 (a2.flatMap encI))), (3, (I a3)), (10, (.rf 1001026 0 x4.length 2 (x4.length * 2))), (11, (I x5)), (12, (I x6)), (13, (.rf 1003080 0 x7.1.length 2 (x7.1.length * 2))), (14, (B x7.2))], [(1001026, (x4.flatMap e117)), (2304, (([] : List S117).flatMap e117)), (1003080, (x7.1.flatMap e117))], [(0 : Int) ≤ x6 ∧ x6 < (a2.length : Int), rdC prog 3 ((a2.flatMap encI).drop (x6.toNat * 1)) = (I (at_ a2 x6)), 1 ≤ ((a2.flatMap encI).drop (x6.toNat * 1)).length, (2 : Int) ≠ 0, COK (hget [(1001026, (x4.flatMap e117)), (2304, (([] : List S117).flatMap e117))]) [(I a0), (.rf 1001026 0 x4.length 2 (x4.length * 2)), (I (wrap64 ((at_ a2 x6).tdiv (2 : Int)))), (I a3)] ⟨83, [(I a0), (.sl true x4.length 2 (x4.flatMap e117)), (I (wrap64 ((at_ a2 x6).tdiv (2 : Int)))), (I a3)], [], (.tp [(.rf 1002051 0 x7.1.length 2 (x7.1.length * 2)), (B x7.2)]), [(1002051, (x7.1.flatMap e117))], [1001026], [], [(1003080, 1002051)], (.tp [(.rf 1003080 0 x7.1.length 2 (x7.1.length * 2)), (B x7.2)]), [(1003080, (x7.1.flatMap e117))]⟩], [⟨83, [(I a0), (.sl true x4.length 2 (x4.flatMap e117)), (I (wrap64 ((at_ a2 x6).tdiv (2 : Int)))), (I a3)], [], (.tp [(.rf 1002051 0 x7.1.length 2 (x7.1.length * 2)), (B x7.2)]), [(1002051, (x7.1.flatMap e117))], [1001026], [], [(1003080, 1002051)], (.tp [(.rf 1003080 0 x7.1.length 2 (x7.1.length * 2)), (B x7.2)]), [(1003080, (x7.1.flatMap e117))]⟩]⟩ [c_ 64078, c_ 64079, b_ 1, c_ 2003, l_ 250, b_ 0, c_ 63] (alc ⟨c5, c4⟩ (alc (ldC1 encI_ok rfl c5 c4) (alc (okI encI_ok c5 c4 (by decide)) (alc (by decide) (alc (cokW false (a2c (.z .s) (a2c (.z (frz_rf e117_ok (by simp) rfl rfl (row_len e117_ok _).symm)) (a2c (.z .s) (a2c (.z .s) a2n)))) akn (akc (.inr rfl) akn) (bck_tp (a2c (.rf (memP_mem (p := (1003080, 1002051)) rfl)) (a2c (.z .s) a2n))) (akc ⟨_, _, rfl, rfl, rowB e117_c _⟩ akn) (fun h => absurd h (by decide))) aln))))) (acal (spec_Forward.J k a0 x4 (wrap64 ((at_ a2 x6).tdiv (2 : Int))) a3 _ hx7) nocal) ?_
            refine .reg' [0, 2, 3, 10, 11, 12, 13, 80] [] ⟨[(0, (I a0)), (2, (.sl true a2.length 1 (a2.flatMap encI))), (3, (I a3)), (10, (.rf 1001026 0 x4.length 2 (x4.length * 2))), (11, (I x5)), (12, (I x6)), (13, (.rf 1003080 0 x7.1.length 2 (x7.1.length * 2))), (80, (B x7.2))], [(1001026, (x4.flatMap e117)), (2304, (([] : List S117).flatMap e117)), (1003080, (x7.1.flatMap e117))], [], []⟩ [c_ 64079, b_ 1, c_ 2003, l_ 250, b_ 0, c_ 63] aln nocal ?_
            by_cases c8 : x7.2 = true
            · rw [if_pos c8] at h
              refine .cond' (.tmp 80) true [c_ 128158, b_ 1, c_ 2003, l_ 250, b_ 0, c_ 63] (bT c8) ?_
              refine .reg' [0, 2, 3, 10, 11, 12] [] ⟨[(0, (I a0)), (2, (.sl true a2.length 1 (a2.flatMap encI))), (3, (I a3)), (10, (.rf 1003080 0 x7.1.length 2 (x7.1.length * 2))), (11, (I x5)), (12, (I x6))], [(1001026, (x4.flatMap e117)), (2304, (([] : List S117).flatMap e117)), (1003080, (x7.1.flatMap e117))], [], []⟩ [c_ 2003, l_ 250, b_ 0, c_ 63] aln nocal ?_
              refine .reg' [0, 2, 3, 10, 11, 12] [] ⟨[(0, (I a0)), (2, (.sl true a2.length 1 (a2.flatMap encI))), (3, (I a3)), (10, (.rf 1003080 0 x7.1.length 2 (x7.1.length * 2))), (11, (I x5)), (12, (I (wrap64 (x6 + 1))))], [(1001026, (x4.flatMap e117)), (2304, (([] : List S117).flatMap e117)), (1003080, (x7.1.flatMap e117))], [], []⟩ [l_ 250, b_ 0, c_ 63] aln nocal ?_
              refine .wk' [] [(1003080, 1001026)] [(0, (I a0)), (2, (.sl true a2.length 1 (a2.flatMap encI))), (3, (I a3)), (10, (.rf 1001026 0 x7.1.length 2 (x7.1.length * 2))), (11, (I x5)), (12, (I (wrap64 (x6 + 1))))] [(1001026, (x7.1.flatMap e117))] (shc 1003080 (rowF e117_ok _) shn) (enc_ (.z .s) (enc_ (.z (frz_sl encI_ok (fun h => h))) (enc_ (.z .s) (enc_ (.rf (memP_mem (p := (1003080, 1001026)) rfl)) (enc_ (.z .s) (enc_ (.z .s) enn)))))) ?_
              exact ih0 a0 a2 a3 x7.1 x5 (wrap64 (x6 + 1)) _ h
            · rw [if_neg c8] at h
              refine .cond' (.tmp 80) false [c_ 128159, b_ 1, c_ 2003, l_ 250, b_ 0, c_ 63] (bF (vF c8)) ?_
              refine .reg' [0, 2, 3, 10, 11, 12] [] ⟨[(0, (I a0)), (2, (.sl true a2.length 1 (a2.flatMap encI))), (3, (I a3)), (10, (.rf 1001026 0 x4.length 2 (x4.length * 2))), (11, (I (wrap64 (x5 + 1)))), (12, (I x6))], [(1001026, (x4.flatMap e117)), (2304, (([] : List S117).flatMap e117)), (1003080, (x7.1.flatMap e117))], [], []⟩ [c_ 2003, l_ 250, b_ 0, c_ 63] aln nocal ?_
              refine .reg' [0, 2, 3, 10, 11, 12] [] ⟨[(0, (I a0)), (2, (.sl true a2.length 1 (a2.flatMap encI))), (3, (I a3)), (10, (.rf 1001026 0 x4.length 2 (x4.length * 2))), (11, (I (wrap64 (x5 + 1)))), (12, (I (wrap64 (x6 + 1))))], [(1001026, (x4.flatMap e117)), (2304, (([] : List S117).flatMap e117)), (1003080, (x7.1.flatMap e117))], [], []⟩ [l_ 250, b_ 0, c_ 63] aln nocal ?_
              refine .wk' [] [(1001026, 1001026)] [(0, (I a0)), (2, (.sl true a2.length 1 (a2.flatMap encI))), (3, (I a3)), (10, (.rf 1001026 0 x4.length 2 (x4.length * 2))), (11, (I (wrap64 (x5 + 1)))), (12, (I (wrap64 (x6 + 1))))] [(1001026, (x4.flatMap e117))] (shc 1001026 (rowF e117_ok _) shn) (enc_ (.z .s) (enc_ (.z (frz_sl encI_ok (fun h => h))) (enc_ (.z .s) (enc_ (.rf (memP_mem (p := (1001026, 1001026)) rfl)) (enc_ (.z .s) (enc_ (.z .s) enn)))))) ?_
              exact ih0 a0 a2 a3 x4 (wrap64 (x5 + 1)) (wrap64 (x6 + 1)) _ h
          · rw [if_neg c7] at h
            refine .cond' (.tmp 51) false [c_ 256310, c_ 256311, c_ 32039, b_ 1, c_ 2003, l_ 250, b_ 0, c_ 63] (bF (qF c7)) ?_
            refine .wk' [] [(1001026, 1001026), (2304, 2304)] [(0, (I a0)), (2, (.sl true a2.length 1 (a2.flatMap encI))), (3, (I a3)), (10, (.rf 1001026 0 x4.length 2 (x4.length * 2))), (11, (I x5)), (12, (I x6)), (13, (.rf 2304 0 (([] : List S117).length) 2 (([] : List S117).length * 2))), (14, (B false))] [(1001026, (x4.flatMap e117)), (2304, (([] : List S117).flatMap e117))] (shc 1001026 (rowF e117_ok _) (shc 2304 (rowF e117_ok _) shn)) (enc_ (.z .s) (enc_ (.z (frz_sl encI_ok (fun h => h))) (enc_ (.z .s) (enc_ (.rf (memP_mem (p := (1001026, 1001026)) rfl)) (enc_ (.z .s) (enc_ (.z .s) (enc_ (.rf (memP_mem (p := (2304, 2304)) rfl)) (enc_ (.z .s) enn)))))))) ?_
            exact ih1 a0 a2 a3 x4 x5 x6 _ h
        · rw [if_neg c6] at h
          refine .reg' [0, 2, 3, 10, 11, 12, 13, 14, 51] [.no, .no, .no, .v (I (at_ a2 x6)), .no, .v (B false)] ⟨[(0, (I a0)), (2, (.sl true a2.length 1 (a2.flatMap encI))), (3, (I a3)), (10, (.rf 1001026 0 x4.length 2 (x4.length * 2))), (11, (I x5)), (12, (I x6)), (13, (.rf 2304 0 (([] : List S117).length) 2 (([] : List S117).length * 2))), (14, (B false)), (51, (B false))], [(1001026, (x4.flatMap e117)), (2304, (([] : List S117).flatMap e117))], [(0 : Int) ≤ x6 ∧ x6 < (a2.length : Int), rdC prog 3 ((a2.flatMap encI).drop (x6.toNat * 1)) = (I (at_ a2 x6)), 1 ≤ ((a2.flatMap encI).drop (x6.toNat * 1)).length, (B (decide ((at_ a2 x6) ≥ 0)) : V) = B false], []⟩ [c_ 64077, c_ 32039, b_ 1, c_ 2003, l_ 250, b_ 0, c_ 63] (alc ⟨c5, c4⟩ (alc (ldC1 encI_ok rfl c5 c4) (alc (okI encI_ok c5 c4 (by decide)) (alc (bF (dF c6)) aln)))) nocal ?_
          refine .cond' (.tmp 51) false [c_ 256310, c_ 256311, c_ 32039, b_ 1, c_ 2003, l_ 250, b_ 0, c_ 63] (rfl) ?_
          refine .wk' [] [(1001026, 1001026), (2304, 2304)] [(0, (I a0)), (2, (.sl true a2.length 1 (a2.flatMap encI))), (3, (I a3)), (10, (.rf 1001026 0 x4.length 2 (x4.length * 2))), (11, (I x5)), (12, (I x6)), (13, (.rf 2304 0 (([] : List S117).length) 2 (([] : List S117).length * 2))), (14, (B false))] [(1001026, (x4.flatMap e117)), (2304, (([] : List S117).flatMap e117))] (shc 1001026 (rowF e117_ok _) (shc 2304 (rowF e117_ok _) shn)) (enc_ (.z .s) (enc_ (.z (frz_sl encI_ok (fun h => h))) (enc_ (.z .s) (enc_ (.rf (memP_mem (p := (1001026, 1001026)) rfl)) (enc_ (.z .s) (enc_ (.z .s) (enc_ (.rf (memP_mem (p := (2304, 2304)) rfl)) (enc_ (.z .s) enn)))))))) ?_
          exact ih1 a0 a2 a3 x4 x5 x6 _ h
      · rw [if_neg c5] at h
        cases h
    · rw [if_neg c4] at h
      refine .cond' (.tmp 35) false [c_ 126, c_ 127] (bF (dF c4)) ?_
      refine .reg' [8, 9] [] ⟨[(8, (.rf 1001026 0 x4.length 2 (x4.length * 2))), (9, (I x5))], [(1001026, (x4.flatMap e117))], [], []⟩ [c_ 127] aln nocal ?_
      have h := Option.some.inj h
      subst h
      exact .fin' [] [(1001026, 1001026)] (.tp [(.rf 1001026 0 x4.length 2 (x4.length * 2)), (I x5)]) [] aln (shc 1001026 (rowF e117_ok _) shn) (cnv_tp (a2c (.rf (memP_mem (p := (1001026, 1001026)) rfl)) (a2c (.z .s) a2n)))
  · intro a0 a2 a3 x4 x5 x6 r h
    unfold spec_Drive.j1 at h
    by_cases c9 : 0 ≤ x6
    · rw [if_pos c9] at h
      by_cases c10 : x6 < (a2.length : Int)
      · rw [if_pos c10] at h
        refine .reg' [0, 2, 3, 10, 11, 12, 13, 14, 68] [.no, .no, .no, .v (I (at_ a2 x6))] ⟨[(0, (I a0)), (2, (.sl true a2.length 1 (a2.flatMap encI))), (3, (I a3)), (10, (.rf 1001026 0 x4.length 2 (x4.length * 2))), (11, (I x5)), (12, (I x6)), (13, (.rf 2304 0 (([] : List S117).length) 2 (([] : List S117).length * 2))), (14, (B false)), (68, (B (decide ((at_ a2 x6) ≥ 0))))], [(1001026, (x4.flatMap e117)), (2304, (([] : List S117).flatMap e117))], [(0 : Int) ≤ x6 ∧ x6 < (a2.length : Int), rdC prog 3 ((a2.flatMap encI).drop (x6.toNat * 1)) = (I (at_ a2 x6)), 1 ≤ ((a2.flatMap encI).drop (x6.toNat * 1)).length], []⟩ [c_ 256311, c_ 32039, b_ 1, c_ 2003, l_ 250, b_ 0, c_ 63] (alc ⟨c9, c10⟩ (alc (ldC1 encI_ok rfl c9 c10) (alc (okI encI_ok c9 c10 (by decide)) aln))) nocal ?_
        by_cases c11 : (at_ a2 x6) ≥ 0
        · rw [if_pos c11] at h
          refine .cond' (.tmp 68) true [c_ 512622, c_ 32039, b_ 1, c_ 2003, l_ 250, b_ 0, c_ 63] (bT (dT c11)) ?_
          obtain ⟨x8, hx8, h⟩ := Option.bind_eq_some_iff.mp h
          refine .reg' [0, 2, 3, 10, 11, 12, 13, 14] [.no, .no, .no, .no, .no, .v (I (at_ a2 x6)), .no, .c ⟨84, [(I a0), (.sl true x4.length 2 (x4.flatMap e117)), (I (wrap64 ((at_ a2 x6).tdiv (2 : Int))))], [], (.tp [(.rf 1001038 0 x8.1.length 2 (x8.1.length * 2)), (B x8.2)]), [(1001038, (x8.1.flatMap e117))], [1001026], [], [(1003591, 1001038)], (.tp [(.rf 1003591 0 x8.1.length 2 (x8.1.length * 2)), (B x8.2)]), [(1003591, (x8.1.flatMap e117))]⟩] ⟨[(0, (I a0)), (2, (.sl true a2.length 1 (a2.flatMap encI))), (3, (I a3)), (10, (.rf 1001026 0 x4.length 2 (x4.length * 2))), (11, (I x5)), (12, (I x6)), (13, (.rf 1003591 0 x8.1.length 2 (x8.1.length * 2))), (14, (B x8.2))], [(1001026, (x4.flatMap e117)), (2304, (([] : List S117).flatMap e117)), (1003591, (x8.1.flatMap e117))], [(0 : Int) ≤ x6 ∧ x6 < (a2.length : Int), rdC prog 3 ((a2.flatMap encI).drop (x6.toNat * 1)) = (I (at_ a2 x6)), 1 ≤ ((a2.flatMap encI).drop (x6.toNat * 1)).length, (2 : Int) ≠ 0, COK (hget [(1001026, (x4.flatMap e117)), (2304, (([] : List S117).flatMap e117))]) [(I a0), (.rf 1001026 0 x4.length 2 (x4.length * 2)), (I (wrap64 ((at_ a2 x6).tdiv (2 : Int))))] ⟨84, [(I a0), (.sl true x4.length 2 (x4.flatMap e117)), (I (wrap64 ((at_ a2 x6).tdiv (2 : Int))))], [], (.tp [(.rf 1001038 0 x8.1.length 2 (x8.1.length * 2)), (B x8.2)]), [(1001038, (x8.1.flatMap e117))], [1001026], [], [(1003591, 1001038)], (.tp [(.rf 1003591 0 x8.1.length 2 (x8.1.length * 2)), (B x8.2)]), [(1003591, (x8.1.flatMap e117))]⟩], [⟨84, [(I a0), (.sl true x4.length 2 (x4.flatMap e117)), (I (wrap64 ((at_ a2 x6).tdiv (2 : Int))))], [], (.tp [(.rf 1001038 0 x8.1.length 2 (x8.1.length * 2)), (B x8.2)]), [(1001038, (x8.1.flatMap e117))], [1001026], [], [(1003591, 1001038)], (.tp [(.rf 1003591 0 x8.1.length 2 (x8.1.length * 2)), (B x8.2)]), [(1003591, (x8.1.flatMap e117))]⟩]⟩ [c_ 64078, c_ 64079, b_ 1, c_ 2003, l_ 250, b_ 0, c_ 63] (alc ⟨c9, c10⟩ (alc (ldC1 encI_ok rfl c9 c10) (alc (okI encI_ok c9 c10 (by decide)) (alc (by decide) (alc (cokW false (a2c (.z .s) (a2c (.z (frz_rf e117_ok (by simp) rfl rfl (row_len e117_ok _).symm)) (a2c (.z .s) a2n))) akn (akc (.inr rfl) akn) (bck_tp (a2c (.rf (memP_mem (p := (1003591, 1001038)) rfl)) (a2c (.z .s) a2n))) (akc ⟨_, _, rfl, rfl, rowB e117_c _⟩ akn) (fun h => absurd h (by decide))) aln))))) (acal (spec_Shrink.J k a0 x4 (wrap64 ((at_ a2 x6).tdiv (2 : Int))) _ hx8) nocal) ?_
          refine .reg' [0, 2, 3, 10, 11, 12, 13, 80] [] ⟨[(0, (I a0)), (2, (.sl true a2.length 1 (a2.flatMap encI))), (3, (I a3)), (10, (.rf 1001026 0 x4.length 2 (x4.length * 2))), (11, (I x5)), (12, (I x6)), (13, (.rf 1003591 0 x8.1.length 2 (x8.1.length * 2))), (80, (B x8.2))], [(1001026, (x4.flatMap e117)), (2304, (([] : List S117).flatMap e117)), (1003591, (x8.1.flatMap e117))], [], []⟩ [c_ 64079, b_ 1, c_ 2003, l_ 250, b_ 0, c_ 63] aln nocal ?_
          by_cases c12 : x8.2 = true
          · rw [if_pos c12] at h
            refine .cond' (.tmp 80) true [c_ 128158, b_ 1, c_ 2003, l_ 250, b_ 0, c_ 63] (bT c12) ?_
            refine .reg' [0, 2, 3, 10, 11, 12] [] ⟨[(0, (I a0)), (2, (.sl true a2.length 1 (a2.flatMap encI))), (3, (I a3)), (10, (.rf 1003591 0 x8.1.length 2 (x8.1.length * 2))), (11, (I x5)), (12, (I x6))], [(1001026, (x4.flatMap e117)), (2304, (([] : List S117).flatMap e117)), (1003591, (x8.1.flatMap e117))], [], []⟩ [c_ 2003, l_ 250, b_ 0, c_ 63] aln nocal ?_
            refine .reg' [0, 2, 3, 10, 11, 12] [] ⟨[(0, (I a0)), (2, (.sl true a2.length 1 (a2.flatMap encI))), (3, (I a3)), (10, (.rf 1003591 0 x8.1.length 2 (x8.1.length * 2))), (11, (I x5)), (12, (I (wrap64 (x6 + 1))))], [(1001026, (x4.flatMap e117)), (2304, (([] : List S117).flatMap e117)), (1003591, (x8.1.flatMap e117))], [], []⟩ [l_ 250, b_ 0, c_ 63] aln nocal ?_
            refine .wk' [] [(1003591, 1001026)] [(0, (I a0)), (2, (.sl true a2.length 1 (a2.flatMap encI))), (3, (I a3)), (10, (.rf 1001026 0 x8.1.length 2 (x8.1.length * 2))), (11, (I x5)), (12, (I (wrap64 (x6 + 1))))] [(1001026, (x8.1.flatMap e117))] (shc 1003591 (rowF e117_ok _) shn) (enc_ (.z .s) (enc_ (.z (frz_sl encI_ok (fun h => h))) (enc_ (.z .s) (enc_ (.rf (memP_mem (p := (1003591, 1001026)) rfl)) (enc_ (.z .s) (enc_ (.z .s) enn)))))) ?_
            exact ih0 a0 a2 a3 x8.1 x5 (wrap64 (x6 + 1)) _ h
          · rw [if_neg c12] at h
            refine .cond' (.tmp 80) false [c_ 128159, b_ 1, c_ 2003, l_ 250, b_ 0, c_ 63] (bF (vF c12)) ?_
            refine .reg' [0, 2, 3, 10, 11, 12] [] ⟨[(0, (I a0)), (2, (.sl true a2.length 1 (a2.flatMap encI))), (3, (I a3)), (10, (.rf 1001026 0 x4.length 2 (x4.length * 2))), (11, (I (wrap64 (x5 + 1)))), (12, (I x6))], [(1001026, (x4.flatMap e117)), (2304, (([] : List S117).flatMap e117)), (1003591, (x8.1.flatMap e117))], [], []⟩ [c_ 2003, l_ 250, b_ 0, c_ 63] aln nocal ?_
            refine .reg' [0, 2, 3, 10, 11, 12] [] ⟨[(0, (I a0)), (2, (.sl true a2.length 1 (a2.flatMap encI))), (3, (I a3)), (10, (.rf 1001026 0 x4.length 2 (x4.length * 2))), (11, (I (wrap64 (x5 + 1)))), (12, (I (wrap64 (x6 + 1))))], [(1001026, (x4.flatMap e117)), (2304, (([] : List S117).flatMap e117)), (1003591, (x8.1.flatMap e117))], [], []⟩ [l_ 250, b_ 0, c_ 63] aln nocal ?_
            refine .wk' [] [(1001026, 1001026)] [(0, (I a0)), (2, (.sl true a2.length 1 (a2.flatMap encI))), (3, (I a3)), (10, (.rf 1001026 0 x4.length 2 (x4.length * 2))), (11, (I (wrap64 (x5 + 1)))), (12, (I (wrap64 (x6 + 1))))] [(1001026, (x4.flatMap e117))] (shc 1001026 (rowF e117_ok _) shn) (enc_ (.z .s) (enc_ (.z (frz_sl encI_ok (fun h => h))) (enc_ (.z .s) (enc_ (.rf (memP_mem (p := (1001026, 1001026)) rfl)) (enc_ (.z .s) (enc_ (.z .s) enn)))))) ?_
            exact ih0 a0 a2 a3 x4 (wrap64 (x5 + 1)) (wrap64 (x6 + 1)) _ h
        · rw [if_neg c11] at h
          refine .cond' (.tmp 68) false [c_ 64078, c_ 64079, b_ 1, c_ 2003, l_ 250, b_ 0, c_ 63] (bF (dF c11)) ?_
          refine .reg' [0, 2, 3, 10, 11, 12, 13, 80] [] ⟨[(0, (I a0)), (2, (.sl true a2.length 1 (a2.flatMap encI))), (3, (I a3)), (10, (.rf 1001026 0 x4.length 2 (x4.length * 2))), (11, (I x5)), (12, (I x6)), (13, (.rf 2304 0 (([] : List S117).length) 2 (([] : List S117).length * 2))), (80, (B false))], [(1001026, (x4.flatMap e117)), (2304, (([] : List S117).flatMap e117))], [], []⟩ [c_ 64079, b_ 1, c_ 2003, l_ 250, b_ 0, c_ 63] aln nocal ?_
          refine .cond' (.tmp 80) false [c_ 128159, b_ 1, c_ 2003, l_ 250, b_ 0, c_ 63] (rfl) ?_
          refine .reg' [0, 2, 3, 10, 11, 12] [] ⟨[(0, (I a0)), (2, (.sl true a2.length 1 (a2.flatMap encI))), (3, (I a3)), (10, (.rf 1001026 0 x4.length 2 (x4.length * 2))), (11, (I (wrap64 (x5 + 1)))), (12, (I x6))], [(1001026, (x4.flatMap e117)), (2304, (([] : List S117).flatMap e117))], [], []⟩ [c_ 2003, l_ 250, b_ 0, c_ 63] aln nocal ?_
          refine .reg' [0, 2, 3, 10, 11, 12] [] ⟨[(0, (I a0)), (2, (.sl true a2.length 1 (a2.flatMap encI))), (3, (I a3)), (10, (.rf 1001026 0 x4.length 2 (x4.length * 2))), (11, (I (wrap64 (x5 + 1)))), (12, (I (wrap64 (x6 + 1))))], [(1001026, (x4.flatMap e117)), (2304, (([] : List S117).flatMap e117))], [], []⟩ [l_ 250, b_ 0, c_ 63] aln nocal ?_
          refine .wk' [] [(1001026, 1001026)] [(0, (I a0)), (2, (.sl true a2.length 1 (a2.flatMap encI))), (3, (I a3)), (10, (.rf 1001026 0 x4.length 2 (x4.length * 2))), (11, (I (wrap64 (x5 + 1)))), (12, (I (wrap64 (x6 + 1))))] [(1001026, (x4.flatMap e117))] (shc 1001026 (rowF e117_ok _) shn) (enc_ (.z .s) (enc_ (.z (frz_sl encI_ok (fun h => h))) (enc_ (.z .s) (enc_ (.rf (memP_mem (p := (1001026, 1001026)) rfl)) (enc_ (.z .s) (enc_ (.z .s) enn)))))) ?_
          exact ih0 a0 a2 a3 x4 (wrap64 (x5 + 1)) (wrap64 (x6 + 1)) _ h
      · rw [if_neg c10] at h
        cases h
    · rw [if_neg c9] at h
      cases h
theorem spec_Drive.J (k : Nat) (a0 : Int) (a1 : (List S117)) (a2 : (List Int)) (a3 : Int) (r : ((List S117) × Int)) (h : spec_Drive.f k a0 a1 a2 a3 = some r) : J prog (.call 36 [(I a0), (.sl true a1.length 2 (a1.flatMap e117)), (.sl true a2.length 1 (a2.flatMap encI)), (I a3)] [] (.tp [(.rf 1001026 0 r.1.length 2 (r.1.length * 2)), (I r.2)]) [(1001026, (r.1.flatMap e117))]) := by
  unfold spec_Drive.f at h
  obtain ⟨ih0, ih1⟩ := spec_Drive.lab k
  refine .call' [c_ 2, c_ 3] ?_
  refine .reg' [0, 1, 2, 3] [] ⟨[(0, (I a0)), (1, (.sl true a1.length 2 (a1.flatMap e117))), (2, (.sl true a2.length 1 (a2.flatMap encI))), (3, (I a3))], [], [], []⟩ [c_ 12, c_ 13, c_ 7] aln nocal ?_
  obtain ⟨x1, hx1, h⟩ := Option.bind_eq_some_iff.mp h
  by_cases c1 : x1 = true
  · rw [if_pos c1] at h
    obtain ⟨x2, hx2, h⟩ := Option.bind_eq_some_iff.mp h
    by_cases c2 : x2 = true
    · rw [if_pos c2] at h
      refine .reg' [0, 1, 2, 3, 28] [.no, .no, .c ⟨81, [(I a0), (.sl true a1.length 2 (a1.flatMap e117))], [], (B x1), [], [], [], [], (B x1), []⟩, .no, .v (B false), .no, .c ⟨54, [(I a3), (I 0), (I 3)], [], (B x2), [], [], [], [], (B x2), []⟩, .no, .no, .v (B false)] ⟨[(0, (I a0)), (1, (.sl true a1.length 2 (a1.flatMap e117))), (2, (.sl true a2.length 1 (a2.flatMap encI))), (3, (I a3)), (28, (B (decide ((a2.length : Int) > 300))))], [], [COK (hget []) [(I a0), (.sl true a1.length 2 (a1.flatMap e117))] ⟨81, [(I a0), (.sl true a1.length 2 (a1.flatMap e117))], [], (B x1), [], [], [], [], (B x1), []⟩, (B (!x1) : V) = B false, COK (hget []) [(I a3), (I 0), (I 3)] ⟨54, [(I a3), (I 0), (I 3)], [], (B x2), [], [], [], [], (B x2), []⟩, (B (!x2) : V) = B false], [⟨81, [(I a0), (.sl true a1.length 2 (a1.flatMap e117))], [], (B x1), [], [], [], [], (B x1), []⟩, ⟨54, [(I a3), (I 0), (I 3)], [], (B x2), [], [], [], [], (B x2), []⟩]⟩ [c_ 13, c_ 7] (alc (cok0 false (a2c (.z .s) (a2c (.z (frz_sl e117_ok (fun h => h))) a2n)) (.z .s) (fun h => absurd h (by decide))) (alc (bF (nF c1)) (alc (cok0 false (a2c (.z .s) (a2c (.z .s) (a2c (.z .s) a2n))) (.z .s) (fun h => absurd h (by decide))) (alc (bF (nF c2)) aln)))) (acal (spec_TrainsOk.J k a0 a1 _ hx1) (acal (spec_l01In.J a3 0 3 _ hx2) nocal)) ?_
      by_cases c3 : (a2.length : Int) > 300
      · rw [if_pos c3] at h
        refine .cond' (.tmp 28) true [c_ 52, c_ 53, c_ 7] (bT (dT c3)) ?_
        refine .reg' [8, 9] [] ⟨[(8, nilS), (9, (I (-1)))], [], [], []⟩ [c_ 53, c_ 7] aln nocal ?_
        have h := Option.some.inj h
        subst h
        refine .nl' 1001026 ?_
        exact .fin' [] [(1001026, 1001026)] (.tp [nilS, (I (-1))]) [] aln (shc 1001026 (rowF e117_ok _) shn) (cnv_tp (a2c (.nl (memP_mem (p := (1001026, 1001026)) rfl) rfl) (a2c (.z .s) a2n)))
      · rw [if_neg c3] at h
        refine .cond' (.tmp 28) false [c_ 14, c_ 15] (bF (dF c3)) ?_
        obtain ⟨x3, hx3, h⟩ := Option.bind_eq_some_iff.mp h
        refine .reg' [0, 2, 3, 10] [.no, .no, .c ⟨82, [(.sl true a1.length 2 (a1.flatMap e117)), (I (-1)), (.ag [(I 0), (I 0)]), (B false)], [], (.rf 512 0 x3.length 2 (x3.length * 2)), [(512, (x3.flatMap e117))], [], [], [(1001026, 512)], (.rf 1001026 0 x3.length 2 (x3.length * 2)), [(1001026, (x3.flatMap e117))]⟩] ⟨[(0, (I a0)), (2, (.sl true a2.length 1 (a2.flatMap encI))), (3, (I a3)), (10, (.rf 1001026 0 x3.length 2 (x3.length * 2)))], [(1001026, (x3.flatMap e117))], [COK (hget []) [(.sl true a1.length 2 (a1.flatMap e117)), (I (-1)), (.ag [(I 0), (I 0)]), (B false)] ⟨82, [(.sl true a1.length 2 (a1.flatMap e117)), (I (-1)), (.ag [(I 0), (I 0)]), (B false)], [], (.rf 512 0 x3.length 2 (x3.length * 2)), [(512, (x3.flatMap e117))], [], [], [(1001026, 512)], (.rf 1001026 0 x3.length 2 (x3.length * 2)), [(1001026, (x3.flatMap e117))]⟩], [⟨82, [(.sl true a1.length 2 (a1.flatMap e117)), (I (-1)), (.ag [(I 0), (I 0)]), (B false)], [], (.rf 512 0 x3.length 2 (x3.length * 2)), [(512, (x3.flatMap e117))], [], [], [(1001026, 512)], (.rf 1001026 0 x3.length 2 (x3.length * 2)), [(1001026, (x3.flatMap e117))]⟩]⟩ [c_ 30, c_ 31] (alc (cokW false (a2c (.z (frz_sl e117_ok (fun h => h))) (a2c (.z .s) (a2c (.z (frz_ag (a2c .s (a2c .s a2n)))) (a2c (.z .s) a2n)))) akn (akc (.inr rfl) akn) (.rf (memP_mem (p := (1001026, 512)) rfl)) (akc ⟨_, _, rfl, rfl, rowB e117_c _⟩ akn) (fun h => absurd h (by decide))) aln) (acal (spec_l05Put.J k a1 (-1) (⟨0, 0⟩ : S117) false _ hx3) nocal) ?_
        refine .reg' [0, 2, 3, 10, 11] [] ⟨[(0, (I a0)), (2, (.sl true a2.length 1 (a2.flatMap encI))), (3, (I a3)), (10, (.rf 1001026 0 x3.length 2 (x3.length * 2))), (11, (I 0))], [(1001026, (x3.flatMap e117))], [], []⟩ [c_ 124, c_ 125, c_ 63] aln nocal ?_
        refine .reg' [0, 2, 3, 10, 11, 12] [] ⟨[(0, (I a0)), (2, (.sl true a2.length 1 (a2.flatMap encI))), (3, (I a3)), (10, (.rf 1001026 0 x3.length 2 (x3.length * 2))), (11, (I 0)), (12, (I 0))], [(1001026, (x3.flatMap e117))], [], []⟩ [l_ 250, b_ 0, c_ 63] aln nocal ?_
        exact ih0 a0 a2 a3 x3 0 0 _ h
    · rw [if_neg c2] at h
      refine .reg' [0, 1, 2, 3, 28] [.no, .no, .c ⟨81, [(I a0), (.sl true a1.length 2 (a1.flatMap e117))], [], (B x1), [], [], [], [], (B x1), []⟩, .no, .v (B false), .no, .c ⟨54, [(I a3), (I 0), (I 3)], [], (B x2), [], [], [], [], (B x2), []⟩, .no, .no, .v (B true)] ⟨[(0, (I a0)), (1, (.sl true a1.length 2 (a1.flatMap e117))), (2, (.sl true a2.length 1 (a2.flatMap encI))), (3, (I a3)), (28, (B true))], [], [COK (hget []) [(I a0), (.sl true a1.length 2 (a1.flatMap e117))] ⟨81, [(I a0), (.sl true a1.length 2 (a1.flatMap e117))], [], (B x1), [], [], [], [], (B x1), []⟩, (B (!x1) : V) = B false, COK (hget []) [(I a3), (I 0), (I 3)] ⟨54, [(I a3), (I 0), (I 3)], [], (B x2), [], [], [], [], (B x2), []⟩, (B (!x2) : V) = B true], [⟨81, [(I a0), (.sl true a1.length 2 (a1.flatMap e117))], [], (B x1), [], [], [], [], (B x1), []⟩, ⟨54, [(I a3), (I 0), (I 3)], [], (B x2), [], [], [], [], (B x2), []⟩]⟩ [c_ 13, c_ 7] (alc (cok0 false (a2c (.z .s) (a2c (.z (frz_sl e117_ok (fun h => h))) a2n)) (.z .s) (fun h => absurd h (by decide))) (alc (bF (nF c1)) (alc (cok0 false (a2c (.z .s) (a2c (.z .s) (a2c (.z .s) a2n))) (.z .s) (fun h => absurd h (by decide))) (alc (bT (nT (vF c2))) aln)))) (acal (spec_TrainsOk.J k a0 a1 _ hx1) (acal (spec_l01In.J a3 0 3 _ hx2) nocal)) ?_
      refine .cond' (.tmp 28) true [c_ 52, c_ 53, c_ 7] (rfl) ?_
      refine .reg' [8, 9] [] ⟨[(8, nilS), (9, (I (-1)))], [], [], []⟩ [c_ 53, c_ 7] aln nocal ?_
      have h := Option.some.inj h
      subst h
      refine .nl' 1001026 ?_
      exact .fin' [] [(1001026, 1001026)] (.tp [nilS, (I (-1))]) [] aln (shc 1001026 (rowF e117_ok _) shn) (cnv_tp (a2c (.nl (memP_mem (p := (1001026, 1001026)) rfl) rfl) (a2c (.z .s) a2n)))
  · rw [if_neg c1] at h
    refine .reg' [0, 1, 2, 3, 28] [.no, .no, .c ⟨81, [(I a0), (.sl true a1.length 2 (a1.flatMap e117))], [], (B x1), [], [], [], [], (B x1), []⟩, .no, .v (B true)] ⟨[(0, (I a0)), (1, (.sl true a1.length 2 (a1.flatMap e117))), (2, (.sl true a2.length 1 (a2.flatMap encI))), (3, (I a3)), (28, (B true))], [], [COK (hget []) [(I a0), (.sl true a1.length 2 (a1.flatMap e117))] ⟨81, [(I a0), (.sl true a1.length 2 (a1.flatMap e117))], [], (B x1), [], [], [], [], (B x1), []⟩, (B (!x1) : V) = B true], [⟨81, [(I a0), (.sl true a1.length 2 (a1.flatMap e117))], [], (B x1), [], [], [], [], (B x1), []⟩]⟩ [c_ 13, c_ 7] (alc (cok0 false (a2c (.z .s) (a2c (.z (frz_sl e117_ok (fun h => h))) a2n)) (.z .s) (fun h => absurd h (by decide))) (alc (bT (nT (vF c1))) aln)) (acal (spec_TrainsOk.J k a0 a1 _ hx1) nocal) ?_
    refine .cond' (.tmp 28) true [c_ 52, c_ 53, c_ 7] (rfl) ?_
    refine .reg' [8, 9] [] ⟨[(8, nilS), (9, (I (-1)))], [], [], []⟩ [c_ 53, c_ 7] aln nocal ?_
    have h := Option.some.inj h
    subst h
    refine .nl' 1001026 ?_
    exact .fin' [] [(1001026, 1001026)] (.tp [nilS, (I (-1))]) [] aln (shc 1001026 (rowF e117_ok _) shn) (cnv_tp (a2c (.nl (memP_mem (p := (1001026, 1001026)) rfl) rfl) (a2c (.z .s) a2n)))
/-! impl_between: function 57 -/
def impl_between.f (a0 : Int) (a1 : Int) (a2 : Int) : Option Bool := (if a0 ≥ a1 then (some (decide (a0 ≤ a2))) else (some false))
theorem impl_between.J (a0 : Int) (a1 : Int) (a2 : Int) (r : Bool) (h : impl_between.f a0 a1 a2 = some r) : J prog (.call 57 [(I a0), (I a1), (I a2)] [] (B r) []) := by
  unfold impl_between.f at h
  refine .call' [c_ 2, c_ 3] ?_
  refine .reg' [0, 1, 2] [] ⟨[(0, (I a0)), (1, (I a1)), (2, (I a2))], [], [], []⟩ [c_ 6, c_ 7] aln nocal ?_
  by_cases c1 : a0 ≥ a1
  · rw [if_pos c1] at h
    refine .reg' [6] [.no, .no, .no, .v (B true)] ⟨[(6, (B (decide (a0 ≤ a2))))], [], [(B (decide (a0 ≥ a1)) : V) = B true], []⟩ [c_ 7] (alc (bT (dT c1)) aln) nocal ?_
    have h := Option.some.inj h
    subst h
    exact .fin0 [] (B (decide (a0 ≤ a2))) [] aln (.z .s)
  · rw [if_neg c1] at h
    refine .reg' [6] [.no, .no, .no, .v (B false)] ⟨[(6, (B false))], [], [(B (decide (a0 ≥ a1)) : V) = B false], []⟩ [c_ 7] (alc (bF (dF c1)) aln) nocal ?_
    have h := Option.some.inj h
    subst h
    exact .fin0 [] (B false) [] aln (.z .s)
/-! impl_TrainsOk: function 86 -/
def impl_TrainsOk.l0 : Nat → Int → (List S117) → Int → Int → Option Bool
 | 0, _, _, _, _ => none
 | k + 1, a0, a1, x2, x3 => (if x3 < (a1.length : Int) then (if 0 ≤ x3 then (if (at_ a1 x3).f0 ≤ x2 then (some false) else (if (at_ a1 x3).f1 < (at_ a1 x3).f0 then (some false) else (if (at_ a1 x3).f1 ≥ a0 then (some false) else (impl_TrainsOk.l0 k a0 a1 ((at_ a1 x3).f1) (wrap64 (x3 + 1)))))) else none) else (some true))
def impl_TrainsOk.f (k : Nat) (a0 : Int) (a1 : (List S117)) : Option Bool := ((impl_between.f a0 1 100).bind fun x1 => (if x1 = true then (if (a1.length : Int) > 12 then (some false) else (impl_TrainsOk.l0 k a0 a1 (-1) 0)) else (some false)))
theorem impl_TrainsOk.lab : ∀ k, (∀ (a0 : Int) (a1 : (List S117)) (x2 : Int) (x3 : Int) (r : Bool), impl_TrainsOk.l0 k a0 a1 x2 x3 = some r → J prog (.run 86 [] [l_ 122, b_ 0, c_ 31] [(0, (I a0)), (5, (I x2)), (16, (.sl true a1.length 2 (a1.flatMap e117))), (17, (I (a1.length : Int))), (18, (I x3))] [] (B r) []))
 | 0 => (by intro a0 a1 x2 x3 r h; unfold impl_TrainsOk.l0 at h; cases h)
 | k + 1 => by
  have ih := impl_TrainsOk.lab k
  have ih0 := ih
  · intro a0 a1 x2 x3 r h
    unfold impl_TrainsOk.l0 at h
    refine .loop' [c_ 488, c_ 489, l_ 122, b_ 0, c_ 31] ?_
    refine .reg' [0, 5, 16, 17, 18, 19] [] ⟨[(0, (I a0)), (5, (I x2)), (16, (.sl true a1.length 2 (a1.flatMap e117))), (17, (I (a1.length : Int))), (18, (I x3)), (19, (B (decide (x3 < (a1.length : Int)))))], [], [], []⟩ [c_ 978, c_ 979, l_ 122, b_ 0, c_ 31] aln nocal ?_
    by_cases c3 : x3 < (a1.length : Int)
    · rw [if_pos c3] at h
      refine .cond' (.tmp 19) true [c_ 7832, c_ 7833, b_ 1, c_ 1959, l_ 122, b_ 0, c_ 31] (bT (dT c3)) ?_
      by_cases c4 : 0 ≤ x3
      · rw [if_pos c4] at h
        refine .reg' [0, 5, 7, 16, 17, 18] [.no, .v (.ag [(I (at_ a1 x3).f0), (I (at_ a1 x3).f1)])] ⟨[(0, (I a0)), (5, (I x2)), (7, (.pt 1794 0 2)), (16, (.sl true a1.length 2 (a1.flatMap e117))), (17, (I (a1.length : Int))), (18, (I x3))], [(1794, [(I (at_ a1 x3).f0), (I (at_ a1 x3).f1)])], [(0 : Int) ≤ x3 ∧ x3 < (a1.length : Int), rdC prog 118 ((a1.flatMap e117).drop (x3.toNat * 2)) = (.ag [(I (at_ a1 x3).f0), (I (at_ a1 x3).f1)]), 2 ≤ ((a1.flatMap e117).drop (x3.toNat * 2)).length, 2 = 2 ∧ 0 + 2 ≤ 2], []⟩ [c_ 31332, c_ 31333, c_ 15667, b_ 1, c_ 1959, l_ 122, b_ 0, c_ 31] (alc ⟨c4, c3⟩ (alc (ldA e117_ok rfl rfl c4 c3) (alc (okI e117_ok c4 c3 (by decide)) (alc ⟨rfl, by decide⟩ aln)))) nocal ?_
        by_cases c5 : (at_ a1 x3).f0 ≤ x2
        · rw [if_pos c5] at h
          refine .reg' [0, 7, 16, 17, 18, 38] [.no, .no, .no, .no, .v (B true)] ⟨[(0, (I a0)), (7, (.pt 1794 0 2)), (16, (.sl true a1.length 2 (a1.flatMap e117))), (17, (I (a1.length : Int))), (18, (I x3)), (38, (B true))], [(1794, [(I (at_ a1 x3).f0), (I (at_ a1 x3).f1)])], [2 = 2 ∧ 0 + 1 ≤ 2, (B (decide ((at_ a1 x3).f0 ≤ x2)) : V) = B true], []⟩ [c_ 31333, c_ 15667, b_ 1, c_ 1959, l_ 122, b_ 0, c_ 31] (alc ⟨rfl, by decide⟩ (alc (bT (dT c5)) aln)) nocal ?_
          refine .cond' (.tmp 38) true [c_ 125332, c_ 125333, c_ 15667, b_ 1, c_ 1959, l_ 122, b_ 0, c_ 31] (rfl) ?_
          refine .reg' [4] [] ⟨[(4, (B false))], [(1794, [(I (at_ a1 x3).f0), (I (at_ a1 x3).f1)])], [], []⟩ [c_ 125333, c_ 15667, b_ 1, c_ 1959, l_ 122, b_ 0, c_ 31] aln nocal ?_
          have h := Option.some.inj h
          subst h
          exact .fin0 [] (B false) [] aln (.z .s)
        · rw [if_neg c5] at h
          by_cases c6 : (at_ a1 x3).f1 < (at_ a1 x3).f0
          · rw [if_pos c6] at h
            refine .reg' [0, 7, 16, 17, 18, 38] [.no, .no, .no, .no, .v (B false), .no, .no, .no, .no, .no, .no, .v (B true)] ⟨[(0, (I a0)), (7, (.pt 1794 0 2)), (16, (.sl true a1.length 2 (a1.flatMap e117))), (17, (I (a1.length : Int))), (18, (I x3)), (38, (B true))], [(1794, [(I (at_ a1 x3).f0), (I (at_ a1 x3).f1)])], [2 = 2 ∧ 0 + 1 ≤ 2, (B (decide ((at_ a1 x3).f0 ≤ x2)) : V) = B false, 2 = 2 ∧ 1 + 1 ≤ 2, 2 = 2 ∧ 0 + 1 ≤ 2, (B (decide ((at_ a1 x3).f1 < (at_ a1 x3).f0)) : V) = B true], []⟩ [c_ 31333, c_ 15667, b_ 1, c_ 1959, l_ 122, b_ 0, c_ 31] (alc ⟨rfl, by decide⟩ (alc (bF (dF c5)) (alc ⟨rfl, by decide⟩ (alc ⟨rfl, by decide⟩ (alc (bT (dT c6)) aln))))) nocal ?_
            refine .cond' (.tmp 38) true [c_ 125332, c_ 125333, c_ 15667, b_ 1, c_ 1959, l_ 122, b_ 0, c_ 31] (rfl) ?_
            refine .reg' [4] [] ⟨[(4, (B false))], [(1794, [(I (at_ a1 x3).f0), (I (at_ a1 x3).f1)])], [], []⟩ [c_ 125333, c_ 15667, b_ 1, c_ 1959, l_ 122, b_ 0, c_ 31] aln nocal ?_
            have h := Option.some.inj h
            subst h
            exact .fin0 [] (B false) [] aln (.z .s)
          · rw [if_neg c6] at h
            refine .reg' [0, 7, 16, 17, 18, 38] [.no, .no, .no, .no, .v (B false), .no, .no, .no, .no, .no, .no, .v (B false)] ⟨[(0, (I a0)), (7, (.pt 1794 0 2)), (16, (.sl true a1.length 2 (a1.flatMap e117))), (17, (I (a1.length : Int))), (18, (I x3)), (38, (B (decide ((at_ a1 x3).f1 ≥ a0))))], [(1794, [(I (at_ a1 x3).f0), (I (at_ a1 x3).f1)])], [2 = 2 ∧ 0 + 1 ≤ 2, (B (decide ((at_ a1 x3).f0 ≤ x2)) : V) = B false, 2 = 2 ∧ 1 + 1 ≤ 2, 2 = 2 ∧ 0 + 1 ≤ 2, (B (decide ((at_ a1 x3).f1 < (at_ a1 x3).f0)) : V) = B false, 2 = 2 ∧ 1 + 1 ≤ 2], []⟩ [c_ 31333, c_ 15667, b_ 1, c_ 1959, l_ 122, b_ 0, c_ 31] (alc ⟨rfl, by decide⟩ (alc (bF (dF c5)) (alc ⟨rfl, by decide⟩ (alc ⟨rfl, by decide⟩ (alc (bF (dF c6)) (alc ⟨rfl, by decide⟩ aln)))))) nocal ?_
            by_cases c7 : (at_ a1 x3).f1 ≥ a0
            · rw [if_pos c7] at h
              refine .cond' (.tmp 38) true [c_ 125332, c_ 125333, c_ 15667, b_ 1, c_ 1959, l_ 122, b_ 0, c_ 31] (bT (dT c7)) ?_
              refine .reg' [4] [] ⟨[(4, (B false))], [(1794, [(I (at_ a1 x3).f0), (I (at_ a1 x3).f1)])], [], []⟩ [c_ 125333, c_ 15667, b_ 1, c_ 1959, l_ 122, b_ 0, c_ 31] aln nocal ?_
              have h := Option.some.inj h
              subst h
              exact .fin0 [] (B false) [] aln (.z .s)
            · rw [if_neg c7] at h
              refine .cond' (.tmp 38) false [c_ 15667, b_ 1, c_ 1959, l_ 122, b_ 0, c_ 31] (bF (dF c7)) ?_
              refine .reg' [0, 5, 16, 17, 18] [] ⟨[(0, (I a0)), (5, (I (at_ a1 x3).f1)), (16, (.sl true a1.length 2 (a1.flatMap e117))), (17, (I (a1.length : Int))), (18, (I x3))], [(1794, [(I (at_ a1 x3).f0), (I (at_ a1 x3).f1)])], [2 = 2 ∧ 1 + 1 ≤ 2], []⟩ [c_ 1959, l_ 122, b_ 0, c_ 31] (alc ⟨rfl, by decide⟩ aln) nocal ?_
              refine .reg' [0, 5, 16, 17, 18] [] ⟨[(0, (I a0)), (5, (I (at_ a1 x3).f1)), (16, (.sl true a1.length 2 (a1.flatMap e117))), (17, (I (a1.length : Int))), (18, (I (wrap64 (x3 + 1))))], [(1794, [(I (at_ a1 x3).f0), (I (at_ a1 x3).f1)])], [], []⟩ [l_ 122, b_ 0, c_ 31] aln nocal ?_
              refine .wk' [] [] [(0, (I a0)), (5, (I (at_ a1 x3).f1)), (16, (.sl true a1.length 2 (a1.flatMap e117))), (17, (I (a1.length : Int))), (18, (I (wrap64 (x3 + 1))))] [] shn (enc_ (.z .s) (enc_ (.z .s) (enc_ (.z (frz_sl e117_ok (fun h => h))) (enc_ (.z .s) (enc_ (.z .s) enn))))) ?_
              exact ih0 a0 a1 ((at_ a1 x3).f1) (wrap64 (x3 + 1)) _ h
      · rw [if_neg c4] at h
        cases h
    · rw [if_neg c3] at h
      refine .cond' (.tmp 19) false [c_ 62, c_ 63] (bF (dF c3)) ?_
      refine .reg' [4] [] ⟨[(4, (B true))], [], [], []⟩ [c_ 63] aln nocal ?_
      have h := Option.some.inj h
      subst h
      exact .fin0 [] (B true) [] aln (.z .s)
theorem impl_TrainsOk.J (k : Nat) (a0 : Int) (a1 : (List S117)) (r : Bool) (h : impl_TrainsOk.f k a0 a1 = some r) : J prog (.call 86 [(I a0), (.sl true a1.length 2 (a1.flatMap e117))] [] (B r) []) := by
  unfold impl_TrainsOk.f at h
  have ih0 := impl_TrainsOk.lab k
  refine .call' [c_ 2, c_ 3] ?_
  refine .reg' [0, 1] [] ⟨[(0, (I a0)), (1, (.sl true a1.length 2 (a1.flatMap e117)))], [], [], []⟩ [c_ 12, c_ 13, c_ 7] aln nocal ?_
  obtain ⟨x1, hx1, h⟩ := Option.bind_eq_some_iff.mp h
  by_cases c1 : x1 = true
  · rw [if_pos c1] at h
    refine .reg' [0, 1, 15] [.no, .c ⟨57, [(I a0), (I 1), (I 100)], [], (B x1), [], [], [], [], (B x1), []⟩, .no, .v (B false)] ⟨[(0, (I a0)), (1, (.sl true a1.length 2 (a1.flatMap e117))), (15, (B (decide ((a1.length : Int) > 12))))], [], [COK (hget []) [(I a0), (I 1), (I 100)] ⟨57, [(I a0), (I 1), (I 100)], [], (B x1), [], [], [], [], (B x1), []⟩, (B (!x1) : V) = B false], [⟨57, [(I a0), (I 1), (I 100)], [], (B x1), [], [], [], [], (B x1), []⟩]⟩ [c_ 13, c_ 7] (alc (cok0 false (a2c (.z .s) (a2c (.z .s) (a2c (.z .s) a2n))) (.z .s) (fun h => absurd h (by decide))) (alc (bF (nF c1)) aln)) (acal (impl_between.J a0 1 100 _ hx1) nocal) ?_
    by_cases c2 : (a1.length : Int) > 12
    · rw [if_pos c2] at h
      refine .cond' (.tmp 15) true [c_ 52, c_ 53, c_ 7] (bT (dT c2)) ?_
      refine .reg' [4] [] ⟨[(4, (B false))], [], [], []⟩ [c_ 53, c_ 7] aln nocal ?_
      have h := Option.some.inj h
      subst h
      exact .fin0 [] (B false) [] aln (.z .s)
    · rw [if_neg c2] at h
      refine .cond' (.tmp 15) false [c_ 14, c_ 15] (bF (dF c2)) ?_
      refine .reg' [0, 1, 5] [] ⟨[(0, (I a0)), (1, (.sl true a1.length 2 (a1.flatMap e117))), (5, (I (-1)))], [], [], []⟩ [c_ 60, c_ 61, c_ 31] aln nocal ?_
      refine .reg' [0, 5, 16, 17, 18] [] ⟨[(0, (I a0)), (5, (I (-1))), (16, (.sl true a1.length 2 (a1.flatMap e117))), (17, (I (a1.length : Int))), (18, (I 0))], [], [], []⟩ [l_ 122, b_ 0, c_ 31] aln nocal ?_
      exact ih0 a0 a1 (-1) 0 _ h
  · rw [if_neg c1] at h
    refine .reg' [0, 1, 15] [.no, .c ⟨57, [(I a0), (I 1), (I 100)], [], (B x1), [], [], [], [], (B x1), []⟩, .no, .v (B true)] ⟨[(0, (I a0)), (1, (.sl true a1.length 2 (a1.flatMap e117))), (15, (B true))], [], [COK (hget []) [(I a0), (I 1), (I 100)] ⟨57, [(I a0), (I 1), (I 100)], [], (B x1), [], [], [], [], (B x1), []⟩, (B (!x1) : V) = B true], [⟨57, [(I a0), (I 1), (I 100)], [], (B x1), [], [], [], [], (B x1), []⟩]⟩ [c_ 13, c_ 7] (alc (cok0 false (a2c (.z .s) (a2c (.z .s) (a2c (.z .s) a2n))) (.z .s) (fun h => absurd h (by decide))) (alc (bT (nT (vF c1))) aln)) (acal (impl_between.J a0 1 100 _ hx1) nocal) ?_
    refine .cond' (.tmp 15) true [c_ 52, c_ 53, c_ 7] (rfl) ?_
    refine .reg' [4] [] ⟨[(4, (B false))], [], [], []⟩ [c_ 53, c_ 7] aln nocal ?_
    have h := Option.some.inj h
    subst h
    exact .fin0 [] (B false) [] aln (.z .s)
/-! impl_takenBy: function 111 -/
mutual
def impl_takenBy.l0 : Nat → (List S117) → (List Bool) → Int → Option (List Bool)
 | 0, _, _, _ => none
 | k + 1, a1, x1, x2 => (if x2 < (a1.length : Int) then (if 0 ≤ x2 then (impl_takenBy.l1 k a1 x2 x1 ((at_ a1 x2).f0)) else none) else (some x1))
def impl_takenBy.l1 : Nat → (List S117) → Int → (List Bool) → Int → Option (List Bool)
 | 0, _, _, _, _ => none
 | k + 1, a1, x2, x3, x4 => (if x4 ≤ (at_ a1 x2).f1 then (if 0 ≤ x4 then (if x4 < (x3.length : Int) then (impl_takenBy.l1 k a1 x2 (x3.set x4.toNat true) (wrap64 (x4 + 1))) else none) else none) else (impl_takenBy.l0 k a1 x3 (wrap64 (x2 + 1))))
end
def impl_takenBy.f (k : Nat) (a0 : Int) (a1 : (List S117)) : Option (List Bool) := (if 0 ≤ a0 then (if a0 * 1 ≤ 281474976710656 then (impl_takenBy.l0 k a1 (List.replicate a0.toNat (false : Bool)) 0) else none) else none)
theorem impl_takenBy.lab : ∀ k, (∀ (a1 : (List S117)) (x1 : (List Bool)) (x2 : Int) (r : (List Bool)), impl_takenBy.l0 k a1 x1 x2 = some r → J prog (.run 111 [] [l_ 58, b_ 0, c_ 15] [(5, (.rf 513 0 x1.length 1 (x1.length * 1))), (11, (.sl true a1.length 2 (a1.flatMap e117))), (12, (I (a1.length : Int))), (13, (I x2))] [(513, (x1.flatMap encB))] (.rf 513 0 r.length 1 (r.length * 1)) [(513, (r.flatMap encB))])) ∧ (∀ (a1 : (List S117)) (x2 : Int) (x3 : (List Bool)) (x4 : Int) (r : (List Bool)), impl_takenBy.l1 k a1 x2 x3 x4 = some r → J prog (.run 111 [] [l_ 14950, b_ 2, b_ 1, c_ 935, l_ 58, b_ 0, c_ 15] [(5, (.rf 513 0 x3.length 1 (x3.length * 1))), (7, (.pt 1282 0 2)), (8, (I x4)), (11, (.sl true a1.length 2 (a1.flatMap e117))), (12, (I (a1.length : Int))), (13, (I x2))] [(513, (x3.flatMap encB)), (1282, [(I (at_ a1 x2).f0), (I (at_ a1 x2).f1)])] (.rf 513 0 r.length 1 (r.length * 1)) [(513, (r.flatMap encB))]))
 | 0 => ⟨(by intro a1 x1 x2 r h; unfold impl_takenBy.l0 at h; cases h), (by intro a1 x2 x3 x4 r h; unfold impl_takenBy.l1 at h; cases h)⟩
 | k + 1 => by
  obtain ⟨ih0, ih1⟩ := impl_takenBy.lab k
  refine ⟨?_, ?_⟩
  · intro a1 x1 x2 r h
    unfold impl_takenBy.l0 at h
    refine .loop' [c_ 232, c_ 233, l_ 58, b_ 0, c_ 15] ?_
    refine .reg' [5, 11, 12, 13, 14] [] ⟨[(5, (.rf 513 0 x1.length 1 (x1.length * 1))), (11, (.sl true a1.length 2 (a1.flatMap e117))), (12, (I (a1.length : Int))), (13, (I x2)), (14, (B (decide (x2 < (a1.length : Int)))))], [(513, (x1.flatMap encB))], [], []⟩ [c_ 466, c_ 467, l_ 58, b_ 0, c_ 15] aln nocal ?_
    by_cases c3 : x2 < (a1.length : Int)
    · rw [if_pos c3] at h
      refine .cond' (.tmp 14) true [c_ 3736, c_ 3737, b_ 1, c_ 935, l_ 58, b_ 0, c_ 15] (bT (dT c3)) ?_
      by_cases c4 : 0 ≤ x2
      · rw [if_pos c4] at h
        refine .reg' [5, 7, 11, 12, 13] [.no, .v (.ag [(I (at_ a1 x2).f0), (I (at_ a1 x2).f1)])] ⟨[(5, (.rf 513 0 x1.length 1 (x1.length * 1))), (7, (.pt 1282 0 2)), (11, (.sl true a1.length 2 (a1.flatMap e117))), (12, (I (a1.length : Int))), (13, (I x2))], [(513, (x1.flatMap encB)), (1282, [(I (at_ a1 x2).f0), (I (at_ a1 x2).f1)])], [(0 : Int) ≤ x2 ∧ x2 < (a1.length : Int), rdC prog 118 ((a1.flatMap e117).drop (x2.toNat * 2)) = (.ag [(I (at_ a1 x2).f0), (I (at_ a1 x2).f1)]), 2 ≤ ((a1.flatMap e117).drop (x2.toNat * 2)).length, 2 = 2 ∧ 0 + 2 ≤ 2], []⟩ [c_ 7474, c_ 7475, b_ 1, c_ 935, l_ 58, b_ 0, c_ 15] (alc ⟨c4, c3⟩ (alc (ldA e117_ok rfl rfl c4 c3) (alc (okI e117_ok c4 c3 (by decide)) (alc ⟨rfl, by decide⟩ aln)))) nocal ?_
        refine .reg' [5, 7, 8, 11, 12, 13] [] ⟨[(5, (.rf 513 0 x1.length 1 (x1.length * 1))), (7, (.pt 1282 0 2)), (8, (I (at_ a1 x2).f0)), (11, (.sl true a1.length 2 (a1.flatMap e117))), (12, (I (a1.length : Int))), (13, (I x2))], [(513, (x1.flatMap encB)), (1282, [(I (at_ a1 x2).f0), (I (at_ a1 x2).f1)])], [2 = 2 ∧ 0 + 1 ≤ 2], []⟩ [l_ 14950, b_ 2, b_ 1, c_ 935, l_ 58, b_ 0, c_ 15] (alc ⟨rfl, by decide⟩ aln) nocal ?_
        exact ih1 a1 x2 x1 ((at_ a1 x2).f0) _ h
      · rw [if_neg c4] at h
        cases h
    · rw [if_neg c3] at h
      refine .cond' (.tmp 14) false [c_ 30, c_ 31] (bF (dF c3)) ?_
      refine .reg' [4] [] ⟨[(4, (.rf 513 0 x1.length 1 (x1.length * 1)))], [(513, (x1.flatMap encB))], [], []⟩ [c_ 31] aln nocal ?_
      have h := Option.some.inj h
      subst h
      exact .fin' [] [(513, 513)] (.rf 513 0 x1.length 1 (x1.length * 1)) [] aln (shc 513 (rowF encB_ok _) shn) (.rf (memP_mem (p := (513, 513)) rfl))
  · intro a1 x2 x3 x4 r h
    unfold impl_takenBy.l1 at h
    refine .loop' [c_ 119600, c_ 119601, c_ 59801, l_ 14950, b_ 2, b_ 1, c_ 935, l_ 58, b_ 0, c_ 15] ?_
    refine .reg' [5, 7, 8, 11, 12, 13, 22] [] ⟨[(5, (.rf 513 0 x3.length 1 (x3.length * 1))), (7, (.pt 1282 0 2)), (8, (I x4)), (11, (.sl true a1.length 2 (a1.flatMap e117))), (12, (I (a1.length : Int))), (13, (I x2)), (22, (B (decide (x4 ≤ (at_ a1 x2).f1))))], [(513, (x3.flatMap encB)), (1282, [(I (at_ a1 x2).f0), (I (at_ a1 x2).f1)])], [2 = 2 ∧ 1 + 1 ≤ 2], []⟩ [c_ 119601, c_ 59801, l_ 14950, b_ 2, b_ 1, c_ 935, l_ 58, b_ 0, c_ 15] (alc ⟨rfl, by decide⟩ aln) nocal ?_
    by_cases c5 : x4 ≤ (at_ a1 x2).f1
    · rw [if_pos c5] at h
      refine .cond' (.tmp 22) true [c_ 239204, b_ 3, c_ 119603, l_ 14950, b_ 2, b_ 1, c_ 935, l_ 58, b_ 0, c_ 15] (bT (dT c5)) ?_
      by_cases c6 : 0 ≤ x4
      · rw [if_pos c6] at h
        by_cases c7 : x4 < (x3.length : Int)
        · rw [if_pos c7] at h
          refine .reg' [5, 7, 8, 11, 12, 13] [.no, .no, .no, .w .un ((x3.set x4.toNat true).flatMap encB)] ⟨[(5, (.rf 513 0 x3.length 1 (x3.length * 1))), (7, (.pt 1282 0 2)), (8, (I x4)), (11, (.sl true a1.length 2 (a1.flatMap e117))), (12, (I (a1.length : Int))), (13, (I x2))], [(513, ((x3.set x4.toNat true).flatMap encB)), (1282, [(I (at_ a1 x2).f0), (I (at_ a1 x2).f1)])], [(0 : Int) ≤ x4 ∧ x4 < (x3.length : Int), V.un = V.un, spl (x3.flatMap encB) (0 + x4.toNat * 1) [(B true)] = ((x3.set x4.toNat true).flatMap encB), x3.length * 1 = (x3.flatMap encB).length ∧ 0 + x4.toNat * 1 + 1 ≤ (x3.flatMap encB).length], []⟩ [c_ 119603, l_ 14950, b_ 2, b_ 1, c_ 935, l_ 58, b_ 0, c_ 15] (alc ⟨c6, c7⟩ (alc rfl (alc (st_row1 encB_ok c6 c7 (B true) rfl) (alc (okA0 encB_ok c6 c7 (by decide)) aln)))) nocal ?_
          refine .eqs (env2 := [(5, (.rf 513 0 ((x3.set x4.toNat true).length) 1 ((x3.set x4.toNat true).length * 1))), (7, (.pt 1282 0 2)), (8, (I x4)), (11, (.sl true a1.length 2 (a1.flatMap e117))), (12, (I (a1.length : Int))), (13, (I x2))]) (H2 := [(513, ((x3.set x4.toNat true).flatMap encB)), (1282, [(I (at_ a1 x2).f0), (I (at_ a1 x2).f1)])]) (by first | (simp only [List.length_set]; done) | simp) (by first | rfl | (simp only [List.length_set]; done) | simp) ?_
          refine .reg' [5, 7, 8, 11, 12, 13] [] ⟨[(5, (.rf 513 0 ((x3.set x4.toNat true).length) 1 ((x3.set x4.toNat true).length * 1))), (7, (.pt 1282 0 2)), (8, (I (wrap64 (x4 + 1)))), (11, (.sl true a1.length 2 (a1.flatMap e117))), (12, (I (a1.length : Int))), (13, (I x2))], [(513, ((x3.set x4.toNat true).flatMap encB)), (1282, [(I (at_ a1 x2).f0), (I (at_ a1 x2).f1)])], [], []⟩ [l_ 14950, b_ 2, b_ 1, c_ 935, l_ 58, b_ 0, c_ 15] aln nocal ?_
          exact ih1 a1 x2 (x3.set x4.toNat true) (wrap64 (x4 + 1)) _ h
        · rw [if_neg c7] at h
          cases h
      · rw [if_neg c6] at h
        cases h
    · rw [if_neg c5] at h
      refine .cond' (.tmp 22) false [c_ 935, l_ 58, b_ 0, c_ 15] (bF (dF c5)) ?_
      refine .reg' [5, 11, 12, 13] [] ⟨[(5, (.rf 513 0 x3.length 1 (x3.length * 1))), (11, (.sl true a1.length 2 (a1.flatMap e117))), (12, (I (a1.length : Int))), (13, (I (wrap64 (x2 + 1))))], [(513, (x3.flatMap encB)), (1282, [(I (at_ a1 x2).f0), (I (at_ a1 x2).f1)])], [], []⟩ [l_ 58, b_ 0, c_ 15] aln nocal ?_
      refine .wk' [] [(513, 513)] [(5, (.rf 513 0 x3.length 1 (x3.length * 1))), (11, (.sl true a1.length 2 (a1.flatMap e117))), (12, (I (a1.length : Int))), (13, (I (wrap64 (x2 + 1))))] [(513, (x3.flatMap encB))] (shc 513 (rowF encB_ok _) shn) (enc_ (.rf (memP_mem (p := (513, 513)) rfl)) (enc_ (.z (frz_sl e117_ok (fun h => h))) (enc_ (.z .s) (enc_ (.z .s) enn)))) ?_
      exact ih0 a1 x3 (wrap64 (x2 + 1)) _ h
theorem impl_takenBy.J (k : Nat) (a0 : Int) (a1 : (List S117)) (r : (List Bool)) (h : impl_takenBy.f k a0 a1 = some r) : J prog (.call 111 [(I a0), (.sl true a1.length 2 (a1.flatMap e117))] [] (.rf 513 0 r.length 1 (r.length * 1)) [(513, (r.flatMap encB))]) := by
  unfold impl_takenBy.f at h
  obtain ⟨ih0, ih1⟩ := impl_takenBy.lab k
  refine .call' [c_ 2, c_ 3] ?_
  refine .reg' [0, 1] [] ⟨[(0, (I a0)), (1, (.sl true a1.length 2 (a1.flatMap e117)))], [], [], []⟩ [c_ 6, c_ 7] aln nocal ?_
  by_cases c1 : 0 ≤ a0
  · rw [if_pos c1] at h
    by_cases c2 : a0 * 1 ≤ 281474976710656
    · rw [if_pos c2] at h
      refine .reg' [1, 5] [.no, .w (.rf 513 0 ((List.replicate a0.toNat (false : Bool)).length) 1 ((List.replicate a0.toNat (false : Bool)).length * 1)) ((List.replicate a0.toNat (false : Bool)).flatMap encB)] ⟨[(1, (.sl true a1.length 2 (a1.flatMap e117))), (5, (.rf 513 0 ((List.replicate a0.toNat (false : Bool)).length) 1 ((List.replicate a0.toNat (false : Bool)).length * 1)))], [(513, ((List.replicate a0.toNat (false : Bool)).flatMap encB))], [V.rf 513 0 a0.toNat 1 (a0.toNat * 1) = (.rf 513 0 ((List.replicate a0.toNat (false : Bool)).length) 1 ((List.replicate a0.toNat (false : Bool)).length * 1)), rept a0.toNat [(B false)] = (List.replicate a0.toNat (false : Bool)).flatMap encB, a0 = a0 ∧ 0 ≤ a0 ∧ a0 * 1 ≤ 281474976710656 ∧ a0 ≤ 9223372036854775807], []⟩ [c_ 28, c_ 29, c_ 15] (alc mkV (alc (row_rept1 (enc := encB) (x := false) (v := (B false)) rfl _) (alc ⟨rfl, c1, c2, by omega⟩ aln))) nocal ?_
      refine .reg' [5, 11, 12, 13] [] ⟨[(5, (.rf 513 0 ((List.replicate a0.toNat (false : Bool)).length) 1 ((List.replicate a0.toNat (false : Bool)).length * 1))), (11, (.sl true a1.length 2 (a1.flatMap e117))), (12, (I (a1.length : Int))), (13, (I 0))], [(513, ((List.replicate a0.toNat (false : Bool)).flatMap encB))], [], []⟩ [l_ 58, b_ 0, c_ 15] aln nocal ?_
      exact ih0 a1 (List.replicate a0.toNat (false : Bool)) 0 _ h
    · rw [if_neg c2] at h
      cases h
  · rw [if_neg c1] at h
    cases h
/-! impl_goOn: function 87 -/
def impl_goOn.f (k : Nat) (a0 : Int) (a1 : (List S117)) (a2 : Int) (a3 : Int) : Option ((List S117) × Bool) := (if 0 ≤ a2 then (if a2 < (a1.length : Int) then (if (wrap64 ((at_ a1 a2).f1 + 1)) = a0 then (if a3 = 0 then (some (([] : List S117), false)) else (if a2 ≤ (a1.length : Int) then (if (([] : List S117).length + ((a1.drop (0 : Int).toNat).take (a2.toNat - (0 : Int).toNat)).length) * 16 ≤ 70368744177664 then (if 0 ≤ (wrap64 (a2 + 1)) then (if (wrap64 (a2 + 1)) ≤ (a1.length : Int) then (if ((([] : List S117) ++ ((a1.drop (0 : Int).toNat).take (a2.toNat - (0 : Int).toNat))).length + ((a1.drop (wrap64 (a2 + 1)).toNat).take ((a1.length : Int).toNat - (wrap64 (a2 + 1)).toNat)).length) * 16 ≤ 70368744177664 then (some (((([] : List S117) ++ ((a1.drop (0 : Int).toNat).take (a2.toNat - (0 : Int).toNat))) ++ ((a1.drop (wrap64 (a2 + 1)).toNat).take ((a1.length : Int).toNat - (wrap64 (a2 + 1)).toNat))), true)) else none) else none) else none) else none) else none)) else ((impl_takenBy.f k a0 a1).bind fun x1 => (if 0 ≤ (wrap64 ((at_ a1 a2).f1 + 1)) then (if (wrap64 ((at_ a1 a2).f1 + 1)) < (x1.length : Int) then (if (at_ x1 (wrap64 ((at_ a1 a2).f1 + 1))) = true then (some (([] : List S117), false)) else (if (([] : List S117).length + a1.length) * 16 ≤ 70368744177664 then (if a2 < ((([] : List S117) ++ a1).length : Int) then (some (((([] : List S117) ++ a1).set a2.toNat (⟨(at_ (([] : List S117) ++ a1) a2).f0, (wrap64 ((at_ a1 a2).f1 + 1))⟩ : S117)), true)) else none) else none)) else none) else none))) else none) else none)
end Go.Proofs.Ytjfjifnmfnlfoaa.Fns
