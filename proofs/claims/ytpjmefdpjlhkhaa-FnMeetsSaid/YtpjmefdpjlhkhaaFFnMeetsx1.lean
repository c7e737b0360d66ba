/- The functions that the law FnMeets reaches, by the engine. Printed by a program of this seat. -/
import Derived.Test.YtpjmefdpjlhkhaaE5
import Derived.Test.YtpjmefdpjlhkhaaProg
import Derived.Test.YtpjmefdpjlhkhaaFFnMeetsx0
namespace Go.Proofs.Ytpjmefdpjlhkhaa.Fns
open Go.Proofs.Try Go.Proofs.Ytpjmefdpjlhkhaa.Eng Go.RowKit
set_option maxRecDepth 100000
set_option linter.unusedVariables false
set_option linter.unusedSimpArgs false
theorem impl_SinglesOk.lab : ∀ k, (∀ (a0 : (List Int)) (a1 : (List S44)) (x2 : Int) (r : Bool), impl_SinglesOk.l0 k a0 a1 x2 = some r → J prog (.run 16 [] [l_ 58, b_ 0, c_ 15] [(0, (.sl true a0.length 1 (a0.flatMap encI))), (1, (.sl true a1.length 2 (a1.flatMap e44))), (19, (.sl true a0.length 1 (a0.flatMap encI))), (20, (I (a0.length : Int))), (21, (I x2))] [] (B r) [])) ∧ (∀ (a0 : (List Int)) (a1 : (List S44)) (x4 : (List Int)) (x5 : Int) (r : Bool), impl_SinglesOk.l1 k a0 a1 x4 x5 = some r → J prog (.run 16 [] [l_ 250, b_ 2, c_ 63] [(0, (.sl true a0.length 1 (a0.flatMap encI))), (7, (.pt 2560 0 (x4.length * 1))), (29, (.sl true a1.length 2 (a1.flatMap e44))), (30, (I (a1.length : Int))), (31, (I x5))] [(2560, (x4.flatMap encI))] (B r) []))
 | 0 => ⟨(by intro a0 a1 x2 r h; unfold impl_SinglesOk.l0 at h; cases h), (by intro a0 a1 x4 x5 r h; unfold impl_SinglesOk.l1 at h; cases h)⟩
 | k + 1 => by
  obtain ⟨ih0, ih1⟩ := impl_SinglesOk.lab k
  refine ⟨?_, ?_⟩
  · intro a0 a1 x2 r h
    unfold impl_SinglesOk.l0 at h
    refine .loop' [c_ 232, c_ 233, l_ 58, b_ 0, c_ 15] ?_
    refine .reg' [0, 1, 19, 20, 21, 22] [] ⟨[(0, (.sl true a0.length 1 (a0.flatMap encI))), (1, (.sl true a1.length 2 (a1.flatMap e44))), (19, (.sl true a0.length 1 (a0.flatMap encI))), (20, (I (a0.length : Int))), (21, (I x2)), (22, (B (decide (x2 < (a0.length : Int)))))], [], [], []⟩ [c_ 466, c_ 467, l_ 58, b_ 0, c_ 15] aln nocal ?_
    by_cases c3 : x2 < (a0.length : Int)
    · rw [if_pos c3] at h
      refine .cond' (.tmp 22) true [c_ 3736, c_ 3737, b_ 1, c_ 935, l_ 58, b_ 0, c_ 15] (bT (dT c3)) ?_
      by_cases c4 : 0 ≤ x2
      · rw [if_pos c4] at h
        refine .reg' [0, 1, 6, 19, 20, 21] [.no, .v (I (at_ a0 x2))] ⟨[(0, (.sl true a0.length 1 (a0.flatMap encI))), (1, (.sl true a1.length 2 (a1.flatMap e44))), (6, (I (at_ a0 x2))), (19, (.sl true a0.length 1 (a0.flatMap encI))), (20, (I (a0.length : Int))), (21, (I x2))], [], [(0 : Int) ≤ x2 ∧ x2 < (a0.length : Int), rdC prog 3 ((a0.flatMap encI).drop (x2.toNat * 1)) = (I (at_ a0 x2)), 1 ≤ ((a0.flatMap encI).drop (x2.toNat * 1)).length], []⟩ [c_ 7474, c_ 7475, b_ 1, c_ 935, l_ 58, b_ 0, c_ 15] (alc ⟨c4, c3⟩ (alc (ldC1 encI_ok rfl c4 c3) (alc (okI encI_ok c4 c3 (by decide)) aln))) nocal ?_
        obtain ⟨x3, hx3, h⟩ := Option.bind_eq_some_iff.mp h
        refine .reg' [0, 1, 19, 20, 21, 27] [.no, .c ⟨42, [(I (at_ a0 x2)), (I 1), (I 4)], [], (B x3), [], [], [], [], (B x3), []⟩] ⟨[(0, (.sl true a0.length 1 (a0.flatMap encI))), (1, (.sl true a1.length 2 (a1.flatMap e44))), (19, (.sl true a0.length 1 (a0.flatMap encI))), (20, (I (a0.length : Int))), (21, (I x2)), (27, (B (!x3)))], [], [COK (hget []) [(I (at_ a0 x2)), (I 1), (I 4)] ⟨42, [(I (at_ a0 x2)), (I 1), (I 4)], [], (B x3), [], [], [], [], (B x3), []⟩], [⟨42, [(I (at_ a0 x2)), (I 1), (I 4)], [], (B x3), [], [], [], [], (B x3), []⟩]⟩ [c_ 7475, b_ 1, c_ 935, l_ 58, b_ 0, c_ 15] (alc (cok0 false (a2c (.z .s) (a2c (.z .s) (a2c (.z .s) a2n))) (.z .s) (fun h => absurd h (by decide))) aln) (acal (impl_between.J (at_ a0 x2) 1 4 _ hx3) nocal) ?_
        by_cases c5 : x3 = true
        · rw [if_pos c5] at h
          refine .cond' (.tmp 27) false [c_ 935, l_ 58, b_ 0, c_ 15] (bF (nF c5)) ?_
          refine .reg' [0, 1, 19, 20, 21] [] ⟨[(0, (.sl true a0.length 1 (a0.flatMap encI))), (1, (.sl true a1.length 2 (a1.flatMap e44))), (19, (.sl true a0.length 1 (a0.flatMap encI))), (20, (I (a0.length : Int))), (21, (I (wrap64 (x2 + 1))))], [], [], []⟩ [l_ 58, b_ 0, c_ 15] aln nocal ?_
          exact ih0 a0 a1 (wrap64 (x2 + 1)) _ h
        · rw [if_neg c5] at h
          refine .cond' (.tmp 27) true [c_ 29900, c_ 29901, b_ 1, c_ 935, l_ 58, b_ 0, c_ 15] (bT (nT (vF c5))) ?_
          refine .reg' [4] [] ⟨[(4, (B false))], [], [], []⟩ [c_ 29901, b_ 1, c_ 935, l_ 58, b_ 0, c_ 15] aln nocal ?_
          have h := Option.some.inj h
          subst h
          exact .fin0 [] (B false) [] aln (.z .s)
      · rw [if_neg c4] at h
        cases h
    · rw [if_neg c3] at h
      refine .cond' (.tmp 22) false [c_ 30, c_ 31] (bF (dF c3)) ?_
      refine .reg' [0, 1, 7] [] ⟨[(0, (.sl true a0.length 1 (a0.flatMap encI))), (1, (.sl true a1.length 2 (a1.flatMap e44))), (7, (.pt 2560 0 9))], [(2560, ((List.replicate 9 (0 : Int)).flatMap encI))], [], []⟩ [c_ 124, c_ 125, c_ 63] aln nocal ?_
      refine .eqs (env2 := [(0, (.sl true a0.length 1 (a0.flatMap encI))), (1, (.sl true a1.length 2 (a1.flatMap e44))), (7, (.pt 2560 0 ((List.replicate 9 (0 : Int)).length * 1)))]) (H2 := [(2560, ((List.replicate 9 (0 : Int)).flatMap encI))]) (by first | (simp only [List.length_set]; done) | simp) (by first | rfl | (simp only [List.length_set]; done) | simp) ?_
      refine .reg' [0, 7, 29, 30, 31] [] ⟨[(0, (.sl true a0.length 1 (a0.flatMap encI))), (7, (.pt 2560 0 ((List.replicate 9 (0 : Int)).length * 1))), (29, (.sl true a1.length 2 (a1.flatMap e44))), (30, (I (a1.length : Int))), (31, (I 0))], [(2560, ((List.replicate 9 (0 : Int)).flatMap encI))], [], []⟩ [l_ 250, b_ 2, c_ 63] aln nocal ?_
      exact ih1 a0 a1 (List.replicate 9 (0 : Int)) 0 _ h
  · intro a0 a1 x4 x5 r h
    unfold impl_SinglesOk.l1 at h
    refine .loop' [c_ 1000, c_ 1001, l_ 250, b_ 2, c_ 63] ?_
    refine .reg' [0, 7, 29, 30, 31, 32] [] ⟨[(0, (.sl true a0.length 1 (a0.flatMap encI))), (7, (.pt 2560 0 (x4.length * 1))), (29, (.sl true a1.length 2 (a1.flatMap e44))), (30, (I (a1.length : Int))), (31, (I x5)), (32, (B (decide (x5 < (a1.length : Int)))))], [(2560, (x4.flatMap encI))], [], []⟩ [c_ 2002, c_ 2003, l_ 250, b_ 2, c_ 63] aln nocal ?_
    by_cases c6 : x5 < (a1.length : Int)
    · rw [if_pos c6] at h
      refine .cond' (.tmp 32) true [c_ 16024, c_ 16025, b_ 3, c_ 4007, l_ 250, b_ 2, c_ 63] (bT (dT c6)) ?_
      by_cases c7 : 0 ≤ x5
      · rw [if_pos c7] at h
        refine .reg' [0, 7, 9, 29, 30, 31] [.no, .v (.ag [(I (at_ a1 x5).f0), (I (at_ a1 x5).f1)])] ⟨[(0, (.sl true a0.length 1 (a0.flatMap encI))), (7, (.pt 2560 0 (x4.length * 1))), (9, (.pt 3330 0 2)), (29, (.sl true a1.length 2 (a1.flatMap e44))), (30, (I (a1.length : Int))), (31, (I x5))], [(2560, (x4.flatMap encI)), (3330, [(I (at_ a1 x5).f0), (I (at_ a1 x5).f1)])], [(0 : Int) ≤ x5 ∧ x5 < (a1.length : Int), rdC prog 45 ((a1.flatMap e44).drop (x5.toNat * 2)) = (.ag [(I (at_ a1 x5).f0), (I (at_ a1 x5).f1)]), 2 ≤ ((a1.flatMap e44).drop (x5.toNat * 2)).length, 2 = 2 ∧ 0 + 2 ≤ 2], []⟩ [c_ 64100, c_ 64101, c_ 32051, b_ 3, c_ 4007, l_ 250, b_ 2, c_ 63] (alc ⟨c7, c6⟩ (alc (ldA e44_ok rfl rfl c7 c6) (alc (okI e44_ok c7 c6 (by decide)) (alc ⟨rfl, by decide⟩ aln)))) nocal ?_
        obtain ⟨x6, hx6, h⟩ := Option.bind_eq_some_iff.mp h
        by_cases c8 : x6 = true
        · rw [if_pos c8] at h
          obtain ⟨x7, hx7, h⟩ := Option.bind_eq_some_iff.mp h
          by_cases c9 : x7 = true
          · rw [if_pos c9] at h
            refine .reg' [0, 7, 9, 29, 30, 31, 58] [.no, .no, .no, .no, .no, .no, .c ⟨42, [(I (at_ a1 x5).f0), (I 0), (I (wrap64 ((wrap64 (2 * (a0.length : Int))) - 2)))], [], (B x6), [], [], [], [], (B x6), []⟩, .no, .v (B false), .no, .no, .no, .no, .no, .no, .c ⟨42, [(I (at_ a1 x5).f1), (I 0), (I (wrap64 ((wrap64 (2 * (a0.length : Int))) - 2)))], [], (B x7), [], [], [], [], (B x7), []⟩, .no, .no, .v (B false)] ⟨[(0, (.sl true a0.length 1 (a0.flatMap encI))), (7, (.pt 2560 0 (x4.length * 1))), (9, (.pt 3330 0 2)), (29, (.sl true a1.length 2 (a1.flatMap e44))), (30, (I (a1.length : Int))), (31, (I x5)), (58, (B (!(((at_ a1 x5).f1.tmod (2 : Int)) == 0))))], [(2560, (x4.flatMap encI)), (3330, [(I (at_ a1 x5).f0), (I (at_ a1 x5).f1)])], [2 = 2 ∧ 0 + 1 ≤ 2, COK (hget [(2560, (x4.flatMap encI)), (3330, [(I (at_ a1 x5).f0), (I (at_ a1 x5).f1)])]) [(I (at_ a1 x5).f0), (I 0), (I (wrap64 ((wrap64 (2 * (a0.length : Int))) - 2)))] ⟨42, [(I (at_ a1 x5).f0), (I 0), (I (wrap64 ((wrap64 (2 * (a0.length : Int))) - 2)))], [], (B x6), [], [], [], [], (B x6), []⟩, (B (!x6) : V) = B false, 2 = 2 ∧ 1 + 1 ≤ 2, COK (hget [(2560, (x4.flatMap encI)), (3330, [(I (at_ a1 x5).f0), (I (at_ a1 x5).f1)])]) [(I (at_ a1 x5).f1), (I 0), (I (wrap64 ((wrap64 (2 * (a0.length : Int))) - 2)))] ⟨42, [(I (at_ a1 x5).f1), (I 0), (I (wrap64 ((wrap64 (2 * (a0.length : Int))) - 2)))], [], (B x7), [], [], [], [], (B x7), []⟩, (B (!x7) : V) = B false, 2 = 2 ∧ 1 + 1 ≤ 2, (2 : Int) ≠ 0], [⟨42, [(I (at_ a1 x5).f0), (I 0), (I (wrap64 ((wrap64 (2 * (a0.length : Int))) - 2)))], [], (B x6), [], [], [], [], (B x6), []⟩, ⟨42, [(I (at_ a1 x5).f1), (I 0), (I (wrap64 ((wrap64 (2 * (a0.length : Int))) - 2)))], [], (B x7), [], [], [], [], (B x7), []⟩]⟩ [c_ 64101, c_ 32051, b_ 3, c_ 4007, l_ 250, b_ 2, c_ 63] (alc ⟨rfl, by decide⟩ (alc (cok0 false (a2c (.z .s) (a2c (.z .s) (a2c (.z .s) a2n))) (.z .s) (fun h => absurd h (by decide))) (alc (bF (nF c8)) (alc ⟨rfl, by decide⟩ (alc (cok0 false (a2c (.z .s) (a2c (.z .s) (a2c (.z .s) a2n))) (.z .s) (fun h => absurd h (by decide))) (alc (bF (nF c9)) (alc ⟨rfl, by decide⟩ (alc (by decide) aln)))))))) (acal (impl_between.J ((at_ a1 x5).f0) 0 (wrap64 ((wrap64 (2 * (a0.length : Int))) - 2)) _ hx6) (acal (impl_between.J ((at_ a1 x5).f1) 0 (wrap64 ((wrap64 (2 * (a0.length : Int))) - 2)) _ hx7) nocal)) ?_
            by_cases c10 : ((at_ a1 x5).f1.tmod (2 : Int)) = 0
            · rw [if_pos c10] at h
              refine .cond' (.tmp 58) false [c_ 64102, c_ 64103, b_ 3, c_ 4007, l_ 250, b_ 2, c_ 63] (bF (nF (qT c10))) ?_
              by_cases c11 : 0 ≤ (at_ a1 x5).f0
              · rw [if_pos c11] at h
                by_cases c12 : (at_ a1 x5).f0 < 9
                · rw [if_pos c12] at h
                  by_cases c13 : (at_ a1 x5).f0 < (x4.length : Int)
                  · rw [if_pos c13] at h
                    refine .reg' [0, 7, 9, 29, 30, 31] [.no, .no, .no, .v (I (at_ x4 (at_ a1 x5).f0)), .no, .no, .w .un ((x4.set (at_ a1 x5).f0.toNat (wrap64 ((at_ x4 (at_ a1 x5).f0) + 1))).flatMap encI)] ⟨[(0, (.sl true a0.length 1 (a0.flatMap encI))), (7, (.pt 2560 0 (x4.length * 1))), (9, (.pt 3330 0 2)), (29, (.sl true a1.length 2 (a1.flatMap e44))), (30, (I (a1.length : Int))), (31, (I x5))], [(2560, ((x4.set (at_ a1 x5).f0.toNat (wrap64 ((at_ x4 (at_ a1 x5).f0) + 1))).flatMap encI)), (3330, [(I (at_ a1 x5).f0), (I (at_ a1 x5).f1)])], [2 = 2 ∧ 0 + 1 ≤ 2, (0 : Int) ≤ (at_ a1 x5).f0 ∧ (at_ a1 x5).f0 < 9, rdC prog 3 ((x4.flatMap encI).drop (0 + (at_ a1 x5).f0.toNat * 1)) = (I (at_ x4 (at_ a1 x5).f0)), x4.length * 1 = (x4.flatMap encI).length ∧ 0 + (at_ a1 x5).f0.toNat * 1 + 1 ≤ (x4.flatMap encI).length, (0 : Int) ≤ (at_ a1 x5).f0 ∧ (at_ a1 x5).f0 < 9, V.un = V.un, spl (x4.flatMap encI) (0 + (at_ a1 x5).f0.toNat * 1) [(I (wrap64 ((at_ x4 (at_ a1 x5).f0) + 1)))] = ((x4.set (at_ a1 x5).f0.toNat (wrap64 ((at_ x4 (at_ a1 x5).f0) + 1))).flatMap encI), x4.length * 1 = (x4.flatMap encI).length ∧ 0 + (at_ a1 x5).f0.toNat * 1 + 1 ≤ (x4.flatMap encI).length], []⟩ [c_ 128206, c_ 128207, b_ 3, c_ 4007, l_ 250, b_ 2, c_ 63] (alc ⟨rfl, by decide⟩ (alc ⟨c11, c12⟩ (alc (ldC01 encI_ok rfl c11 c13) (alc (okA0 encI_ok c11 c13 (by decide)) (alc ⟨c11, c12⟩ (alc rfl (alc (st_row1 encI_ok c11 c13 (I (wrap64 ((at_ x4 (at_ a1 x5).f0) + 1))) rfl) (alc (okA0 encI_ok c11 c13 (by decide)) aln)))))))) nocal ?_
                    refine .eqs (env2 := [(0, (.sl true a0.length 1 (a0.flatMap encI))), (7, (.pt 2560 0 ((x4.set (at_ a1 x5).f0.toNat (wrap64 ((at_ x4 (at_ a1 x5).f0) + 1))).length * 1))), (9, (.pt 3330 0 2)), (29, (.sl true a1.length 2 (a1.flatMap e44))), (30, (I (a1.length : Int))), (31, (I x5))]) (H2 := [(2560, ((x4.set (at_ a1 x5).f0.toNat (wrap64 ((at_ x4 (at_ a1 x5).f0) + 1))).flatMap encI)), (3330, [(I (at_ a1 x5).f0), (I (at_ a1 x5).f1)])]) (by first | (simp only [List.length_set]; done) | simp) (by first | rfl | (simp only [List.length_set]; done) | simp) ?_
                    obtain ⟨x8, hx8, h⟩ := Option.bind_eq_some_iff.mp h
                    refine .reg' [0, 7, 29, 30, 31, 73] [.no, .no, .no, .v (I (wrap64 ((at_ x4 (at_ a1 x5).f0) + 1))), .no, .no, .no, .c ⟨43, [(.sl true a0.length 1 (a0.flatMap encI)), (I (at_ a1 x5).f0)], [], (I x8), [], [], [], [], (I x8), []⟩] ⟨[(0, (.sl true a0.length 1 (a0.flatMap encI))), (7, (.pt 2560 0 ((x4.set (at_ a1 x5).f0.toNat (wrap64 ((at_ x4 (at_ a1 x5).f0) + 1))).length * 1))), (29, (.sl true a1.length 2 (a1.flatMap e44))), (30, (I (a1.length : Int))), (31, (I x5)), (73, (B (decide ((wrap64 ((at_ x4 (at_ a1 x5).f0) + 1)) > x8))))], [(2560, ((x4.set (at_ a1 x5).f0.toNat (wrap64 ((at_ x4 (at_ a1 x5).f0) + 1))).flatMap encI)), (3330, [(I (at_ a1 x5).f0), (I (at_ a1 x5).f1)])], [2 = 2 ∧ 0 + 1 ≤ 2, (0 : Int) ≤ (at_ a1 x5).f0 ∧ (at_ a1 x5).f0 < 9, rdC prog 3 (((x4.set (at_ a1 x5).f0.toNat (wrap64 ((at_ x4 (at_ a1 x5).f0) + 1))).flatMap encI).drop (0 + (at_ a1 x5).f0.toNat * 1)) = (I (wrap64 ((at_ x4 (at_ a1 x5).f0) + 1))), (x4.set (at_ a1 x5).f0.toNat (wrap64 ((at_ x4 (at_ a1 x5).f0) + 1))).length * 1 = ((x4.set (at_ a1 x5).f0.toNat (wrap64 ((at_ x4 (at_ a1 x5).f0) + 1))).flatMap encI).length ∧ 0 + (at_ a1 x5).f0.toNat * 1 + 1 ≤ ((x4.set (at_ a1 x5).f0.toNat (wrap64 ((at_ x4 (at_ a1 x5).f0) + 1))).flatMap encI).length, 2 = 2 ∧ 0 + 1 ≤ 2, COK (hget [(2560, ((x4.set (at_ a1 x5).f0.toNat (wrap64 ((at_ x4 (at_ a1 x5).f0) + 1))).flatMap encI)), (3330, [(I (at_ a1 x5).f0), (I (at_ a1 x5).f1)])]) [(.sl true a0.length 1 (a0.flatMap encI)), (I (at_ a1 x5).f0)] ⟨43, [(.sl true a0.length 1 (a0.flatMap encI)), (I (at_ a1 x5).f0)], [], (I x8), [], [], [], [], (I x8), []⟩], [⟨43, [(.sl true a0.length 1 (a0.flatMap encI)), (I (at_ a1 x5).f0)], [], (I x8), [], [], [], [], (I x8), []⟩]⟩ [c_ 128207, b_ 3, c_ 4007, l_ 250, b_ 2, c_ 63] (alc ⟨rfl, by decide⟩ (alc ⟨c11, c12⟩ (alc (ldC01s encI_ok rfl c11 c13) (alc (okA0 encI_ok c11 (ls c13) (by decide)) (alc ⟨rfl, by decide⟩ (alc (cok0 false (a2c (.z (frz_sl encI_ok (fun h => h))) (a2c (.z .s) a2n)) (.z .s) (fun h => absurd h (by decide))) aln)))))) (acal (impl_fits.J a0 ((at_ a1 x5).f0) _ hx8) nocal) ?_
                    by_cases c14 : (wrap64 ((at_ x4 (at_ a1 x5).f0) + 1)) > x8
                    · rw [if_pos c14] at h
                      refine .cond' (.tmp 73) true [c_ 512828, c_ 512829, b_ 3, c_ 4007, l_ 250, b_ 2, c_ 63] (bT (dT c14)) ?_
                      refine .reg' [4] [] ⟨[(4, (B false))], [(2560, ((x4.set (at_ a1 x5).f0.toNat (wrap64 ((at_ x4 (at_ a1 x5).f0) + 1))).flatMap encI)), (3330, [(I (at_ a1 x5).f0), (I (at_ a1 x5).f1)])], [], []⟩ [c_ 512829, b_ 3, c_ 4007, l_ 250, b_ 2, c_ 63] aln nocal ?_
                      have h := Option.some.inj h
                      subst h
                      exact .fin0 [] (B false) [] aln (.z .s)
                    · rw [if_neg c14] at h
                      refine .cond' (.tmp 73) false [c_ 4007, l_ 250, b_ 2, c_ 63] (bF (dF c14)) ?_
                      refine .reg' [0, 7, 29, 30, 31] [] ⟨[(0, (.sl true a0.length 1 (a0.flatMap encI))), (7, (.pt 2560 0 ((x4.set (at_ a1 x5).f0.toNat (wrap64 ((at_ x4 (at_ a1 x5).f0) + 1))).length * 1))), (29, (.sl true a1.length 2 (a1.flatMap e44))), (30, (I (a1.length : Int))), (31, (I (wrap64 (x5 + 1))))], [(2560, ((x4.set (at_ a1 x5).f0.toNat (wrap64 ((at_ x4 (at_ a1 x5).f0) + 1))).flatMap encI)), (3330, [(I (at_ a1 x5).f0), (I (at_ a1 x5).f1)])], [], []⟩ [l_ 250, b_ 2, c_ 63] aln nocal ?_
                      refine .wk' [] [(2560, 2560)] [(0, (.sl true a0.length 1 (a0.flatMap encI))), (7, (.pt 2560 0 ((x4.set (at_ a1 x5).f0.toNat (wrap64 ((at_ x4 (at_ a1 x5).f0) + 1))).length * 1))), (29, (.sl true a1.length 2 (a1.flatMap e44))), (30, (I (a1.length : Int))), (31, (I (wrap64 (x5 + 1))))] [(2560, ((x4.set (at_ a1 x5).f0.toNat (wrap64 ((at_ x4 (at_ a1 x5).f0) + 1))).flatMap encI))] (shc 2560 (rowF encI_ok _) shn) (enc_ (.z (frz_sl encI_ok (fun h => h))) (enc_ (.pt (memP_mem (p := (2560, 2560)) rfl)) (enc_ (.z (frz_sl e44_ok (fun h => h))) (enc_ (.z .s) (enc_ (.z .s) enn))))) ?_
                      exact ih1 a0 a1 (x4.set (at_ a1 x5).f0.toNat (wrap64 ((at_ x4 (at_ a1 x5).f0) + 1))) (wrap64 (x5 + 1)) _ h
                  · rw [if_neg c13] at h
                    cases h
                · rw [if_neg c12] at h
                  cases h
              · rw [if_neg c11] at h
                cases h
            · rw [if_neg c10] at h
              refine .cond' (.tmp 58) true [c_ 256404, c_ 256405, c_ 32051, b_ 3, c_ 4007, l_ 250, b_ 2, c_ 63] (bT (nT (qF c10))) ?_
              refine .reg' [4] [] ⟨[(4, (B false))], [(2560, (x4.flatMap encI)), (3330, [(I (at_ a1 x5).f0), (I (at_ a1 x5).f1)])], [], []⟩ [c_ 256405, c_ 32051, b_ 3, c_ 4007, l_ 250, b_ 2, c_ 63] aln nocal ?_
              have h := Option.some.inj h
              subst h
              exact .fin0 [] (B false) [] aln (.z .s)
          · rw [if_neg c9] at h
            refine .reg' [0, 7, 9, 29, 30, 31, 58] [.no, .no, .no, .no, .no, .no, .c ⟨42, [(I (at_ a1 x5).f0), (I 0), (I (wrap64 ((wrap64 (2 * (a0.length : Int))) - 2)))], [], (B x6), [], [], [], [], (B x6), []⟩, .no, .v (B false), .no, .no, .no, .no, .no, .no, .c ⟨42, [(I (at_ a1 x5).f1), (I 0), (I (wrap64 ((wrap64 (2 * (a0.length : Int))) - 2)))], [], (B x7), [], [], [], [], (B x7), []⟩, .no, .no, .v (B true)] ⟨[(0, (.sl true a0.length 1 (a0.flatMap encI))), (7, (.pt 2560 0 (x4.length * 1))), (9, (.pt 3330 0 2)), (29, (.sl true a1.length 2 (a1.flatMap e44))), (30, (I (a1.length : Int))), (31, (I x5)), (58, (B true))], [(2560, (x4.flatMap encI)), (3330, [(I (at_ a1 x5).f0), (I (at_ a1 x5).f1)])], [2 = 2 ∧ 0 + 1 ≤ 2, COK (hget [(2560, (x4.flatMap encI)), (3330, [(I (at_ a1 x5).f0), (I (at_ a1 x5).f1)])]) [(I (at_ a1 x5).f0), (I 0), (I (wrap64 ((wrap64 (2 * (a0.length : Int))) - 2)))] ⟨42, [(I (at_ a1 x5).f0), (I 0), (I (wrap64 ((wrap64 (2 * (a0.length : Int))) - 2)))], [], (B x6), [], [], [], [], (B x6), []⟩, (B (!x6) : V) = B false, 2 = 2 ∧ 1 + 1 ≤ 2, COK (hget [(2560, (x4.flatMap encI)), (3330, [(I (at_ a1 x5).f0), (I (at_ a1 x5).f1)])]) [(I (at_ a1 x5).f1), (I 0), (I (wrap64 ((wrap64 (2 * (a0.length : Int))) - 2)))] ⟨42, [(I (at_ a1 x5).f1), (I 0), (I (wrap64 ((wrap64 (2 * (a0.length : Int))) - 2)))], [], (B x7), [], [], [], [], (B x7), []⟩, (B (!x7) : V) = B true], [⟨42, [(I (at_ a1 x5).f0), (I 0), (I (wrap64 ((wrap64 (2 * (a0.length : Int))) - 2)))], [], (B x6), [], [], [], [], (B x6), []⟩, ⟨42, [(I (at_ a1 x5).f1), (I 0), (I (wrap64 ((wrap64 (2 * (a0.length : Int))) - 2)))], [], (B x7), [], [], [], [], (B x7), []⟩]⟩ [c_ 64101, c_ 32051, b_ 3, c_ 4007, l_ 250, b_ 2, c_ 63] (alc ⟨rfl, by decide⟩ (alc (cok0 false (a2c (.z .s) (a2c (.z .s) (a2c (.z .s) a2n))) (.z .s) (fun h => absurd h (by decide))) (alc (bF (nF c8)) (alc ⟨rfl, by decide⟩ (alc (cok0 false (a2c (.z .s) (a2c (.z .s) (a2c (.z .s) a2n))) (.z .s) (fun h => absurd h (by decide))) (alc (bT (nT (vF c9))) aln)))))) (acal (impl_between.J ((at_ a1 x5).f0) 0 (wrap64 ((wrap64 (2 * (a0.length : Int))) - 2)) _ hx6) (acal (impl_between.J ((at_ a1 x5).f1) 0 (wrap64 ((wrap64 (2 * (a0.length : Int))) - 2)) _ hx7) nocal)) ?_
            refine .cond' (.tmp 58) true [c_ 256404, c_ 256405, c_ 32051, b_ 3, c_ 4007, l_ 250, b_ 2, c_ 63] (rfl) ?_
            refine .reg' [4] [] ⟨[(4, (B false))], [(2560, (x4.flatMap encI)), (3330, [(I (at_ a1 x5).f0), (I (at_ a1 x5).f1)])], [], []⟩ [c_ 256405, c_ 32051, b_ 3, c_ 4007, l_ 250, b_ 2, c_ 63] aln nocal ?_
            have h := Option.some.inj h
            subst h
            exact .fin0 [] (B false) [] aln (.z .s)
        · rw [if_neg c8] at h
          refine .reg' [0, 7, 9, 29, 30, 31, 58] [.no, .no, .no, .no, .no, .no, .c ⟨42, [(I (at_ a1 x5).f0), (I 0), (I (wrap64 ((wrap64 (2 * (a0.length : Int))) - 2)))], [], (B x6), [], [], [], [], (B x6), []⟩, .no, .v (B true)] ⟨[(0, (.sl true a0.length 1 (a0.flatMap encI))), (7, (.pt 2560 0 (x4.length * 1))), (9, (.pt 3330 0 2)), (29, (.sl true a1.length 2 (a1.flatMap e44))), (30, (I (a1.length : Int))), (31, (I x5)), (58, (B true))], [(2560, (x4.flatMap encI)), (3330, [(I (at_ a1 x5).f0), (I (at_ a1 x5).f1)])], [2 = 2 ∧ 0 + 1 ≤ 2, COK (hget [(2560, (x4.flatMap encI)), (3330, [(I (at_ a1 x5).f0), (I (at_ a1 x5).f1)])]) [(I (at_ a1 x5).f0), (I 0), (I (wrap64 ((wrap64 (2 * (a0.length : Int))) - 2)))] ⟨42, [(I (at_ a1 x5).f0), (I 0), (I (wrap64 ((wrap64 (2 * (a0.length : Int))) - 2)))], [], (B x6), [], [], [], [], (B x6), []⟩, (B (!x6) : V) = B true], [⟨42, [(I (at_ a1 x5).f0), (I 0), (I (wrap64 ((wrap64 (2 * (a0.length : Int))) - 2)))], [], (B x6), [], [], [], [], (B x6), []⟩]⟩ [c_ 64101, c_ 32051, b_ 3, c_ 4007, l_ 250, b_ 2, c_ 63] (alc ⟨rfl, by decide⟩ (alc (cok0 false (a2c (.z .s) (a2c (.z .s) (a2c (.z .s) a2n))) (.z .s) (fun h => absurd h (by decide))) (alc (bT (nT (vF c8))) aln))) (acal (impl_between.J ((at_ a1 x5).f0) 0 (wrap64 ((wrap64 (2 * (a0.length : Int))) - 2)) _ hx6) nocal) ?_
          refine .cond' (.tmp 58) true [c_ 256404, c_ 256405, c_ 32051, b_ 3, c_ 4007, l_ 250, b_ 2, c_ 63] (rfl) ?_
          refine .reg' [4] [] ⟨[(4, (B false))], [(2560, (x4.flatMap encI)), (3330, [(I (at_ a1 x5).f0), (I (at_ a1 x5).f1)])], [], []⟩ [c_ 256405, c_ 32051, b_ 3, c_ 4007, l_ 250, b_ 2, c_ 63] aln nocal ?_
          have h := Option.some.inj h
          subst h
          exact .fin0 [] (B false) [] aln (.z .s)
      · rw [if_neg c7] at h
        cases h
    · rw [if_neg c6] at h
      refine .cond' (.tmp 32) false [c_ 126, c_ 127] (bF (dF c6)) ?_
      refine .reg' [4] [] ⟨[(4, (B true))], [(2560, (x4.flatMap encI))], [], []⟩ [c_ 127] aln nocal ?_
      have h := Option.some.inj h
      subst h
      exact .fin0 [] (B true) [] aln (.z .s)
theorem impl_SinglesOk.J (k : Nat) (a0 : (List Int)) (a1 : (List S44)) (r : Bool) (h : impl_SinglesOk.f k a0 a1 = some r) : J prog (.call 16 [(.sl true a0.length 1 (a0.flatMap encI)), (.sl true a1.length 2 (a1.flatMap e44))] [] (B r) []) := by
  unfold impl_SinglesOk.f at h
  obtain ⟨ih0, ih1⟩ := impl_SinglesOk.lab k
  refine .call' [c_ 2, c_ 3] ?_
  refine .reg' [0, 1] [] ⟨[(0, (.sl true a0.length 1 (a0.flatMap encI))), (1, (.sl true a1.length 2 (a1.flatMap e44)))], [], [], []⟩ [c_ 12, c_ 13, c_ 7] aln nocal ?_
  obtain ⟨x1, hx1, h⟩ := Option.bind_eq_some_iff.mp h
  by_cases c1 : x1 = true
  · rw [if_pos c1] at h
    refine .reg' [0, 1, 18] [.no, .no, .c ⟨42, [(I (a0.length : Int)), (I 2), (I 5)], [], (B x1), [], [], [], [], (B x1), []⟩, .no, .v (B false)] ⟨[(0, (.sl true a0.length 1 (a0.flatMap encI))), (1, (.sl true a1.length 2 (a1.flatMap e44))), (18, (B (decide ((a1.length : Int) > 4))))], [], [COK (hget []) [(I (a0.length : Int)), (I 2), (I 5)] ⟨42, [(I (a0.length : Int)), (I 2), (I 5)], [], (B x1), [], [], [], [], (B x1), []⟩, (B (!x1) : V) = B false], [⟨42, [(I (a0.length : Int)), (I 2), (I 5)], [], (B x1), [], [], [], [], (B x1), []⟩]⟩ [c_ 13, c_ 7] (alc (cok0 false (a2c (.z .s) (a2c (.z .s) (a2c (.z .s) a2n))) (.z .s) (fun h => absurd h (by decide))) (alc (bF (nF c1)) aln)) (acal (impl_between.J (a0.length : Int) 2 5 _ hx1) nocal) ?_
    by_cases c2 : (a1.length : Int) > 4
    · rw [if_pos c2] at h
      refine .cond' (.tmp 18) true [c_ 52, c_ 53, c_ 7] (bT (dT c2)) ?_
      refine .reg' [4] [] ⟨[(4, (B false))], [], [], []⟩ [c_ 53, c_ 7] aln nocal ?_
      have h := Option.some.inj h
      subst h
      exact .fin0 [] (B false) [] aln (.z .s)
    · rw [if_neg c2] at h
      refine .cond' (.tmp 18) false [c_ 28, c_ 29, c_ 15] (bF (dF c2)) ?_
      refine .reg' [0, 1, 19, 20, 21] [] ⟨[(0, (.sl true a0.length 1 (a0.flatMap encI))), (1, (.sl true a1.length 2 (a1.flatMap e44))), (19, (.sl true a0.length 1 (a0.flatMap encI))), (20, (I (a0.length : Int))), (21, (I 0))], [], [], []⟩ [l_ 58, b_ 0, c_ 15] aln nocal ?_
      exact ih0 a0 a1 0 _ h
  · rw [if_neg c1] at h
    refine .reg' [0, 1, 18] [.no, .no, .c ⟨42, [(I (a0.length : Int)), (I 2), (I 5)], [], (B x1), [], [], [], [], (B x1), []⟩, .no, .v (B true)] ⟨[(0, (.sl true a0.length 1 (a0.flatMap encI))), (1, (.sl true a1.length 2 (a1.flatMap e44))), (18, (B true))], [], [COK (hget []) [(I (a0.length : Int)), (I 2), (I 5)] ⟨42, [(I (a0.length : Int)), (I 2), (I 5)], [], (B x1), [], [], [], [], (B x1), []⟩, (B (!x1) : V) = B true], [⟨42, [(I (a0.length : Int)), (I 2), (I 5)], [], (B x1), [], [], [], [], (B x1), []⟩]⟩ [c_ 13, c_ 7] (alc (cok0 false (a2c (.z .s) (a2c (.z .s) (a2c (.z .s) a2n))) (.z .s) (fun h => absurd h (by decide))) (alc (bT (nT (vF c1))) aln)) (acal (impl_between.J (a0.length : Int) 2 5 _ hx1) nocal) ?_
    refine .cond' (.tmp 18) true [c_ 52, c_ 53, c_ 7] (rfl) ?_
    refine .reg' [4] [] ⟨[(4, (B false))], [], [], []⟩ [c_ 53, c_ 7] aln nocal ?_
    have h := Option.some.inj h
    subst h
    exact .fin0 [] (B false) [] aln (.z .s)
/-! impl_newSearch: function 51 -/
def impl_newSearch.f (a0 : (List Int)) : Option S65 := (some (⟨a0, ([] : List (List Int))⟩ : S65))
theorem impl_newSearch.J (a0 : (List Int)) (r : S65) (h : impl_newSearch.f a0 = some r) : J prog (.call 51 [(.sl true a0.length 1 (a0.flatMap encI))] [] (.pt 515 0 2) [(515, [(.sl true r.f0.length 1 (r.f0.flatMap encI)), (.pt 2000000515 0 1)]), (2000000515, (mrow r.f1))]) := by
  unfold impl_newSearch.f at h
  refine .call' [c_ 2, c_ 3] ?_
  refine .reg' [0] [] ⟨[(0, (.sl true a0.length 1 (a0.flatMap encI)))], [], [], []⟩ [c_ 6, c_ 7] aln nocal ?_
  refine .reg' [2] [.no, .w (.pt 2000000513 0 1) (mrow ([] : List (List Int)))] ⟨[(2, (.pt 515 0 2))], [(2000000513, (mrow ([] : List (List Int)))), (515, [(.sl true a0.length 1 (a0.flatMap encI)), (.pt 2000000513 0 1)])], [(V.pt 2000000513 0 1) = (.pt 2000000513 0 1), [V.fn (.func 0) [] []] = mrow ([] : List (List Int))], []⟩ [c_ 7] (alc rfl (alc rfl aln)) nocal ?_
  have h := Option.some.inj h
  subst h
  exact .fin' [] [(515, 515), (2000000513, 2000000515)] (.pt 515 0 2) [] aln (shc 515 (a2c (.z (frz_sl encI_ok (fun h => h))) (a2c (.pt (memP_mem (p := (2000000513, 2000000515)) rfl)) a2n)) (shc 2000000513 (mrowC _) shn)) (.pt (memP_mem (p := (515, 515)) rfl))
/-! impl_home: function 48 -/
def impl_home.l0 : Nat → (List S44) → Int → Option Bool
 | 0, _, _ => none
 | k + 1, a0, x1 => (if x1 < (a0.length : Int) then (if 0 ≤ x1 then (if (at_ a0 x1).f0 = (at_ a0 x1).f1 then (impl_home.l0 k a0 (wrap64 (x1 + 1))) else (some false)) else none) else (some true))
def impl_home.f (k : Nat) (a0 : (List S44)) : Option Bool := (impl_home.l0 k a0 0)
theorem impl_home.lab : ∀ k, (∀ (a0 : (List S44)) (x1 : Int) (r : Bool), impl_home.l0 k a0 x1 = some r → J prog (.run 48 [] [l_ 26, b_ 0, c_ 7] [(5, (.sl true a0.length 2 (a0.flatMap e44))), (6, (I (a0.length : Int))), (7, (I x1))] [] (B r) []))
 | 0 => (by intro a0 x1 r h; unfold impl_home.l0 at h; cases h)
 | k + 1 => by
  have ih0 := impl_home.lab k
  · intro a0 x1 r h
    unfold impl_home.l0 at h
    refine .loop' [c_ 104, c_ 105, l_ 26, b_ 0, c_ 7] ?_
    refine .reg' [5, 6, 7, 8] [] ⟨[(5, (.sl true a0.length 2 (a0.flatMap e44))), (6, (I (a0.length : Int))), (7, (I x1)), (8, (B (decide (x1 < (a0.length : Int)))))], [], [], []⟩ [c_ 210, c_ 211, l_ 26, b_ 0, c_ 7] aln nocal ?_
    by_cases c1 : x1 < (a0.length : Int)
    · rw [if_pos c1] at h
      refine .cond' (.tmp 8) true [c_ 1688, c_ 1689, b_ 1, c_ 423, l_ 26, b_ 0, c_ 7] (bT (dT c1)) ?_
      by_cases c2 : 0 ≤ x1
      · rw [if_pos c2] at h
        refine .reg' [4, 5, 6, 7] [.no, .v (.ag [(I (at_ a0 x1).f0), (I (at_ a0 x1).f1)])] ⟨[(4, (.pt 1026 0 2)), (5, (.sl true a0.length 2 (a0.flatMap e44))), (6, (I (a0.length : Int))), (7, (I x1))], [(1026, [(I (at_ a0 x1).f0), (I (at_ a0 x1).f1)])], [(0 : Int) ≤ x1 ∧ x1 < (a0.length : Int), rdC prog 45 ((a0.flatMap e44).drop (x1.toNat * 2)) = (.ag [(I (at_ a0 x1).f0), (I (at_ a0 x1).f1)]), 2 ≤ ((a0.flatMap e44).drop (x1.toNat * 2)).length, 2 = 2 ∧ 0 + 2 ≤ 2], []⟩ [c_ 3378, c_ 3379, b_ 1, c_ 423, l_ 26, b_ 0, c_ 7] (alc ⟨c2, c1⟩ (alc (ldA e44_ok rfl rfl c2 c1) (alc (okI e44_ok c2 c1 (by decide)) (alc ⟨rfl, by decide⟩ aln)))) nocal ?_
        refine .reg' [5, 6, 7, 15] [] ⟨[(5, (.sl true a0.length 2 (a0.flatMap e44))), (6, (I (a0.length : Int))), (7, (I x1)), (15, (B (!((at_ a0 x1).f0 == (at_ a0 x1).f1))))], [(1026, [(I (at_ a0 x1).f0), (I (at_ a0 x1).f1)])], [2 = 2 ∧ 0 + 1 ≤ 2, 2 = 2 ∧ 1 + 1 ≤ 2], []⟩ [c_ 3379, b_ 1, c_ 423, l_ 26, b_ 0, c_ 7] (alc ⟨rfl, by decide⟩ (alc ⟨rfl, by decide⟩ aln)) nocal ?_
        by_cases c3 : (at_ a0 x1).f0 = (at_ a0 x1).f1
        · rw [if_pos c3] at h
          refine .cond' (.tmp 15) false [c_ 423, l_ 26, b_ 0, c_ 7] (bF (nF (qT c3))) ?_
          refine .reg' [5, 6, 7] [] ⟨[(5, (.sl true a0.length 2 (a0.flatMap e44))), (6, (I (a0.length : Int))), (7, (I (wrap64 (x1 + 1))))], [(1026, [(I (at_ a0 x1).f0), (I (at_ a0 x1).f1)])], [], []⟩ [l_ 26, b_ 0, c_ 7] aln nocal ?_
          refine .wk' [] [] [(5, (.sl true a0.length 2 (a0.flatMap e44))), (6, (I (a0.length : Int))), (7, (I (wrap64 (x1 + 1))))] [] shn (enc_ (.z (frz_sl e44_ok (fun h => h))) (enc_ (.z .s) (enc_ (.z .s) enn))) ?_
          exact ih0 a0 (wrap64 (x1 + 1)) _ h
        · rw [if_neg c3] at h
          refine .cond' (.tmp 15) true [c_ 13516, c_ 13517, b_ 1, c_ 423, l_ 26, b_ 0, c_ 7] (bT (nT (qF c3))) ?_
          refine .reg' [2] [] ⟨[(2, (B false))], [(1026, [(I (at_ a0 x1).f0), (I (at_ a0 x1).f1)])], [], []⟩ [c_ 13517, b_ 1, c_ 423, l_ 26, b_ 0, c_ 7] aln nocal ?_
          have h := Option.some.inj h
          subst h
          exact .fin0 [] (B false) [] aln (.z .s)
      · rw [if_neg c2] at h
        cases h
    · rw [if_neg c1] at h
      refine .cond' (.tmp 8) false [c_ 14, c_ 15] (bF (dF c1)) ?_
      refine .reg' [2] [] ⟨[(2, (B true))], [], [], []⟩ [c_ 15] aln nocal ?_
      have h := Option.some.inj h
      subst h
      exact .fin0 [] (B true) [] aln (.z .s)
theorem impl_home.J (k : Nat) (a0 : (List S44)) (r : Bool) (h : impl_home.f k a0 = some r) : J prog (.call 48 [(.sl true a0.length 2 (a0.flatMap e44))] [] (B r) []) := by
  unfold impl_home.f at h
  have ih0 := impl_home.lab k
  refine .call' [c_ 2, c_ 3] ?_
  refine .reg' [0] [] ⟨[(0, (.sl true a0.length 2 (a0.flatMap e44)))], [], [], []⟩ [c_ 12, c_ 13, c_ 7] aln nocal ?_
  refine .reg' [5, 6, 7] [] ⟨[(5, (.sl true a0.length 2 (a0.flatMap e44))), (6, (I (a0.length : Int))), (7, (I 0))], [], [], []⟩ [l_ 26, b_ 0, c_ 7] aln nocal ?_
  exact ih0 a0 0 _ h
/-! impl_nextSpot: function 57 -/
def impl_nextSpot.f (a0 : S44) : Option Int := (if a0.f0 < a0.f1 then (some (wrap64 (a0.f0 + 1))) else (some (wrap64 (a0.f0 - 1))))
theorem impl_nextSpot.J (a0 : S44) (r : Int) (h : impl_nextSpot.f a0 = some r) : J prog (.call 57 [(.ag [(I a0.f0), (I a0.f1)])] [] (I r) []) := by
  unfold impl_nextSpot.f at h
  refine .call' [c_ 2, c_ 3] ?_
  refine .reg' [1] [] ⟨[(1, (.pt 256 0 2))], [(256, [(I a0.f0), (I a0.f1)])], [], []⟩ [c_ 12, c_ 13, c_ 7] aln nocal ?_
  refine .reg' [1, 7] [] ⟨[(1, (.pt 256 0 2)), (7, (B (decide (a0.f0 < a0.f1))))], [(256, [(I a0.f0), (I a0.f1)])], [2 = 2 ∧ 0 + 1 ≤ 2, 2 = 2 ∧ 1 + 1 ≤ 2], []⟩ [c_ 13, c_ 7] (alc ⟨rfl, by decide⟩ (alc ⟨rfl, by decide⟩ aln)) nocal ?_
  by_cases c1 : a0.f0 < a0.f1
  · rw [if_pos c1] at h
    refine .cond' (.tmp 7) true [c_ 52, c_ 53, c_ 7] (bT (dT c1)) ?_
    refine .reg' [2] [] ⟨[(2, (I (wrap64 (a0.f0 + 1))))], [(256, [(I a0.f0), (I a0.f1)])], [2 = 2 ∧ 0 + 1 ≤ 2], []⟩ [c_ 53, c_ 7] (alc ⟨rfl, by decide⟩ aln) nocal ?_
    have h := Option.some.inj h
    subst h
    exact .fin0 [] (I (wrap64 (a0.f0 + 1))) [] aln (.z .s)
  · rw [if_neg c1] at h
    refine .cond' (.tmp 7) false [c_ 14, c_ 15] (bF (dF c1)) ?_
    refine .reg' [2] [] ⟨[(2, (I (wrap64 (a0.f0 - 1))))], [(256, [(I a0.f0), (I a0.f1)])], [2 = 2 ∧ 0 + 1 ≤ 2], []⟩ [c_ 15] (alc ⟨rfl, by decide⟩ aln) nocal ?_
    have h := Option.some.inj h
    subst h
    exact .fin0 [] (I (wrap64 (a0.f0 - 1))) [] aln (.z .s)
/-! impl_mayMove: function 46 -/
def impl_mayMove.l0 : Nat → (List Int) → (List S44) → Int → Int → Int → Option Bool
 | 0, _, _, _, _, _ => none
 | k + 1, a0, a1, x1, x2, x3 => (if x3 < (a1.length : Int) then (if 0 ≤ x3 then (if (at_ a1 x3).f0 = x1 then (impl_mayMove.l0 k a0 a1 x1 (wrap64 (x2 + 1)) (wrap64 (x3 + 1))) else (impl_mayMove.l0 k a0 a1 x1 x2 (wrap64 (x3 + 1)))) else none) else ((impl_fits.f a0 x1).bind fun x4 => (some (decide (x2 < x4)))))
def impl_mayMove.f (k : Nat) (a0 : (List Int)) (a1 : (List S44)) (a2 : Int) : Option Bool := (if 0 ≤ a2 then (if a2 < (a1.length : Int) then (if (at_ a1 a2).f0 = (at_ a1 a2).f1 then (some false) else ((impl_nextSpot.f (at_ a1 a2)).bind fun x1 => (impl_mayMove.l0 k a0 a1 x1 0 0))) else none) else none)
theorem impl_mayMove.lab : ∀ k, (∀ (a0 : (List Int)) (a1 : (List S44)) (x1 : Int) (x2 : Int) (x3 : Int) (r : Bool), impl_mayMove.l0 k a0 a1 x1 x2 x3 = some r → J prog (.run 46 [] [l_ 122, b_ 0, c_ 31] [(0, (.sl true a0.length 1 (a0.flatMap encI))), (7, (I x1)), (8, (I x2)), (27, (.sl true a1.length 2 (a1.flatMap e44))), (28, (I (a1.length : Int))), (29, (I x3))] [] (B r) []))
 | 0 => (by intro a0 a1 x1 x2 x3 r h; unfold impl_mayMove.l0 at h; cases h)
 | k + 1 => by
  have ih0 := impl_mayMove.lab k
  · intro a0 a1 x1 x2 x3 r h
    unfold impl_mayMove.l0 at h
    refine .loop' [c_ 488, c_ 489, l_ 122, b_ 0, c_ 31] ?_
    refine .reg' [0, 7, 8, 27, 28, 29, 30] [] ⟨[(0, (.sl true a0.length 1 (a0.flatMap encI))), (7, (I x1)), (8, (I x2)), (27, (.sl true a1.length 2 (a1.flatMap e44))), (28, (I (a1.length : Int))), (29, (I x3)), (30, (B (decide (x3 < (a1.length : Int)))))], [], [], []⟩ [c_ 978, c_ 979, l_ 122, b_ 0, c_ 31] aln nocal ?_
    by_cases c4 : x3 < (a1.length : Int)
    · rw [if_pos c4] at h
      refine .cond' (.tmp 30) true [c_ 7832, c_ 7833, b_ 1, c_ 1959, l_ 122, b_ 0, c_ 31] (bT (dT c4)) ?_
      by_cases c5 : 0 ≤ x3
      · rw [if_pos c5] at h
        refine .reg' [0, 7, 8, 10, 27, 28, 29] [.no, .v (.ag [(I (at_ a1 x3).f0), (I (at_ a1 x3).f1)])] ⟨[(0, (.sl true a0.length 1 (a0.flatMap encI))), (7, (I x1)), (8, (I x2)), (10, (.pt 1794 0 2)), (27, (.sl true a1.length 2 (a1.flatMap e44))), (28, (I (a1.length : Int))), (29, (I x3))], [(1794, [(I (at_ a1 x3).f0), (I (at_ a1 x3).f1)])], [(0 : Int) ≤ x3 ∧ x3 < (a1.length : Int), rdC prog 45 ((a1.flatMap e44).drop (x3.toNat * 2)) = (.ag [(I (at_ a1 x3).f0), (I (at_ a1 x3).f1)]), 2 ≤ ((a1.flatMap e44).drop (x3.toNat * 2)).length, 2 = 2 ∧ 0 + 2 ≤ 2], []⟩ [c_ 15666, c_ 15667, b_ 1, c_ 1959, l_ 122, b_ 0, c_ 31] (alc ⟨c5, c4⟩ (alc (ldA e44_ok rfl rfl c5 c4) (alc (okI e44_ok c5 c4 (by decide)) (alc ⟨rfl, by decide⟩ aln)))) nocal ?_
        refine .reg' [0, 7, 8, 27, 28, 29, 36] [] ⟨[(0, (.sl true a0.length 1 (a0.flatMap encI))), (7, (I x1)), (8, (I x2)), (27, (.sl true a1.length 2 (a1.flatMap e44))), (28, (I (a1.length : Int))), (29, (I x3)), (36, (B ((at_ a1 x3).f0 == x1)))], [(1794, [(I (at_ a1 x3).f0), (I (at_ a1 x3).f1)])], [2 = 2 ∧ 0 + 1 ≤ 2], []⟩ [c_ 15667, b_ 1, c_ 1959, l_ 122, b_ 0, c_ 31] (alc ⟨rfl, by decide⟩ aln) nocal ?_
        by_cases c6 : (at_ a1 x3).f0 = x1
        · rw [if_pos c6] at h
          refine .cond' (.tmp 36) true [c_ 31334, b_ 1, c_ 1959, l_ 122, b_ 0, c_ 31] (bT (qT c6)) ?_
          refine .reg' [0, 7, 8, 27, 28, 29] [] ⟨[(0, (.sl true a0.length 1 (a0.flatMap encI))), (7, (I x1)), (8, (I (wrap64 (x2 + 1)))), (27, (.sl true a1.length 2 (a1.flatMap e44))), (28, (I (a1.length : Int))), (29, (I x3))], [(1794, [(I (at_ a1 x3).f0), (I (at_ a1 x3).f1)])], [], []⟩ [c_ 1959, l_ 122, b_ 0, c_ 31] aln nocal ?_
          refine .reg' [0, 7, 8, 27, 28, 29] [] ⟨[(0, (.sl true a0.length 1 (a0.flatMap encI))), (7, (I x1)), (8, (I (wrap64 (x2 + 1)))), (27, (.sl true a1.length 2 (a1.flatMap e44))), (28, (I (a1.length : Int))), (29, (I (wrap64 (x3 + 1))))], [(1794, [(I (at_ a1 x3).f0), (I (at_ a1 x3).f1)])], [], []⟩ [l_ 122, b_ 0, c_ 31] aln nocal ?_
          refine .wk' [] [] [(0, (.sl true a0.length 1 (a0.flatMap encI))), (7, (I x1)), (8, (I (wrap64 (x2 + 1)))), (27, (.sl true a1.length 2 (a1.flatMap e44))), (28, (I (a1.length : Int))), (29, (I (wrap64 (x3 + 1))))] [] shn (enc_ (.z (frz_sl encI_ok (fun h => h))) (enc_ (.z .s) (enc_ (.z .s) (enc_ (.z (frz_sl e44_ok (fun h => h))) (enc_ (.z .s) (enc_ (.z .s) enn)))))) ?_
          exact ih0 a0 a1 x1 (wrap64 (x2 + 1)) (wrap64 (x3 + 1)) _ h
        · rw [if_neg c6] at h
          refine .cond' (.tmp 36) false [c_ 1959, l_ 122, b_ 0, c_ 31] (bF (qF c6)) ?_
          refine .reg' [0, 7, 8, 27, 28, 29] [] ⟨[(0, (.sl true a0.length 1 (a0.flatMap encI))), (7, (I x1)), (8, (I x2)), (27, (.sl true a1.length 2 (a1.flatMap e44))), (28, (I (a1.length : Int))), (29, (I (wrap64 (x3 + 1))))], [(1794, [(I (at_ a1 x3).f0), (I (at_ a1 x3).f1)])], [], []⟩ [l_ 122, b_ 0, c_ 31] aln nocal ?_
          refine .wk' [] [] [(0, (.sl true a0.length 1 (a0.flatMap encI))), (7, (I x1)), (8, (I x2)), (27, (.sl true a1.length 2 (a1.flatMap e44))), (28, (I (a1.length : Int))), (29, (I (wrap64 (x3 + 1))))] [] shn (enc_ (.z (frz_sl encI_ok (fun h => h))) (enc_ (.z .s) (enc_ (.z .s) (enc_ (.z (frz_sl e44_ok (fun h => h))) (enc_ (.z .s) (enc_ (.z .s) enn)))))) ?_
          exact ih0 a0 a1 x1 x2 (wrap64 (x3 + 1)) _ h
      · rw [if_neg c5] at h
        cases h
    · rw [if_neg c4] at h
      refine .cond' (.tmp 30) false [c_ 62, c_ 63] (bF (dF c4)) ?_
      obtain ⟨x4, hx4, h⟩ := Option.bind_eq_some_iff.mp h
      refine .reg' [6] [.no, .no, .no, .c ⟨43, [(.sl true a0.length 1 (a0.flatMap encI)), (I x1)], [], (I x4), [], [], [], [], (I x4), []⟩] ⟨[(6, (B (decide (x2 < x4))))], [], [COK (hget []) [(.sl true a0.length 1 (a0.flatMap encI)), (I x1)] ⟨43, [(.sl true a0.length 1 (a0.flatMap encI)), (I x1)], [], (I x4), [], [], [], [], (I x4), []⟩], [⟨43, [(.sl true a0.length 1 (a0.flatMap encI)), (I x1)], [], (I x4), [], [], [], [], (I x4), []⟩]⟩ [c_ 63] (alc (cok0 false (a2c (.z (frz_sl encI_ok (fun h => h))) (a2c (.z .s) a2n)) (.z .s) (fun h => absurd h (by decide))) aln) (acal (impl_fits.J a0 x1 _ hx4) nocal) ?_
      have h := Option.some.inj h
      subst h
      exact .fin0 [] (B (decide (x2 < x4))) [] aln (.z .s)
theorem impl_mayMove.J (k : Nat) (a0 : (List Int)) (a1 : (List S44)) (a2 : Int) (r : Bool) (h : impl_mayMove.f k a0 a1 a2 = some r) : J prog (.call 46 [(.sl true a0.length 1 (a0.flatMap encI)), (.sl true a1.length 2 (a1.flatMap e44)), (I a2)] [] (B r) []) := by
  unfold impl_mayMove.f at h
  have ih0 := impl_mayMove.lab k
  refine .call' [c_ 2, c_ 3] ?_
  refine .reg' [0, 1, 2] [] ⟨[(0, (.sl true a0.length 1 (a0.flatMap encI))), (1, (.sl true a1.length 2 (a1.flatMap e44))), (2, (I a2))], [], [], []⟩ [c_ 12, c_ 13, c_ 7] aln nocal ?_
  by_cases c1 : 0 ≤ a2
  · rw [if_pos c1] at h
    by_cases c2 : a2 < (a1.length : Int)
    · rw [if_pos c2] at h
      refine .reg' [0, 1, 2, 21] [.no, .no, .no, .no, .v (I (at_ a1 a2).f0), .no, .no, .no, .no, .v (I (at_ a1 a2).f1)] ⟨[(0, (.sl true a0.length 1 (a0.flatMap encI))), (1, (.sl true a1.length 2 (a1.flatMap e44))), (2, (I a2)), (21, (B ((at_ a1 a2).f0 == (at_ a1 a2).f1)))], [], [(0 : Int) ≤ a2 ∧ a2 < (a1.length : Int), rdC prog 3 (((a1.flatMap e44).drop (a2.toNat * 2)).drop 0) = (I (at_ a1 a2).f0), 1 ≤ (((a1.flatMap e44).drop (a2.toNat * 2)).drop 0).length, (0 : Int) ≤ a2 ∧ a2 < (a1.length : Int), rdC prog 3 (((a1.flatMap e44).drop (a2.toNat * 2)).drop 1) = (I (at_ a1 a2).f1), 1 ≤ (((a1.flatMap e44).drop (a2.toNat * 2)).drop 1).length], []⟩ [c_ 13, c_ 7] (alc ⟨c1, c2⟩ (alc (ldC e44_ok 0 (by decide) rfl c1 c2) (alc (okIj e44_ok c1 c2 (by decide)) (alc ⟨c1, c2⟩ (alc (ldC e44_ok 1 (by decide) rfl c1 c2) (alc (okIj e44_ok c1 c2 (by decide)) aln)))))) nocal ?_
      by_cases c3 : (at_ a1 a2).f0 = (at_ a1 a2).f1
      · rw [if_pos c3] at h
        refine .cond' (.tmp 21) true [c_ 52, c_ 53, c_ 7] (bT (qT c3)) ?_
        refine .reg' [6] [] ⟨[(6, (B false))], [], [], []⟩ [c_ 53, c_ 7] aln nocal ?_
        have h := Option.some.inj h
        subst h
        exact .fin0 [] (B false) [] aln (.z .s)
      · rw [if_neg c3] at h
        refine .cond' (.tmp 21) false [c_ 14, c_ 15] (bF (qF c3)) ?_
        obtain ⟨x1, hx1, h⟩ := Option.bind_eq_some_iff.mp h
        refine .reg' [0, 1, 7, 8] [.no, .no, .no, .v (.ag [(I (at_ a1 a2).f0), (I (at_ a1 a2).f1)]), .c ⟨57, [(.ag [(I (at_ a1 a2).f0), (I (at_ a1 a2).f1)])], [], (I x1), [], [], [], [], (I x1), []⟩] ⟨[(0, (.sl true a0.length 1 (a0.flatMap encI))), (1, (.sl true a1.length 2 (a1.flatMap e44))), (7, (I x1)), (8, (I 0))], [], [(0 : Int) ≤ a2 ∧ a2 < (a1.length : Int), rdC prog 45 ((a1.flatMap e44).drop (a2.toNat * 2)) = (.ag [(I (at_ a1 a2).f0), (I (at_ a1 a2).f1)]), 2 ≤ ((a1.flatMap e44).drop (a2.toNat * 2)).length, COK (hget []) [(.ag [(I (at_ a1 a2).f0), (I (at_ a1 a2).f1)])] ⟨57, [(.ag [(I (at_ a1 a2).f0), (I (at_ a1 a2).f1)])], [], (I x1), [], [], [], [], (I x1), []⟩], [⟨57, [(.ag [(I (at_ a1 a2).f0), (I (at_ a1 a2).f1)])], [], (I x1), [], [], [], [], (I x1), []⟩]⟩ [c_ 60, c_ 61, c_ 31] (alc ⟨c1, c2⟩ (alc (ldA e44_ok rfl rfl c1 c2) (alc (okI e44_ok c1 c2 (by decide)) (alc (cok0 false (a2c (.z (frz_ag (a2c .s (a2c .s a2n)))) a2n) (.z .s) (fun h => absurd h (by decide))) aln)))) (acal (impl_nextSpot.J (at_ a1 a2) _ hx1) nocal) ?_
        refine .reg' [0, 7, 8, 27, 28, 29] [] ⟨[(0, (.sl true a0.length 1 (a0.flatMap encI))), (7, (I x1)), (8, (I 0)), (27, (.sl true a1.length 2 (a1.flatMap e44))), (28, (I (a1.length : Int))), (29, (I 0))], [], [], []⟩ [l_ 122, b_ 0, c_ 31] aln nocal ?_
        exact ih0 a0 a1 x1 0 0 _ h
    · rw [if_neg c2] at h
      cases h
  · rw [if_neg c1] at h
    cases h
/-! impl_moved: function 49 -/
def impl_moved.f (a0 : (List S44)) (a1 : Int) : Option (List S44) := (if (([] : List S44).length + a0.length) * 16 ≤ 70368744177664 then (if 0 ≤ a1 then (if a1 < ((([] : List S44) ++ a0).length : Int) then ((impl_nextSpot.f (at_ (([] : List S44) ++ a0) a1)).bind fun x1 => (some ((([] : List S44) ++ a0).set a1.toNat (⟨x1, (at_ (([] : List S44) ++ a0) a1).f1⟩ : S44)))) else none) else none) else none)
theorem impl_moved.J (a0 : (List S44)) (a1 : Int) (r : (List S44)) (h : impl_moved.f a0 a1 = some r) : J prog (.call 49 [(.sl true a0.length 2 (a0.flatMap e44)), (I a1)] [] (.rf 512 0 r.length 2 (r.length * 2)) [(512, (r.flatMap e44))]) := by
  unfold impl_moved.f at h
  refine .call' [c_ 2, c_ 3] ?_
  refine .reg' [0, 1] [] ⟨[(0, (.sl true a0.length 2 (a0.flatMap e44))), (1, (I a1))], [], [], []⟩ [c_ 6, c_ 7] aln nocal ?_
  by_cases c1 : (([] : List S44).length + a0.length) * 16 ≤ 70368744177664
  · rw [if_pos c1] at h
    refine .reg' [1, 5] [.no, .no, .w (.rf 512 0 ((([] : List S44) ++ a0).length) 2 ((([] : List S44) ++ a0).length * 2)) ((([] : List S44) ++ a0).flatMap e44)] ⟨[(1, (I a1)), (5, (.rf 512 0 ((([] : List S44) ++ a0).length) 2 ((([] : List S44) ++ a0).length * 2)))], [(512, ((([] : List S44) ++ a0).flatMap e44))], [V.rf 512 0 (([] : List S44).length + a0.length) 2 (([] : List S44).length * 2 + a0.length * 2) = (.rf 512 0 ((([] : List S44) ++ a0).length) 2 ((([] : List S44) ++ a0).length * 2)), ([] : List S44).flatMap e44 ++ (a0.flatMap e44) = ((([] : List S44) ++ a0).flatMap e44), True ∧ ([] : List S44).length * 2 = (([] : List S44).flatMap e44).length ∧ ([] : List S44).length * 2 = (([] : List S44).flatMap e44).length ∧ (([] : List S44).length + a0.length) * 16 ≤ 70368744177664], []⟩ [c_ 14, c_ 15] (alc (apV rfl) (alc apS (alc (apOS e44_ok c1) aln))) nocal ?_
    by_cases c2 : 0 ≤ a1
    · rw [if_pos c2] at h
      by_cases c3 : a1 < ((([] : List S44) ++ a0).length : Int)
      · rw [if_pos c3] at h
        obtain ⟨x1, hx1, h⟩ := Option.bind_eq_some_iff.mp h
        refine .reg' [5] [.no, .no, .no, .no, .no, .v (.ag [(I (at_ (([] : List S44) ++ a0) a1).f0), (I (at_ (([] : List S44) ++ a0) a1).f1)]), .c ⟨57, [(.ag [(I (at_ (([] : List S44) ++ a0) a1).f0), (I (at_ (([] : List S44) ++ a0) a1).f1)])], [], (I x1), [], [], [], [], (I x1), []⟩, .no, .no, .w .un (((([] : List S44) ++ a0).set a1.toNat (⟨x1, (at_ (([] : List S44) ++ a0) a1).f1⟩ : S44)).flatMap e44)] ⟨[(5, (.rf 512 0 ((([] : List S44) ++ a0).length) 2 ((([] : List S44) ++ a0).length * 2)))], [(512, (((([] : List S44) ++ a0).set a1.toNat (⟨x1, (at_ (([] : List S44) ++ a0) a1).f1⟩ : S44)).flatMap e44))], [(0 : Int) ≤ a1 ∧ a1 < ((([] : List S44) ++ a0).length : Int), rdC prog 45 (((([] : List S44) ++ a0).flatMap e44).drop (0 + a1.toNat * 2)) = (.ag [(I (at_ (([] : List S44) ++ a0) a1).f0), (I (at_ (([] : List S44) ++ a0) a1).f1)]), (([] : List S44) ++ a0).length * 2 = ((([] : List S44) ++ a0).flatMap e44).length ∧ 0 + a1.toNat * 2 + 2 ≤ ((([] : List S44) ++ a0).flatMap e44).length, COK (hget [(512, ((([] : List S44) ++ a0).flatMap e44))]) [(.ag [(I (at_ (([] : List S44) ++ a0) a1).f0), (I (at_ (([] : List S44) ++ a0) a1).f1)])] ⟨57, [(.ag [(I (at_ (([] : List S44) ++ a0) a1).f0), (I (at_ (([] : List S44) ++ a0) a1).f1)])], [], (I x1), [], [], [], [], (I x1), []⟩, (0 : Int) ≤ a1 ∧ a1 < ((([] : List S44) ++ a0).length : Int), V.un = V.un, spl ((([] : List S44) ++ a0).flatMap e44) (0 + a1.toNat * 2 + 0) [(I x1)] = (((([] : List S44) ++ a0).set a1.toNat (⟨x1, (at_ (([] : List S44) ++ a0) a1).f1⟩ : S44)).flatMap e44), (([] : List S44) ++ a0).length * 2 = ((([] : List S44) ++ a0).flatMap e44).length ∧ 0 + a1.toNat * 2 + 0 + 1 ≤ ((([] : List S44) ++ a0).flatMap e44).length], [⟨57, [(.ag [(I (at_ (([] : List S44) ++ a0) a1).f0), (I (at_ (([] : List S44) ++ a0) a1).f1)])], [], (I x1), [], [], [], [], (I x1), []⟩]⟩ [c_ 30, c_ 31] (alc ⟨c2, c3⟩ (alc (ldA0 e44_ok rfl rfl c2 c3) (alc (okA0 e44_ok c2 c3 (by decide)) (alc (cok0 false (a2c (.z (frz_ag (a2c .s (a2c .s a2n)))) a2n) (.z .s) (fun h => absurd h (by decide))) (alc ⟨c2, c3⟩ (alc rfl (alc (st_row e44_ok 0 c2 c3 (Nat.le_of_ble_eq_true rfl) rfl) (alc (okA e44_ok c2 c3 (by decide)) aln)))))))) (acal (impl_nextSpot.J (at_ (([] : List S44) ++ a0) a1) _ hx1) nocal) ?_
        refine .eqs (env2 := [(5, (.rf 512 0 (((([] : List S44) ++ a0).set a1.toNat (⟨x1, (at_ (([] : List S44) ++ a0) a1).f1⟩ : S44)).length) 2 (((([] : List S44) ++ a0).set a1.toNat (⟨x1, (at_ (([] : List S44) ++ a0) a1).f1⟩ : S44)).length * 2)))]) (H2 := [(512, (((([] : List S44) ++ a0).set a1.toNat (⟨x1, (at_ (([] : List S44) ++ a0) a1).f1⟩ : S44)).flatMap e44))]) (by first | (simp only [List.length_set]; done) | simp) (by first | rfl | (simp only [List.length_set]; done) | simp) ?_
        refine .reg' [4] [] ⟨[(4, (.rf 512 0 (((([] : List S44) ++ a0).set a1.toNat (⟨x1, (at_ (([] : List S44) ++ a0) a1).f1⟩ : S44)).length) 2 (((([] : List S44) ++ a0).set a1.toNat (⟨x1, (at_ (([] : List S44) ++ a0) a1).f1⟩ : S44)).length * 2)))], [(512, (((([] : List S44) ++ a0).set a1.toNat (⟨x1, (at_ (([] : List S44) ++ a0) a1).f1⟩ : S44)).flatMap e44))], [], []⟩ [c_ 31] aln nocal ?_
        have h := Option.some.inj h
        subst h
        exact .fin' [] [(512, 512)] (.rf 512 0 (((([] : List S44) ++ a0).set a1.toNat (⟨x1, (at_ (([] : List S44) ++ a0) a1).f1⟩ : S44)).length) 2 (((([] : List S44) ++ a0).set a1.toNat (⟨x1, (at_ (([] : List S44) ++ a0) a1).f1⟩ : S44)).length * 2)) [] aln (shc 512 (rowF e44_ok _) shn) (.rf (memP_mem (p := (512, 512)) rfl))
      · rw [if_neg c3] at h
        cases h
    · rw [if_neg c2] at h
      cases h
  · rw [if_neg c1] at h
    cases h
/-! impl_search_first, impl_search_canFinish: function 53 -/
mutual
def impl_search_first.f : Nat → S65 → (List S44) → Option (Int × S65 × (List (List Int)))
 | 0, _, _ => none
 | k + 1, a0, a1 => (impl_search_first.l0 k a1 a0.f0 a0.f1 0)
def impl_search_first.l0 : Nat → (List S44) → (List Int) → (List (List Int)) → Int → Option (Int × S65 × (List (List Int)))
 | 0, _, _, _, _ => none
 | k + 1, a1, x1, x2, x3 => (if x3 < (a1.length : Int) then ((impl_mayMove.f k x1 a1 x3).bind fun x4 => (if x4 = true then ((impl_moved.f a1 x3).bind fun x5 => ((impl_search_canFinish.f k (⟨x1, x2⟩ : S65) x5).bind fun x6 => (if x6.1 = true then (some (x3, (⟨x6.2.1.f0, x6.2.2⟩ : S65), x6.2.2)) else (impl_search_first.l0 k a1 x6.2.1.f0 x6.2.2 (wrap64 (x3 + 1)))))) else (impl_search_first.l0 k a1 x1 x2 (wrap64 (x3 + 1))))) else (some ((-1), (⟨x1, x2⟩ : S65), x2)))
def impl_search_canFinish.f : Nat → S65 → (List S44) → Option (Bool × S65 × (List (List Int)))
 | 0, _, _ => none
 | k + 1, a0, a1 => ((impl_home.f k a1).bind fun x1 => (if x1 = true then (some (true, a0, a0.f1)) else (impl_search_canFinish.l0 k a0 a1 (List.replicate 4 (0 : Int)) 0)))
def impl_search_canFinish.l0 : Nat → S65 → (List S44) → (List Int) → Int → Option (Bool × S65 × (List (List Int)))
 | 0, _, _, _, _ => none
 | k + 1, a0, a1, x2, x3 => (if x3 < (a1.length : Int) then (if 0 ≤ x3 then (if x3 < 4 then (if x3 < (x2.length : Int) then (impl_search_canFinish.l0 k a0 a1 (x2.set x3.toNat ((at_ a1 x3).f0)) (wrap64 (x3 + 1))) else none) else none) else none) else (if x2.length = 4 then (if kOk 4 a0.f1 = true then (if kOk1 4 x2 = true then (if (kHas a0.f1 x2) = true then (some (false, a0, a0.f1)) else ((impl_search_first.f k a0 a1).bind fun x4 => (if x4.1 ≥ 0 then (some (true, (⟨x4.2.1.f0, x4.2.2⟩ : S65), x4.2.2)) else (if kOk 4 x4.2.2 = true then (some (false, (⟨x4.2.1.f0, (kIns x4.2.2 x2)⟩ : S65), (kIns x4.2.2 x2))) else none)))) else none) else none) else none))
end
theorem impl_search_first.lab : ∀ k, (∀ (a0 : S65) (a1 : (List S44)) (r : (Int × S65 × (List (List Int)))), impl_search_first.f k a0 a1 = some r → J prog (.call 53 [(.pt 0 0 2), (.sl true a1.length 2 (a1.flatMap e44))] [(0, [(.sl true a0.f0.length 1 (a0.f0.flatMap encI)), (.pt 2000000001 0 1)]), (2000000001, (mrow a0.f1))] (I r.1) [(0, [(.sl true r.2.1.f0.length 1 (r.2.1.f0.flatMap encI)), (.pt 2000000001 0 1)]), (2000000001, (mrow r.2.2))])) ∧ (∀ (a1 : (List S44)) (x1 : (List Int)) (x2 : (List (List Int))) (x3 : Int) (r : (Int × S65 × (List (List Int)))), impl_search_first.l0 k a1 x1 x2 x3 = some r → J prog (.run 53 [0, 2000000001] [l_ 26, b_ 0, c_ 7] [(0, (.pt 0 0 2)), (1, (.sl true a1.length 2 (a1.flatMap e44))), (7, (I (a1.length : Int))), (8, (I x3))] [(0, [(.sl true x1.length 1 (x1.flatMap encI)), (.pt 2000000001 0 1)]), (2000000001, (mrow x2))] (I r.1) [(0, [(.sl true r.2.1.f0.length 1 (r.2.1.f0.flatMap encI)), (.pt 2000000001 0 1)]), (2000000001, (mrow r.2.2))])) ∧ (∀ (a0 : S65) (a1 : (List S44)) (r : (Bool × S65 × (List (List Int)))), impl_search_canFinish.f k a0 a1 = some r → J prog (.call 52 [(.pt 0 0 2), (.sl true a1.length 2 (a1.flatMap e44))] [(0, [(.sl true a0.f0.length 1 (a0.f0.flatMap encI)), (.pt 2000000001 0 1)]), (2000000001, (mrow a0.f1))] (B r.1) [(0, [(.sl true r.2.1.f0.length 1 (r.2.1.f0.flatMap encI)), (.pt 2000000001 0 1)]), (2000000001, (mrow r.2.2))])) ∧ (∀ (a0 : S65) (a1 : (List S44)) (x2 : (List Int)) (x3 : Int) (r : (Bool × S65 × (List (List Int)))), impl_search_canFinish.l0 k a0 a1 x2 x3 = some r → J prog (.run 52 [0, 2000000001] [l_ 122, b_ 0, c_ 31] [(0, (.pt 0 0 2)), (1, (.sl true a1.length 2 (a1.flatMap e44))), (5, (.pt 1024 0 (x2.length * 1))), (10, (.sl true a1.length 2 (a1.flatMap e44))), (11, (I (a1.length : Int))), (12, (I x3))] [(0, [(.sl true a0.f0.length 1 (a0.f0.flatMap encI)), (.pt 2000000001 0 1)]), (2000000001, (mrow a0.f1)), (1024, (x2.flatMap encI))] (B r.1) [(0, [(.sl true r.2.1.f0.length 1 (r.2.1.f0.flatMap encI)), (.pt 2000000001 0 1)]), (2000000001, (mrow r.2.2))]))
 | 0 => ⟨(by intro a0 a1 r h; unfold impl_search_first.f at h; cases h), (by intro a1 x1 x2 x3 r h; unfold impl_search_first.l0 at h; cases h), (by intro a0 a1 r h; unfold impl_search_canFinish.f at h; cases h), (by intro a0 a1 x2 x3 r h; unfold impl_search_canFinish.l0 at h; cases h)⟩
 | k + 1 => by
  obtain ⟨ihf, ih0, m0_ihf, m0_ih0⟩ := impl_search_first.lab k
  refine ⟨?_, ?_, ?_, ?_⟩
  · intro a0 a1 r h
    unfold impl_search_first.f at h
    refine .call' [c_ 2, c_ 3] ?_
    refine .reg' [0, 1] [] ⟨[(0, (.pt 0 0 2)), (1, (.sl true a1.length 2 (a1.flatMap e44)))], [(0, [(.sl true a0.f0.length 1 (a0.f0.flatMap encI)), (.pt 2000000001 0 1)]), (2000000001, (mrow a0.f1))], [], []⟩ [c_ 12, c_ 13, c_ 7] aln nocal ?_
    refine .reg' [0, 1, 7, 8] [] ⟨[(0, (.pt 0 0 2)), (1, (.sl true a1.length 2 (a1.flatMap e44))), (7, (I (a1.length : Int))), (8, (I 0))], [(0, [(.sl true a0.f0.length 1 (a0.f0.flatMap encI)), (.pt 2000000001 0 1)]), (2000000001, (mrow a0.f1))], [], []⟩ [l_ 26, b_ 0, c_ 7] aln nocal ?_
    exact ih0 a1 a0.f0 a0.f1 0 _ h
  · intro a1 x1 x2 x3 r h
    unfold impl_search_first.l0 at h
    refine .loop' [c_ 104, c_ 105, l_ 26, b_ 0, c_ 7] ?_
    refine .reg' [0, 1, 7, 8, 9] [] ⟨[(0, (.pt 0 0 2)), (1, (.sl true a1.length 2 (a1.flatMap e44))), (7, (I (a1.length : Int))), (8, (I x3)), (9, (B (decide (x3 < (a1.length : Int)))))], [(0, [(.sl true x1.length 1 (x1.flatMap encI)), (.pt 2000000001 0 1)]), (2000000001, (mrow x2))], [], []⟩ [c_ 210, c_ 211, l_ 26, b_ 0, c_ 7] aln nocal ?_
    by_cases c1 : x3 < (a1.length : Int)
    · rw [if_pos c1] at h
      refine .cond' (.tmp 9) true [c_ 1688, c_ 1689, b_ 1, c_ 423, l_ 26, b_ 0, c_ 7] (bT (dT c1)) ?_
      refine .reg' [0, 1, 5, 7, 8] [] ⟨[(0, (.pt 0 0 2)), (1, (.sl true a1.length 2 (a1.flatMap e44))), (5, (I x3)), (7, (I (a1.length : Int))), (8, (I x3))], [(0, [(.sl true x1.length 1 (x1.flatMap encI)), (.pt 2000000001 0 1)]), (2000000001, (mrow x2))], [], []⟩ [c_ 3378, c_ 3379, b_ 1, c_ 423, l_ 26, b_ 0, c_ 7] aln nocal ?_
      obtain ⟨x4, hx4, h⟩ := Option.bind_eq_some_iff.mp h
      by_cases c2 : x4 = true
      · rw [if_pos c2] at h
        obtain ⟨x5, hx5, h⟩ := Option.bind_eq_some_iff.mp h
        obtain ⟨x6, hx6, h⟩ := Option.bind_eq_some_iff.mp h
        refine .reg' [0, 1, 5, 7, 8, 24] [.no, .no, .no, .no, .no, .no, .c ⟨46, [(.sl true x1.length 1 (x1.flatMap encI)), (.sl true a1.length 2 (a1.flatMap e44)), (I x3)], [], (B x4), [], [], [], [], (B x4), []⟩, .v (B true), .no, .no, .no, .c ⟨49, [(.sl true a1.length 2 (a1.flatMap e44)), (I x3)], [], (.sl false x5.length 2 (x5.flatMap e44)), [], [], [], [], (.sl false x5.length 2 (x5.flatMap e44)), []⟩, .c ⟨52, [(.pt 0 0 2), (.sl true x5.length 2 (x5.flatMap e44))], [(0, [(.sl true x1.length 1 (x1.flatMap encI)), (.pt 2000000001 0 1)]), (2000000001, (mrow x2))], (B x6.1), [(0, [(.sl true x6.2.1.f0.length 1 (x6.2.1.f0.flatMap encI)), (.pt 2000000001 0 1)]), (2000000001, (mrow x6.2.2))], [], [(0, 0), (2000000001, 2000000001)], [(0, 0), (2000000001, 2000000001)], (B x6.1), [(0, [(.sl true x6.2.1.f0.length 1 (x6.2.1.f0.flatMap encI)), (.pt 2000000001 0 1)]), (2000000001, (mrow x6.2.2))]⟩] ⟨[(0, (.pt 0 0 2)), (1, (.sl true a1.length 2 (a1.flatMap e44))), (5, (I x3)), (7, (I (a1.length : Int))), (8, (I x3)), (24, (B x6.1))], [(0, [(.sl true x6.2.1.f0.length 1 (x6.2.1.f0.flatMap encI)), (.pt 2000000001 0 1)]), (2000000001, (mrow x6.2.2))], [2 = 2 ∧ 0 + 1 ≤ 2, COK (hget [(0, [(.sl true x1.length 1 (x1.flatMap encI)), (.pt 2000000001 0 1)]), (2000000001, (mrow x2))]) [(.sl true x1.length 1 (x1.flatMap encI)), (.sl true a1.length 2 (a1.flatMap e44)), (I x3)] ⟨46, [(.sl true x1.length 1 (x1.flatMap encI)), (.sl true a1.length 2 (a1.flatMap e44)), (I x3)], [], (B x4), [], [], [], [], (B x4), []⟩, (B x4 : V) = B true, COK (hget [(0, [(.sl true x1.length 1 (x1.flatMap encI)), (.pt 2000000001 0 1)]), (2000000001, (mrow x2))]) [(.sl true a1.length 2 (a1.flatMap e44)), (I x3)] ⟨49, [(.sl true a1.length 2 (a1.flatMap e44)), (I x3)], [], (.sl false x5.length 2 (x5.flatMap e44)), [], [], [], [], (.sl false x5.length 2 (x5.flatMap e44)), []⟩, COK (hget [(0, [(.sl true x1.length 1 (x1.flatMap encI)), (.pt 2000000001 0 1)]), (2000000001, (mrow x2))]) [(.pt 0 0 2), (.sl false x5.length 2 (x5.flatMap e44))] ⟨52, [(.pt 0 0 2), (.sl true x5.length 2 (x5.flatMap e44))], [(0, [(.sl true x1.length 1 (x1.flatMap encI)), (.pt 2000000001 0 1)]), (2000000001, (mrow x2))], (B x6.1), [(0, [(.sl true x6.2.1.f0.length 1 (x6.2.1.f0.flatMap encI)), (.pt 2000000001 0 1)]), (2000000001, (mrow x6.2.2))], [], [(0, 0), (2000000001, 2000000001)], [(0, 0), (2000000001, 2000000001)], (B x6.1), [(0, [(.sl true x6.2.1.f0.length 1 (x6.2.1.f0.flatMap encI)), (.pt 2000000001 0 1)]), (2000000001, (mrow x6.2.2))]⟩], [⟨46, [(.sl true x1.length 1 (x1.flatMap encI)), (.sl true a1.length 2 (a1.flatMap e44)), (I x3)], [], (B x4), [], [], [], [], (B x4), []⟩, ⟨49, [(.sl true a1.length 2 (a1.flatMap e44)), (I x3)], [], (.sl false x5.length 2 (x5.flatMap e44)), [], [], [], [], (.sl false x5.length 2 (x5.flatMap e44)), []⟩, ⟨52, [(.pt 0 0 2), (.sl true x5.length 2 (x5.flatMap e44))], [(0, [(.sl true x1.length 1 (x1.flatMap encI)), (.pt 2000000001 0 1)]), (2000000001, (mrow x2))], (B x6.1), [(0, [(.sl true x6.2.1.f0.length 1 (x6.2.1.f0.flatMap encI)), (.pt 2000000001 0 1)]), (2000000001, (mrow x6.2.2))], [], [(0, 0), (2000000001, 2000000001)], [(0, 0), (2000000001, 2000000001)], (B x6.1), [(0, [(.sl true x6.2.1.f0.length 1 (x6.2.1.f0.flatMap encI)), (.pt 2000000001 0 1)]), (2000000001, (mrow x6.2.2))]⟩]⟩ [c_ 3379, b_ 1, c_ 423, l_ 26, b_ 0, c_ 7] (alc ⟨rfl, by decide⟩ (alc (cok0 false (a2c (.z (frz_sl encI_ok (fun h => h))) (a2c (.z (frz_sl e44_ok (fun h => h))) (a2c (.z .s) a2n))) (.z .s) (fun h => absurd h (by decide))) (alc (bT c2) (alc (cok0 false (a2c (.z (frz_sl e44_ok (fun h => h))) (a2c (.z .s) a2n)) (.z (clnS e44_c (fun h => absurd h (by decide)))) (fun h => absurd h (by decide))) (alc (cokW true (a2c (.pt (memP_mem (p := (0, 0)) rfl)) (a2c (.z (frz_sl (t := false) e44_ok (fun h => absurd h (by decide)))) a2n)) (akc ⟨_, _, rfl, rfl, (a2c (.z (frz_sl encI_ok (fun h => h))) (a2c (.pt (memP_mem (p := (2000000001, 2000000001)) rfl)) a2n))⟩ (akc ⟨_, _, rfl, rfl, (mrowC _)⟩ akn)) (akc (.inl rfl) (akc (.inl rfl) akn)) (.z .s) (akc ⟨_, _, rfl, rfl, (a2c (.z (clnS encI_c (fun h => rfl))) (a2c (.pt (memP_mem (p := (2000000001, 2000000001)) rfl)) a2n))⟩ (akc ⟨_, _, rfl, rfl, mrowB _⟩ akn)) (fun h => rfl)) aln))))) (acal (impl_mayMove.J k x1 a1 x3 _ hx4) (acal (.cw' [512] [] (impl_moved.J a1 x3 _ hx5) shn (.z (frz_rf (k := 512) e44_ok (by simp) rfl rfl (row_len e44_ok _).symm))) (acal (m0_ihf (⟨x1, x2⟩ : S65) x5 _ hx6) nocal))) ?_
        by_cases c3 : x6.1 = true
        · rw [if_pos c3] at h
          refine .cond' (.tmp 24) true [c_ 13516, c_ 13517, b_ 1, c_ 423, l_ 26, b_ 0, c_ 7] (bT c3) ?_
          refine .reg' [4] [] ⟨[(4, (I x3))], [(0, [(.sl true x6.2.1.f0.length 1 (x6.2.1.f0.flatMap encI)), (.pt 2000000001 0 1)]), (2000000001, (mrow x6.2.2))], [], []⟩ [c_ 13517, b_ 1, c_ 423, l_ 26, b_ 0, c_ 7] aln nocal ?_
          have h := Option.some.inj h
          subst h
          exact .fin' [] [(0, 0), (2000000001, 2000000001)] (I x3) [] aln (shc 0 (a2c (.z (frz_sl encI_ok (fun h => h))) (a2c (.pt (memP_mem (p := (2000000001, 2000000001)) rfl)) a2n)) (shc 2000000001 (mrowC _) shn)) (.z .s)
        · rw [if_neg c3] at h
          refine .cond' (.tmp 24) false [c_ 423, l_ 26, b_ 0, c_ 7] (bF (vF c3)) ?_
          refine .reg' [0, 1, 7, 8] [] ⟨[(0, (.pt 0 0 2)), (1, (.sl true a1.length 2 (a1.flatMap e44))), (7, (I (a1.length : Int))), (8, (I (wrap64 (x3 + 1))))], [(0, [(.sl true x6.2.1.f0.length 1 (x6.2.1.f0.flatMap encI)), (.pt 2000000001 0 1)]), (2000000001, (mrow x6.2.2))], [], []⟩ [l_ 26, b_ 0, c_ 7] aln nocal ?_
          exact ih0 a1 x6.2.1.f0 x6.2.2 (wrap64 (x3 + 1)) _ h
      · rw [if_neg c2] at h
        refine .reg' [0, 1, 5, 7, 8, 24] [.no, .no, .no, .no, .no, .no, .c ⟨46, [(.sl true x1.length 1 (x1.flatMap encI)), (.sl true a1.length 2 (a1.flatMap e44)), (I x3)], [], (B x4), [], [], [], [], (B x4), []⟩, .v (B false)] ⟨[(0, (.pt 0 0 2)), (1, (.sl true a1.length 2 (a1.flatMap e44))), (5, (I x3)), (7, (I (a1.length : Int))), (8, (I x3)), (24, (B false))], [(0, [(.sl true x1.length 1 (x1.flatMap encI)), (.pt 2000000001 0 1)]), (2000000001, (mrow x2))], [2 = 2 ∧ 0 + 1 ≤ 2, COK (hget [(0, [(.sl true x1.length 1 (x1.flatMap encI)), (.pt 2000000001 0 1)]), (2000000001, (mrow x2))]) [(.sl true x1.length 1 (x1.flatMap encI)), (.sl true a1.length 2 (a1.flatMap e44)), (I x3)] ⟨46, [(.sl true x1.length 1 (x1.flatMap encI)), (.sl true a1.length 2 (a1.flatMap e44)), (I x3)], [], (B x4), [], [], [], [], (B x4), []⟩, (B x4 : V) = B false], [⟨46, [(.sl true x1.length 1 (x1.flatMap encI)), (.sl true a1.length 2 (a1.flatMap e44)), (I x3)], [], (B x4), [], [], [], [], (B x4), []⟩]⟩ [c_ 3379, b_ 1, c_ 423, l_ 26, b_ 0, c_ 7] (alc ⟨rfl, by decide⟩ (alc (cok0 false (a2c (.z (frz_sl encI_ok (fun h => h))) (a2c (.z (frz_sl e44_ok (fun h => h))) (a2c (.z .s) a2n))) (.z .s) (fun h => absurd h (by decide))) (alc (bF (vF c2)) aln))) (acal (impl_mayMove.J k x1 a1 x3 _ hx4) nocal) ?_
        refine .cond' (.tmp 24) false [c_ 423, l_ 26, b_ 0, c_ 7] (rfl) ?_
        refine .reg' [0, 1, 7, 8] [] ⟨[(0, (.pt 0 0 2)), (1, (.sl true a1.length 2 (a1.flatMap e44))), (7, (I (a1.length : Int))), (8, (I (wrap64 (x3 + 1))))], [(0, [(.sl true x1.length 1 (x1.flatMap encI)), (.pt 2000000001 0 1)]), (2000000001, (mrow x2))], [], []⟩ [l_ 26, b_ 0, c_ 7] aln nocal ?_
        exact ih0 a1 x1 x2 (wrap64 (x3 + 1)) _ h
    · rw [if_neg c1] at h
      refine .cond' (.tmp 9) false [c_ 14, c_ 15] (bF (dF c1)) ?_
      refine .reg' [4] [] ⟨[(4, (I (-1)))], [(0, [(.sl true x1.length 1 (x1.flatMap encI)), (.pt 2000000001 0 1)]), (2000000001, (mrow x2))], [], []⟩ [c_ 15] aln nocal ?_
      have h := Option.some.inj h
      subst h
      exact .fin' [] [(0, 0), (2000000001, 2000000001)] (I (-1)) [] aln (shc 0 (a2c (.z (frz_sl encI_ok (fun h => h))) (a2c (.pt (memP_mem (p := (2000000001, 2000000001)) rfl)) a2n)) (shc 2000000001 (mrowC _) shn)) (.z .s)
  · intro a0 a1 r h
    unfold impl_search_canFinish.f at h
    refine .call' [c_ 2, c_ 3] ?_
    refine .reg' [0, 1] [] ⟨[(0, (.pt 0 0 2)), (1, (.sl true a1.length 2 (a1.flatMap e44)))], [(0, [(.sl true a0.f0.length 1 (a0.f0.flatMap encI)), (.pt 2000000001 0 1)]), (2000000001, (mrow a0.f1))], [], []⟩ [c_ 12, c_ 13, c_ 7] aln nocal ?_
    obtain ⟨x1, hx1, h⟩ := Option.bind_eq_some_iff.mp h
    refine .reg' [0, 1, 9] [.no, .c ⟨48, [(.sl true a1.length 2 (a1.flatMap e44))], [], (B x1), [], [], [], [], (B x1), []⟩] ⟨[(0, (.pt 0 0 2)), (1, (.sl true a1.length 2 (a1.flatMap e44))), (9, (B x1))], [(0, [(.sl true a0.f0.length 1 (a0.f0.flatMap encI)), (.pt 2000000001 0 1)]), (2000000001, (mrow a0.f1))], [COK (hget [(0, [(.sl true a0.f0.length 1 (a0.f0.flatMap encI)), (.pt 2000000001 0 1)]), (2000000001, (mrow a0.f1))]) [(.sl true a1.length 2 (a1.flatMap e44))] ⟨48, [(.sl true a1.length 2 (a1.flatMap e44))], [], (B x1), [], [], [], [], (B x1), []⟩], [⟨48, [(.sl true a1.length 2 (a1.flatMap e44))], [], (B x1), [], [], [], [], (B x1), []⟩]⟩ [c_ 13, c_ 7] (alc (cok0 false (a2c (.z (frz_sl e44_ok (fun h => h))) a2n) (.z .s) (fun h => absurd h (by decide))) aln) (acal (impl_home.J k a1 _ hx1) nocal) ?_
    by_cases c1 : x1 = true
    · rw [if_pos c1] at h
      refine .cond' (.tmp 9) true [c_ 52, c_ 53, c_ 7] (bT c1) ?_
      refine .reg' [4] [] ⟨[(4, (B true))], [(0, [(.sl true a0.f0.length 1 (a0.f0.flatMap encI)), (.pt 2000000001 0 1)]), (2000000001, (mrow a0.f1))], [], []⟩ [c_ 53, c_ 7] aln nocal ?_
      have h := Option.some.inj h
      subst h
      exact .fin' [] [(0, 0), (2000000001, 2000000001)] (B true) [] aln (shc 0 (a2c (.z (frz_sl encI_ok (fun h => h))) (a2c (.pt (memP_mem (p := (2000000001, 2000000001)) rfl)) a2n)) (shc 2000000001 (mrowC _) shn)) (.z .s)
    · rw [if_neg c1] at h
      refine .cond' (.tmp 9) false [c_ 14, c_ 15] (bF (vF c1)) ?_
      refine .reg' [0, 1, 5] [] ⟨[(0, (.pt 0 0 2)), (1, (.sl true a1.length 2 (a1.flatMap e44))), (5, (.pt 1024 0 4))], [(0, [(.sl true a0.f0.length 1 (a0.f0.flatMap encI)), (.pt 2000000001 0 1)]), (2000000001, (mrow a0.f1)), (1024, ((List.replicate 4 (0 : Int)).flatMap encI))], [], []⟩ [c_ 60, c_ 61, c_ 31] aln nocal ?_
      refine .eqs (env2 := [(0, (.pt 0 0 2)), (1, (.sl true a1.length 2 (a1.flatMap e44))), (5, (.pt 1024 0 ((List.replicate 4 (0 : Int)).length * 1)))]) (H2 := [(0, [(.sl true a0.f0.length 1 (a0.f0.flatMap encI)), (.pt 2000000001 0 1)]), (2000000001, (mrow a0.f1)), (1024, ((List.replicate 4 (0 : Int)).flatMap encI))]) (by first | (simp only [List.length_set]; done) | simp) (by first | rfl | (simp only [List.length_set]; done) | simp) ?_
      refine .reg' [0, 1, 5, 10, 11, 12] [] ⟨[(0, (.pt 0 0 2)), (1, (.sl true a1.length 2 (a1.flatMap e44))), (5, (.pt 1024 0 ((List.replicate 4 (0 : Int)).length * 1))), (10, (.sl true a1.length 2 (a1.flatMap e44))), (11, (I (a1.length : Int))), (12, (I 0))], [(0, [(.sl true a0.f0.length 1 (a0.f0.flatMap encI)), (.pt 2000000001 0 1)]), (2000000001, (mrow a0.f1)), (1024, ((List.replicate 4 (0 : Int)).flatMap encI))], [], []⟩ [l_ 122, b_ 0, c_ 31] aln nocal ?_
      exact m0_ih0 a0 a1 (List.replicate 4 (0 : Int)) 0 _ h
  · intro a0 a1 x2 x3 r h
    unfold impl_search_canFinish.l0 at h
    refine .loop' [c_ 488, c_ 489, l_ 122, b_ 0, c_ 31] ?_
    refine .reg' [0, 1, 5, 10, 11, 12, 13] [] ⟨[(0, (.pt 0 0 2)), (1, (.sl true a1.length 2 (a1.flatMap e44))), (5, (.pt 1024 0 (x2.length * 1))), (10, (.sl true a1.length 2 (a1.flatMap e44))), (11, (I (a1.length : Int))), (12, (I x3)), (13, (B (decide (x3 < (a1.length : Int)))))], [(0, [(.sl true a0.f0.length 1 (a0.f0.flatMap encI)), (.pt 2000000001 0 1)]), (2000000001, (mrow a0.f1)), (1024, (x2.flatMap encI))], [], []⟩ [c_ 978, c_ 979, l_ 122, b_ 0, c_ 31] aln nocal ?_
    by_cases c2 : x3 < (a1.length : Int)
    · rw [if_pos c2] at h
      refine .cond' (.tmp 13) true [c_ 7832, c_ 7833, b_ 1, c_ 1959, l_ 122, b_ 0, c_ 31] (bT (dT c2)) ?_
      by_cases c3 : 0 ≤ x3
      · rw [if_pos c3] at h
        refine .reg' [0, 1, 5, 6, 7, 10, 11, 12] [.no, .no, .v (.ag [(I (at_ a1 x3).f0), (I (at_ a1 x3).f1)])] ⟨[(0, (.pt 0 0 2)), (1, (.sl true a1.length 2 (a1.flatMap e44))), (5, (.pt 1024 0 (x2.length * 1))), (6, (I x3)), (7, (.pt 1795 0 2)), (10, (.sl true a1.length 2 (a1.flatMap e44))), (11, (I (a1.length : Int))), (12, (I x3))], [(0, [(.sl true a0.f0.length 1 (a0.f0.flatMap encI)), (.pt 2000000001 0 1)]), (2000000001, (mrow a0.f1)), (1024, (x2.flatMap encI)), (1795, [(I (at_ a1 x3).f0), (I (at_ a1 x3).f1)])], [(0 : Int) ≤ x3 ∧ x3 < (a1.length : Int), rdC prog 45 ((a1.flatMap e44).drop (x3.toNat * 2)) = (.ag [(I (at_ a1 x3).f0), (I (at_ a1 x3).f1)]), 2 ≤ ((a1.flatMap e44).drop (x3.toNat * 2)).length, 2 = 2 ∧ 0 + 2 ≤ 2], []⟩ [c_ 7833, b_ 1, c_ 1959, l_ 122, b_ 0, c_ 31] (alc ⟨c3, c2⟩ (alc (ldA e44_ok rfl rfl c3 c2) (alc (okI e44_ok c3 c2 (by decide)) (alc ⟨rfl, by decide⟩ aln)))) nocal ?_
        by_cases c4 : x3 < 4
        · rw [if_pos c4] at h
          by_cases c5 : x3 < (x2.length : Int)
          · rw [if_pos c5] at h
            refine .reg' [0, 1, 5, 10, 11, 12] [.no, .no, .no, .no, .w .un ((x2.set x3.toNat ((at_ a1 x3).f0)).flatMap encI)] ⟨[(0, (.pt 0 0 2)), (1, (.sl true a1.length 2 (a1.flatMap e44))), (5, (.pt 1024 0 (x2.length * 1))), (10, (.sl true a1.length 2 (a1.flatMap e44))), (11, (I (a1.length : Int))), (12, (I x3))], [(0, [(.sl true a0.f0.length 1 (a0.f0.flatMap encI)), (.pt 2000000001 0 1)]), (2000000001, (mrow a0.f1)), (1024, ((x2.set x3.toNat ((at_ a1 x3).f0)).flatMap encI)), (1795, [(I (at_ a1 x3).f0), (I (at_ a1 x3).f1)])], [2 = 2 ∧ 0 + 1 ≤ 2, (0 : Int) ≤ x3 ∧ x3 < 4, V.un = V.un, spl (x2.flatMap encI) (0 + x3.toNat * 1) [(I (at_ a1 x3).f0)] = ((x2.set x3.toNat ((at_ a1 x3).f0)).flatMap encI), x2.length * 1 = (x2.flatMap encI).length ∧ 0 + x3.toNat * 1 + 1 ≤ (x2.flatMap encI).length], []⟩ [c_ 1959, l_ 122, b_ 0, c_ 31] (alc ⟨rfl, by decide⟩ (alc ⟨c3, c4⟩ (alc rfl (alc (st_row1 encI_ok c3 c5 (I (at_ a1 x3).f0) rfl) (alc (okA0 encI_ok c3 c5 (by decide)) aln))))) nocal ?_
            refine .eqs (env2 := [(0, (.pt 0 0 2)), (1, (.sl true a1.length 2 (a1.flatMap e44))), (5, (.pt 1024 0 ((x2.set x3.toNat ((at_ a1 x3).f0)).length * 1))), (10, (.sl true a1.length 2 (a1.flatMap e44))), (11, (I (a1.length : Int))), (12, (I x3))]) (H2 := [(0, [(.sl true a0.f0.length 1 (a0.f0.flatMap encI)), (.pt 2000000001 0 1)]), (2000000001, (mrow a0.f1)), (1024, ((x2.set x3.toNat ((at_ a1 x3).f0)).flatMap encI)), (1795, [(I (at_ a1 x3).f0), (I (at_ a1 x3).f1)])]) (by first | (simp only [List.length_set]; done) | simp) (by first | rfl | (simp only [List.length_set]; done) | simp) ?_
            refine .reg' [0, 1, 5, 10, 11, 12] [] ⟨[(0, (.pt 0 0 2)), (1, (.sl true a1.length 2 (a1.flatMap e44))), (5, (.pt 1024 0 ((x2.set x3.toNat ((at_ a1 x3).f0)).length * 1))), (10, (.sl true a1.length 2 (a1.flatMap e44))), (11, (I (a1.length : Int))), (12, (I (wrap64 (x3 + 1))))], [(0, [(.sl true a0.f0.length 1 (a0.f0.flatMap encI)), (.pt 2000000001 0 1)]), (2000000001, (mrow a0.f1)), (1024, ((x2.set x3.toNat ((at_ a1 x3).f0)).flatMap encI)), (1795, [(I (at_ a1 x3).f0), (I (at_ a1 x3).f1)])], [], []⟩ [l_ 122, b_ 0, c_ 31] aln nocal ?_
            refine .wk' [] [(0, 0), (2000000001, 2000000001), (1024, 1024)] [(0, (.pt 0 0 2)), (1, (.sl true a1.length 2 (a1.flatMap e44))), (5, (.pt 1024 0 ((x2.set x3.toNat ((at_ a1 x3).f0)).length * 1))), (10, (.sl true a1.length 2 (a1.flatMap e44))), (11, (I (a1.length : Int))), (12, (I (wrap64 (x3 + 1))))] [(0, [(.sl true a0.f0.length 1 (a0.f0.flatMap encI)), (.pt 2000000001 0 1)]), (2000000001, (mrow a0.f1)), (1024, ((x2.set x3.toNat ((at_ a1 x3).f0)).flatMap encI))] (shc 0 (a2c (.z (frz_sl encI_ok (fun h => h))) (a2c (.pt (memP_mem (p := (2000000001, 2000000001)) rfl)) a2n)) (shc 2000000001 (mrowC _) (shc 1024 (rowF encI_ok _) shn))) (enc_ (.pt (memP_mem (p := (0, 0)) rfl)) (enc_ (.z (frz_sl e44_ok (fun h => h))) (enc_ (.pt (memP_mem (p := (1024, 1024)) rfl)) (enc_ (.z (frz_sl e44_ok (fun h => h))) (enc_ (.z .s) (enc_ (.z .s) enn)))))) ?_
            exact m0_ih0 a0 a1 (x2.set x3.toNat ((at_ a1 x3).f0)) (wrap64 (x3 + 1)) _ h
          · rw [if_neg c5] at h
            cases h
        · rw [if_neg c4] at h
          cases h
      · rw [if_neg c3] at h
        cases h
    · rw [if_neg c2] at h
      refine .cond' (.tmp 13) false [c_ 124, c_ 125, c_ 63] (bF (dF c2)) ?_
      by_cases c6 : x2.length = 4
      · rw [if_pos c6] at h
        by_cases c7 : kOk 4 a0.f1 = true
        · rw [if_pos c7] at h
          by_cases c8 : kOk1 4 x2 = true
          · rw [if_pos c8] at h
            refine .reg' [0, 1, 5, 27] [.no, .no, .no, .no, .v (.ag (x2.flatMap encI)), .v (B (kHas a0.f1 x2))] ⟨[(0, (.pt 0 0 2)), (1, (.sl true a1.length 2 (a1.flatMap e44))), (5, (.pt 1024 0 (x2.length * 1))), (27, (B (kHas a0.f1 x2)))], [(0, [(.sl true a0.f0.length 1 (a0.f0.flatMap encI)), (.pt 2000000001 0 1)]), (2000000001, (mrow a0.f1)), (1024, (x2.flatMap encI))], [2 = 2 ∧ 1 + 1 ≤ 2, rdC prog 67 ((x2.flatMap encI).drop 0) = (.ag (x2.flatMap encI)), x2.length * 1 = (x2.flatMap encI).length ∧ 0 + 4 ≤ (x2.flatMap encI).length, (B (hasK (a0.f1.map kV) (x2.flatMap encI)) : V) = (B (kHas a0.f1 x2)), (∀ v, v ∈ a0.f1.map kV → KeyP 4 v) ∧ KeyP 4 (.ag (x2.flatMap encI))], []⟩ [c_ 125, c_ 63] (alc ⟨rfl, by decide⟩ (alc (ldAll encI_ok rfl rfl c6) (alc (okAll encI_ok c6) (alc (lkV _ _) (alc (kob c7 c8) aln))))) nocal ?_
            by_cases c9 : (kHas a0.f1 x2) = true
            · rw [if_pos c9] at h
              refine .cond' (.tmp 27) true [c_ 500, c_ 501, c_ 63] (bT c9) ?_
              refine .reg' [4] [] ⟨[(4, (B false))], [(0, [(.sl true a0.f0.length 1 (a0.f0.flatMap encI)), (.pt 2000000001 0 1)]), (2000000001, (mrow a0.f1)), (1024, (x2.flatMap encI))], [], []⟩ [c_ 501, c_ 63] aln nocal ?_
              have h := Option.some.inj h
              subst h
              exact .fin' [] [(0, 0), (2000000001, 2000000001)] (B false) [] aln (shc 0 (a2c (.z (frz_sl encI_ok (fun h => h))) (a2c (.pt (memP_mem (p := (2000000001, 2000000001)) rfl)) a2n)) (shc 2000000001 (mrowC _) shn)) (.z .s)
            · rw [if_neg c9] at h
              refine .cond' (.tmp 27) false [c_ 252, c_ 253, c_ 127] (bF (vF c9)) ?_
              obtain ⟨x4, hx4, h⟩ := Option.bind_eq_some_iff.mp h
              refine .reg' [0, 5, 31] [.no, .no, .c ⟨53, [(.pt 0 0 2), (.sl true a1.length 2 (a1.flatMap e44))], [(0, [(.sl true a0.f0.length 1 (a0.f0.flatMap encI)), (.pt 2000000001 0 1)]), (2000000001, (mrow a0.f1))], (I x4.1), [(0, [(.sl true x4.2.1.f0.length 1 (x4.2.1.f0.flatMap encI)), (.pt 2000000001 0 1)]), (2000000001, (mrow x4.2.2))], [], [(0, 0), (2000000001, 2000000001)], [(0, 0), (2000000001, 2000000001)], (I x4.1), [(0, [(.sl true x4.2.1.f0.length 1 (x4.2.1.f0.flatMap encI)), (.pt 2000000001 0 1)]), (2000000001, (mrow x4.2.2))]⟩] ⟨[(0, (.pt 0 0 2)), (5, (.pt 1024 0 (x2.length * 1))), (31, (B (decide (x4.1 ≥ 0))))], [(0, [(.sl true x4.2.1.f0.length 1 (x4.2.1.f0.flatMap encI)), (.pt 2000000001 0 1)]), (2000000001, (mrow x4.2.2)), (1024, (x2.flatMap encI))], [COK (hget [(0, [(.sl true a0.f0.length 1 (a0.f0.flatMap encI)), (.pt 2000000001 0 1)]), (2000000001, (mrow a0.f1)), (1024, (x2.flatMap encI))]) [(.pt 0 0 2), (.sl true a1.length 2 (a1.flatMap e44))] ⟨53, [(.pt 0 0 2), (.sl true a1.length 2 (a1.flatMap e44))], [(0, [(.sl true a0.f0.length 1 (a0.f0.flatMap encI)), (.pt 2000000001 0 1)]), (2000000001, (mrow a0.f1))], (I x4.1), [(0, [(.sl true x4.2.1.f0.length 1 (x4.2.1.f0.flatMap encI)), (.pt 2000000001 0 1)]), (2000000001, (mrow x4.2.2))], [], [(0, 0), (2000000001, 2000000001)], [(0, 0), (2000000001, 2000000001)], (I x4.1), [(0, [(.sl true x4.2.1.f0.length 1 (x4.2.1.f0.flatMap encI)), (.pt 2000000001 0 1)]), (2000000001, (mrow x4.2.2))]⟩], [⟨53, [(.pt 0 0 2), (.sl true a1.length 2 (a1.flatMap e44))], [(0, [(.sl true a0.f0.length 1 (a0.f0.flatMap encI)), (.pt 2000000001 0 1)]), (2000000001, (mrow a0.f1))], (I x4.1), [(0, [(.sl true x4.2.1.f0.length 1 (x4.2.1.f0.flatMap encI)), (.pt 2000000001 0 1)]), (2000000001, (mrow x4.2.2))], [], [(0, 0), (2000000001, 2000000001)], [(0, 0), (2000000001, 2000000001)], (I x4.1), [(0, [(.sl true x4.2.1.f0.length 1 (x4.2.1.f0.flatMap encI)), (.pt 2000000001 0 1)]), (2000000001, (mrow x4.2.2))]⟩]⟩ [c_ 253, c_ 127] (alc (cokW true (a2c (.pt (memP_mem (p := (0, 0)) rfl)) (a2c (.z (frz_sl e44_ok (fun h => h))) a2n)) (akc ⟨_, _, rfl, rfl, (a2c (.z (frz_sl encI_ok (fun h => h))) (a2c (.pt (memP_mem (p := (2000000001, 2000000001)) rfl)) a2n))⟩ (akc ⟨_, _, rfl, rfl, (mrowC _)⟩ akn)) (akc (.inl rfl) (akc (.inl rfl) akn)) (.z .s) (akc ⟨_, _, rfl, rfl, (a2c (.z (clnS encI_c (fun h => rfl))) (a2c (.pt (memP_mem (p := (2000000001, 2000000001)) rfl)) a2n))⟩ (akc ⟨_, _, rfl, rfl, mrowB _⟩ akn)) (fun h => rfl)) aln) (acal (ihf a0 a1 _ hx4) nocal) ?_
              by_cases c10 : x4.1 ≥ 0
              · rw [if_pos c10] at h
                refine .cond' (.tmp 31) true [c_ 1012, c_ 1013, c_ 127] (bT (dT c10)) ?_
                refine .reg' [4] [] ⟨[(4, (B true))], [(0, [(.sl true x4.2.1.f0.length 1 (x4.2.1.f0.flatMap encI)), (.pt 2000000001 0 1)]), (2000000001, (mrow x4.2.2)), (1024, (x2.flatMap encI))], [], []⟩ [c_ 1013, c_ 127] aln nocal ?_
                have h := Option.some.inj h
                subst h
                exact .fin' [] [(0, 0), (2000000001, 2000000001)] (B true) [] aln (shc 0 (a2c (.z (frz_sl encI_ok (fun h => h))) (a2c (.pt (memP_mem (p := (2000000001, 2000000001)) rfl)) a2n)) (shc 2000000001 (mrowC _) shn)) (.z .s)
              · rw [if_neg c10] at h
                refine .cond' (.tmp 31) false [c_ 254, c_ 255] (bF (dF c10)) ?_
                by_cases c11 : kOk 4 x4.2.2 = true
                · rw [if_pos c11] at h
                  refine .reg' [] [.no, .no, .no, .no, .v (.ag (x2.flatMap encI)), .w .un (mrow (kIns x4.2.2 x2))] ⟨[], [(0, [(.sl true x4.2.1.f0.length 1 (x4.2.1.f0.flatMap encI)), (.pt 2000000001 0 1)]), (2000000001, (mrow (kIns x4.2.2 x2))), (1024, (x2.flatMap encI))], [2 = 2 ∧ 1 + 1 ≤ 2, rdC prog 67 ((x2.flatMap encI).drop 0) = (.ag (x2.flatMap encI)), x2.length * 1 = (x2.flatMap encI).length ∧ 0 + 4 ≤ (x2.flatMap encI).length, V.un = V.un, [V.fn (.func 0) [] (bif hasK (x4.2.2.map kV) (x2.flatMap encI) then x4.2.2.map kV else x4.2.2.map kV ++ [.ag (x2.flatMap encI)])] = mrow (kIns x4.2.2 x2), (∀ v, v ∈ x4.2.2.map kV → KeyP 4 v) ∧ KeyP 4 (.ag (x2.flatMap encI))], []⟩ [c_ 510, c_ 511] (alc ⟨rfl, by decide⟩ (alc (ldAll encI_ok rfl rfl c6) (alc (okAll encI_ok c6) (alc rfl (alc (upV _ _) (alc (kob c11 c8) aln)))))) nocal ?_
                  refine .reg' [4] [] ⟨[(4, (B false))], [(0, [(.sl true x4.2.1.f0.length 1 (x4.2.1.f0.flatMap encI)), (.pt 2000000001 0 1)]), (2000000001, (mrow (kIns x4.2.2 x2))), (1024, (x2.flatMap encI))], [], []⟩ [c_ 511] aln nocal ?_
                  have h := Option.some.inj h
                  subst h
                  exact .fin' [] [(0, 0), (2000000001, 2000000001)] (B false) [] aln (shc 0 (a2c (.z (frz_sl encI_ok (fun h => h))) (a2c (.pt (memP_mem (p := (2000000001, 2000000001)) rfl)) a2n)) (shc 2000000001 (mrowC _) shn)) (.z .s)
                · rw [if_neg c11] at h
                  cases h
          · rw [if_neg c8] at h
            cases h
        · rw [if_neg c7] at h
          cases h
      · rw [if_neg c6] at h
        cases h
theorem impl_search_first.J (k : Nat) (a0 : S65) (a1 : (List S44)) (r : (Int × S65 × (List (List Int)))) (h : impl_search_first.f k a0 a1 = some r) : J prog (.call 53 [(.pt 0 0 2), (.sl true a1.length 2 (a1.flatMap e44))] [(0, [(.sl true a0.f0.length 1 (a0.f0.flatMap encI)), (.pt 2000000001 0 1)]), (2000000001, (mrow a0.f1))] (I r.1) [(0, [(.sl true r.2.1.f0.length 1 (r.2.1.f0.flatMap encI)), (.pt 2000000001 0 1)]), (2000000001, (mrow r.2.2))]) := by
  exact (impl_search_first.lab k).1 a0 a1 r h
theorem impl_search_canFinish.J (k : Nat) (a0 : S65) (a1 : (List S44)) (r : (Bool × S65 × (List (List Int)))) (h : impl_search_canFinish.f k a0 a1 = some r) : J prog (.call 52 [(.pt 0 0 2), (.sl true a1.length 2 (a1.flatMap e44))] [(0, [(.sl true a0.f0.length 1 (a0.f0.flatMap encI)), (.pt 2000000001 0 1)]), (2000000001, (mrow a0.f1))] (B r.1) [(0, [(.sl true r.2.1.f0.length 1 (r.2.1.f0.flatMap encI)), (.pt 2000000001 0 1)]), (2000000001, (mrow r.2.2))]) := by
  exact (impl_search_first.lab k).2.2.1 a0 a1 r h
/-! impl_Finish: function 33 -/
def impl_Finish.l0 : Nat → (List (List Int)) → (List Int) → (List Int) → (List S44) → Option (List Int)
 | 0, _, _, _, _ => none
 | k + 1, x3, x4, x5, x6 => ((impl_home.f k x6).bind fun x7 => (if x7 = true then (some x5) else ((impl_search_first.f k (⟨x4, x3⟩ : S65) x6).bind fun x8 => (if x8.1 < 0 then (some ([] : List Int)) else (if (x5.length + ([x8.1] : List Int).length) * 8 ≤ 70368744177664 then ((impl_moved.f x6 x8.1).bind fun x9 => (impl_Finish.l0 k x8.2.2 x8.2.1.f0 (x5 ++ ([x8.1] : List Int)) x9)) else none)))))
def impl_Finish.f (k : Nat) (a0 : (List Int)) (a1 : (List S44)) : Option (List Int) := ((impl_SinglesOk.f k a0 a1).bind fun x1 => (if x1 = true then ((impl_newSearch.f a0).bind fun x2 => (impl_Finish.l0 k x2.f1 x2.f0 ([] : List Int) a1)) else (some ([] : List Int))))
end Go.Proofs.Ytpjmefdpjlhkhaa.Fns
