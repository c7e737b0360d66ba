/- The functions that the law FnExactSettle reaches, by the engine. Printed by a program of this seat. -/
import Derived.Test.YtebgaiokpncacaaE5
import Derived.Test.YtebgaiokpncacaaProg
import Derived.Test.YtebgaiokpncacaaFFnExactSettlex5
namespace Go.Proofs.Ytebgaiokpncacaa.Fns
open Go.Proofs.Try Go.Proofs.Ytebgaiokpncacaa.Eng Go.RowKit
set_option maxRecDepth 100000
set_option linter.unusedVariables false
set_option linter.unusedSimpArgs false
theorem impl_PushOf.J (k : Nat) (a0 : S46) (a1 : (List S66)) (a2 : S66) (a3 : Int) (r : Int) (h : impl_PushOf.f k a0 a1 a2 a3 = some r) : J prog (.call 42 [(.ag [(I a0.f0), (.sl true a0.f1.length 4 (a0.f1.flatMap e95))]), (.sl true a1.length 2 (a1.flatMap (e66 true))), (.ag [(S a2.f0), (.sl true a2.f1.length 3 (a2.f1.flatMap e89))]), (I a3)] [] (I r) []) := by
  unfold impl_PushOf.f at h
  have ih0 := impl_PushOf.lab k
  refine .call' [c_ 2, c_ 3] ?_
  refine .reg' [1, 3, 4, 6] [] ⟨[(1, (.sl true a1.length 2 (a1.flatMap (e66 true)))), (3, (I a3)), (4, (.pt 256 0 2)), (6, (.pt 257 0 2))], [(256, [(I a0.f0), (.sl true a0.f1.length 4 (a0.f1.flatMap e95))]), (257, [(S a2.f0), (.sl true a2.f1.length 3 (a2.f1.flatMap e89))])], [], []⟩ [c_ 12, c_ 13, c_ 7] aln nocal ?_
  obtain ⟨x1, hx1, h⟩ := Option.bind_eq_some_iff.mp h
  by_cases c1 : x1 = true
  · rw [if_pos c1] at h
    obtain ⟨x2, hx2, h⟩ := Option.bind_eq_some_iff.mp h
    by_cases c2 : x2 = true
    · rw [if_pos c2] at h
      by_cases c3 : (a1.length : Int) ≥ 24
      · rw [if_pos c3] at h
        refine .reg' [1, 3, 4, 6, 35] [.no, .no, .no, .c ⟨38, [(.ag [(I a0.f0), (.sl true a0.f1.length 4 (a0.f1.flatMap e95))]), (.sl true a1.length 2 (a1.flatMap (e66 true))), (I a3)], [], (B x1), [], [], [], [], (B x1), []⟩, .no, .v (B false), .no, .c ⟨76, [(.ag [(S a2.f0), (.sl true a2.f1.length 3 (a2.f1.flatMap e89))])], [], (B x2), [], [], [], [], (B x2), []⟩, .no, .no, .v (B false), .no, .no, .no, .no, .v (B true)] ⟨[(1, (.sl true a1.length 2 (a1.flatMap (e66 true)))), (3, (I a3)), (4, (.pt 256 0 2)), (6, (.pt 257 0 2)), (35, (B true))], [(256, [(I a0.f0), (.sl true a0.f1.length 4 (a0.f1.flatMap e95))]), (257, [(S a2.f0), (.sl true a2.f1.length 3 (a2.f1.flatMap e89))])], [2 = 2 ∧ 0 + 2 ≤ 2, COK (hget [(256, [(I a0.f0), (.sl true a0.f1.length 4 (a0.f1.flatMap e95))]), (257, [(S a2.f0), (.sl true a2.f1.length 3 (a2.f1.flatMap e89))])]) [(.ag [(I a0.f0), (.sl true a0.f1.length 4 (a0.f1.flatMap e95))]), (.sl true a1.length 2 (a1.flatMap (e66 true))), (I a3)] ⟨38, [(.ag [(I a0.f0), (.sl true a0.f1.length 4 (a0.f1.flatMap e95))]), (.sl true a1.length 2 (a1.flatMap (e66 true))), (I a3)], [], (B x1), [], [], [], [], (B x1), []⟩, (B (!x1) : V) = B false, 2 = 2 ∧ 0 + 2 ≤ 2, COK (hget [(256, [(I a0.f0), (.sl true a0.f1.length 4 (a0.f1.flatMap e95))]), (257, [(S a2.f0), (.sl true a2.f1.length 3 (a2.f1.flatMap e89))])]) [(.ag [(S a2.f0), (.sl true a2.f1.length 3 (a2.f1.flatMap e89))])] ⟨76, [(.ag [(S a2.f0), (.sl true a2.f1.length 3 (a2.f1.flatMap e89))])], [], (B x2), [], [], [], [], (B x2), []⟩, (B (!x2) : V) = B false, (B (decide ((a1.length : Int) ≥ 24)) : V) = B true], [⟨38, [(.ag [(I a0.f0), (.sl true a0.f1.length 4 (a0.f1.flatMap e95))]), (.sl true a1.length 2 (a1.flatMap (e66 true))), (I a3)], [], (B x1), [], [], [], [], (B x1), []⟩, ⟨76, [(.ag [(S a2.f0), (.sl true a2.f1.length 3 (a2.f1.flatMap e89))])], [], (B x2), [], [], [], [], (B x2), []⟩]⟩ [c_ 13, c_ 7] (alc ⟨rfl, by decide⟩ (alc (cok0 false (a2c (.z (frz_ag (a2c .s (a2c (frz_sl e95_ok (fun h => h)) a2n)))) (a2c (.z (frz_sl (e66_ok true) (fun h => h))) (a2c (.z .s) a2n))) (.z .s) (fun h => absurd h (by decide))) (alc (bF (nF c1)) (alc ⟨rfl, by decide⟩ (alc (cok0 false (a2c (.z (frz_ag (a2c .s (a2c (frz_sl e89_ok (fun h => h)) a2n)))) a2n) (.z .s) (fun h => absurd h (by decide))) (alc (bF (nF c2)) (alc (bT (dT c3)) aln))))))) (acal (impl_Clean.J k a0 a1 a3 _ hx1) (acal (impl_TripOk.J k a2 _ hx2) nocal)) ?_
        refine .cond' (.tmp 35) true [c_ 52, c_ 53, c_ 7] (rfl) ?_
        refine .reg' [8] [] ⟨[(8, (I (-1)))], [(256, [(I a0.f0), (.sl true a0.f1.length 4 (a0.f1.flatMap e95))]), (257, [(S a2.f0), (.sl true a2.f1.length 3 (a2.f1.flatMap e89))])], [], []⟩ [c_ 53, c_ 7] aln nocal ?_
        have h := Option.some.inj h
        subst h
        exact .fin0 [] (I (-1)) [] aln (.z .s)
      · rw [if_neg c3] at h
        obtain ⟨x3, hx3, h⟩ := Option.bind_eq_some_iff.mp h
        refine .reg' [1, 3, 4, 6, 35] [.no, .no, .no, .c ⟨38, [(.ag [(I a0.f0), (.sl true a0.f1.length 4 (a0.f1.flatMap e95))]), (.sl true a1.length 2 (a1.flatMap (e66 true))), (I a3)], [], (B x1), [], [], [], [], (B x1), []⟩, .no, .v (B false), .no, .c ⟨76, [(.ag [(S a2.f0), (.sl true a2.f1.length 3 (a2.f1.flatMap e89))])], [], (B x2), [], [], [], [], (B x2), []⟩, .no, .no, .v (B false), .no, .no, .no, .no, .v (B false), .no, .no, .no, .c ⟨77, [(.sl true a1.length 2 (a1.flatMap (e66 true))), (S a2.f0)], [], (I x3), [], [], [], [], (I x3), []⟩] ⟨[(1, (.sl true a1.length 2 (a1.flatMap (e66 true)))), (3, (I a3)), (4, (.pt 256 0 2)), (6, (.pt 257 0 2)), (35, (B (decide (x3 ≥ 0))))], [(256, [(I a0.f0), (.sl true a0.f1.length 4 (a0.f1.flatMap e95))]), (257, [(S a2.f0), (.sl true a2.f1.length 3 (a2.f1.flatMap e89))])], [2 = 2 ∧ 0 + 2 ≤ 2, COK (hget [(256, [(I a0.f0), (.sl true a0.f1.length 4 (a0.f1.flatMap e95))]), (257, [(S a2.f0), (.sl true a2.f1.length 3 (a2.f1.flatMap e89))])]) [(.ag [(I a0.f0), (.sl true a0.f1.length 4 (a0.f1.flatMap e95))]), (.sl true a1.length 2 (a1.flatMap (e66 true))), (I a3)] ⟨38, [(.ag [(I a0.f0), (.sl true a0.f1.length 4 (a0.f1.flatMap e95))]), (.sl true a1.length 2 (a1.flatMap (e66 true))), (I a3)], [], (B x1), [], [], [], [], (B x1), []⟩, (B (!x1) : V) = B false, 2 = 2 ∧ 0 + 2 ≤ 2, COK (hget [(256, [(I a0.f0), (.sl true a0.f1.length 4 (a0.f1.flatMap e95))]), (257, [(S a2.f0), (.sl true a2.f1.length 3 (a2.f1.flatMap e89))])]) [(.ag [(S a2.f0), (.sl true a2.f1.length 3 (a2.f1.flatMap e89))])] ⟨76, [(.ag [(S a2.f0), (.sl true a2.f1.length 3 (a2.f1.flatMap e89))])], [], (B x2), [], [], [], [], (B x2), []⟩, (B (!x2) : V) = B false, (B (decide ((a1.length : Int) ≥ 24)) : V) = B false, 2 = 2 ∧ 0 + 1 ≤ 2, COK (hget [(256, [(I a0.f0), (.sl true a0.f1.length 4 (a0.f1.flatMap e95))]), (257, [(S a2.f0), (.sl true a2.f1.length 3 (a2.f1.flatMap e89))])]) [(.sl true a1.length 2 (a1.flatMap (e66 true))), (S a2.f0)] ⟨77, [(.sl true a1.length 2 (a1.flatMap (e66 true))), (S a2.f0)], [], (I x3), [], [], [], [], (I x3), []⟩], [⟨38, [(.ag [(I a0.f0), (.sl true a0.f1.length 4 (a0.f1.flatMap e95))]), (.sl true a1.length 2 (a1.flatMap (e66 true))), (I a3)], [], (B x1), [], [], [], [], (B x1), []⟩, ⟨76, [(.ag [(S a2.f0), (.sl true a2.f1.length 3 (a2.f1.flatMap e89))])], [], (B x2), [], [], [], [], (B x2), []⟩, ⟨77, [(.sl true a1.length 2 (a1.flatMap (e66 true))), (S a2.f0)], [], (I x3), [], [], [], [], (I x3), []⟩]⟩ [c_ 13, c_ 7] (alc ⟨rfl, by decide⟩ (alc (cok0 false (a2c (.z (frz_ag (a2c .s (a2c (frz_sl e95_ok (fun h => h)) a2n)))) (a2c (.z (frz_sl (e66_ok true) (fun h => h))) (a2c (.z .s) a2n))) (.z .s) (fun h => absurd h (by decide))) (alc (bF (nF c1)) (alc ⟨rfl, by decide⟩ (alc (cok0 false (a2c (.z (frz_ag (a2c .s (a2c (frz_sl e89_ok (fun h => h)) a2n)))) a2n) (.z .s) (fun h => absurd h (by decide))) (alc (bF (nF c2)) (alc (bF (dF c3)) (alc ⟨rfl, by decide⟩ (alc (cok0 false (a2c (.z (frz_sl (e66_ok true) (fun h => h))) (a2c (.z .s) a2n)) (.z .s) (fun h => absurd h (by decide))) aln))))))))) (acal (impl_Clean.J k a0 a1 a3 _ hx1) (acal (impl_TripOk.J k a2 _ hx2) (acal (impl_tripNamed.J k a1 a2.f0 _ hx3) nocal))) ?_
        by_cases c4 : x3 ≥ 0
        · rw [if_pos c4] at h
          refine .cond' (.tmp 35) true [c_ 52, c_ 53, c_ 7] (bT (dT c4)) ?_
          refine .reg' [8] [] ⟨[(8, (I (-1)))], [(256, [(I a0.f0), (.sl true a0.f1.length 4 (a0.f1.flatMap e95))]), (257, [(S a2.f0), (.sl true a2.f1.length 3 (a2.f1.flatMap e89))])], [], []⟩ [c_ 53, c_ 7] aln nocal ?_
          have h := Option.some.inj h
          subst h
          exact .fin0 [] (I (-1)) [] aln (.z .s)
        · rw [if_neg c4] at h
          refine .cond' (.tmp 35) false [c_ 14, c_ 15] (bF (dF c4)) ?_
          obtain ⟨x4, hx4, h⟩ := Option.bind_eq_some_iff.mp h
          refine .reg' [1, 3, 4, 6, 9] [.no, .no, .c ⟨32, [(.ag [(I a0.f0), (.sl true a0.f1.length 4 (a0.f1.flatMap e95))]), (.sl true a1.length 2 (a1.flatMap (e66 true)))], [], (.rf 1000514 0 x4.length 5 (x4.length * 5)), [(1000514, (x4.flatMap e22))], [], [], [(1001026, 1000514)], (.rf 1001026 0 x4.length 5 (x4.length * 5)), [(1001026, (x4.flatMap e22))]⟩] ⟨[(1, (.sl true a1.length 2 (a1.flatMap (e66 true)))), (3, (I a3)), (4, (.pt 256 0 2)), (6, (.pt 257 0 2)), (9, (.rf 1001026 0 x4.length 5 (x4.length * 5)))], [(256, [(I a0.f0), (.sl true a0.f1.length 4 (a0.f1.flatMap e95))]), (257, [(S a2.f0), (.sl true a2.f1.length 3 (a2.f1.flatMap e89))]), (1001026, (x4.flatMap e22))], [2 = 2 ∧ 0 + 2 ≤ 2, COK (hget [(256, [(I a0.f0), (.sl true a0.f1.length 4 (a0.f1.flatMap e95))]), (257, [(S a2.f0), (.sl true a2.f1.length 3 (a2.f1.flatMap e89))])]) [(.ag [(I a0.f0), (.sl true a0.f1.length 4 (a0.f1.flatMap e95))]), (.sl true a1.length 2 (a1.flatMap (e66 true)))] ⟨32, [(.ag [(I a0.f0), (.sl true a0.f1.length 4 (a0.f1.flatMap e95))]), (.sl true a1.length 2 (a1.flatMap (e66 true)))], [], (.rf 1000514 0 x4.length 5 (x4.length * 5)), [(1000514, (x4.flatMap e22))], [], [], [(1001026, 1000514)], (.rf 1001026 0 x4.length 5 (x4.length * 5)), [(1001026, (x4.flatMap e22))]⟩], [⟨32, [(.ag [(I a0.f0), (.sl true a0.f1.length 4 (a0.f1.flatMap e95))]), (.sl true a1.length 2 (a1.flatMap (e66 true)))], [], (.rf 1000514 0 x4.length 5 (x4.length * 5)), [(1000514, (x4.flatMap e22))], [], [], [(1001026, 1000514)], (.rf 1001026 0 x4.length 5 (x4.length * 5)), [(1001026, (x4.flatMap e22))]⟩]⟩ [c_ 30, c_ 31] (alc ⟨rfl, by decide⟩ (alc (cokW false (a2c (.z (frz_ag (a2c .s (a2c (frz_sl e95_ok (fun h => h)) a2n)))) (a2c (.z (frz_sl (e66_ok true) (fun h => h))) a2n)) akn (akc (.inr rfl) akn) (.rf (memP_mem (p := (1001026, 1000514)) rfl)) (akc ⟨_, _, rfl, rfl, rowB e22_c _⟩ akn) (fun h => absurd h (by decide))) aln)) (acal (impl_Uses.J k a0 a1 _ hx4) nocal) ?_
          obtain ⟨x5, hx5, h⟩ := Option.bind_eq_some_iff.mp h
          refine .reg' [3, 6, 9, 10, 11] [.no, .no, .no, .no, .c ⟨78, [(.ag [(I a0.f0), (.sl true a0.f1.length 4 (a0.f1.flatMap e95))]), (.ag [(S a2.f0), (.sl true a2.f1.length 3 (a2.f1.flatMap e89))]), (I (a1.length : Int))], [], (.tp [(.rf 512 0 x5.1.length 5 (x5.1.length * 5)), (B x5.2)]), [(512, (x5.1.flatMap e22))], [], [], [(1001284, 512)], (.tp [(.rf 1001284 0 x5.1.length 5 (x5.1.length * 5)), (B x5.2)]), [(1001284, (x5.1.flatMap e22))]⟩] ⟨[(3, (I a3)), (6, (.pt 257 0 2)), (9, (.rf 1001026 0 x4.length 5 (x4.length * 5))), (10, (.rf 1001284 0 x5.1.length 5 (x5.1.length * 5))), (11, (B x5.2))], [(256, [(I a0.f0), (.sl true a0.f1.length 4 (a0.f1.flatMap e95))]), (257, [(S a2.f0), (.sl true a2.f1.length 3 (a2.f1.flatMap e89))]), (1001026, (x4.flatMap e22)), (1001284, (x5.1.flatMap e22))], [2 = 2 ∧ 0 + 2 ≤ 2, 2 = 2 ∧ 0 + 2 ≤ 2, COK (hget [(256, [(I a0.f0), (.sl true a0.f1.length 4 (a0.f1.flatMap e95))]), (257, [(S a2.f0), (.sl true a2.f1.length 3 (a2.f1.flatMap e89))]), (1001026, (x4.flatMap e22))]) [(.ag [(I a0.f0), (.sl true a0.f1.length 4 (a0.f1.flatMap e95))]), (.ag [(S a2.f0), (.sl true a2.f1.length 3 (a2.f1.flatMap e89))]), (I (a1.length : Int))] ⟨78, [(.ag [(I a0.f0), (.sl true a0.f1.length 4 (a0.f1.flatMap e95))]), (.ag [(S a2.f0), (.sl true a2.f1.length 3 (a2.f1.flatMap e89))]), (I (a1.length : Int))], [], (.tp [(.rf 512 0 x5.1.length 5 (x5.1.length * 5)), (B x5.2)]), [(512, (x5.1.flatMap e22))], [], [], [(1001284, 512)], (.tp [(.rf 1001284 0 x5.1.length 5 (x5.1.length * 5)), (B x5.2)]), [(1001284, (x5.1.flatMap e22))]⟩], [⟨78, [(.ag [(I a0.f0), (.sl true a0.f1.length 4 (a0.f1.flatMap e95))]), (.ag [(S a2.f0), (.sl true a2.f1.length 3 (a2.f1.flatMap e89))]), (I (a1.length : Int))], [], (.tp [(.rf 512 0 x5.1.length 5 (x5.1.length * 5)), (B x5.2)]), [(512, (x5.1.flatMap e22))], [], [], [(1001284, 512)], (.tp [(.rf 1001284 0 x5.1.length 5 (x5.1.length * 5)), (B x5.2)]), [(1001284, (x5.1.flatMap e22))]⟩]⟩ [c_ 124, c_ 125, c_ 63] (alc ⟨rfl, by decide⟩ (alc ⟨rfl, by decide⟩ (alc (cokW false (a2c (.z (frz_ag (a2c .s (a2c (frz_sl e95_ok (fun h => h)) a2n)))) (a2c (.z (frz_ag (a2c .s (a2c (frz_sl e89_ok (fun h => h)) a2n)))) (a2c (.z .s) a2n))) akn (akc (.inr rfl) akn) (bck_tp (a2c (.rf (memP_mem (p := (1001284, 512)) rfl)) (a2c (.z .s) a2n))) (akc ⟨_, _, rfl, rfl, rowB e22_c _⟩ akn) (fun h => absurd h (by decide))) aln))) (acal (impl_Net_usesOf.J k a0 a2 (a1.length : Int) _ hx5) nocal) ?_
          refine .reg' [3, 6, 9, 10, 48] [] ⟨[(3, (I a3)), (6, (.pt 257 0 2)), (9, (.rf 1001026 0 x4.length 5 (x4.length * 5))), (10, (.rf 1001284 0 x5.1.length 5 (x5.1.length * 5))), (48, (B (!x5.2)))], [(256, [(I a0.f0), (.sl true a0.f1.length 4 (a0.f1.flatMap e95))]), (257, [(S a2.f0), (.sl true a2.f1.length 3 (a2.f1.flatMap e89))]), (1001026, (x4.flatMap e22)), (1001284, (x5.1.flatMap e22))], [], []⟩ [c_ 125, c_ 63] aln nocal ?_
          by_cases c5 : x5.2 = true
          · rw [if_pos c5] at h
            refine .cond' (.tmp 48) false [c_ 126, c_ 127] (bF (nF c5)) ?_
            by_cases c6 : 0 ≤ (wrap64 ((a2.f1.length : Int) - 1))
            · rw [if_pos c6] at h
              by_cases c7 : (wrap64 ((a2.f1.length : Int) - 1)) < (a2.f1.length : Int)
              · rw [if_pos c7] at h
                refine .reg' [3, 9, 10, 12] [.no, .no, .no, .no, .no, .no, .no, .no, .v (I (at_ a2.f1 (wrap64 ((a2.f1.length : Int) - 1))).f2)] ⟨[(3, (I a3)), (9, (.rf 1001026 0 x4.length 5 (x4.length * 5))), (10, (.rf 1001284 0 x5.1.length 5 (x5.1.length * 5))), (12, (I (at_ a2.f1 (wrap64 ((a2.f1.length : Int) - 1))).f2))], [(256, [(I a0.f0), (.sl true a0.f1.length 4 (a0.f1.flatMap e95))]), (257, [(S a2.f0), (.sl true a2.f1.length 3 (a2.f1.flatMap e89))]), (1001026, (x4.flatMap e22)), (1001284, (x5.1.flatMap e22))], [2 = 2 ∧ 1 + 1 ≤ 2, 2 = 2 ∧ 1 + 1 ≤ 2, (0 : Int) ≤ (wrap64 ((a2.f1.length : Int) - 1)) ∧ (wrap64 ((a2.f1.length : Int) - 1)) < (a2.f1.length : Int), rdC prog 3 (((a2.f1.flatMap e89).drop ((wrap64 ((a2.f1.length : Int) - 1)).toNat * 3)).drop 2) = (I (at_ a2.f1 (wrap64 ((a2.f1.length : Int) - 1))).f2), 1 ≤ (((a2.f1.flatMap e89).drop ((wrap64 ((a2.f1.length : Int) - 1)).toNat * 3)).drop 2).length], []⟩ [c_ 508, c_ 509, c_ 255] (alc ⟨rfl, by decide⟩ (alc ⟨rfl, by decide⟩ (alc ⟨c6, c7⟩ (alc (ldC e89_ok 2 (by decide) rfl c6 c7) (alc (okIj e89_ok c6 c7 (by decide)) aln))))) nocal ?_
                refine .reg' [3, 9, 10, 12, 13] [] ⟨[(3, (I a3)), (9, (.rf 1001026 0 x4.length 5 (x4.length * 5))), (10, (.rf 1001284 0 x5.1.length 5 (x5.1.length * 5))), (12, (I (at_ a2.f1 (wrap64 ((a2.f1.length : Int) - 1))).f2)), (13, (I 0))], [(256, [(I a0.f0), (.sl true a0.f1.length 4 (a0.f1.flatMap e95))]), (257, [(S a2.f0), (.sl true a2.f1.length 3 (a2.f1.flatMap e89))]), (1001026, (x4.flatMap e22)), (1001284, (x5.1.flatMap e22))], [], []⟩ [l_ 1018, b_ 0, c_ 255] aln nocal ?_
                refine .wk' [] [(1001026, 1001026), (1001284, 1001284)] [(3, (I a3)), (9, (.rf 1001026 0 x4.length 5 (x4.length * 5))), (10, (.rf 1001284 0 x5.1.length 5 (x5.1.length * 5))), (12, (I (at_ a2.f1 (wrap64 ((a2.f1.length : Int) - 1))).f2)), (13, (I 0))] [(1001026, (x4.flatMap e22)), (1001284, (x5.1.flatMap e22))] (shc 1001026 (rowF e22_ok _) (shc 1001284 (rowF e22_ok _) shn)) (enc_ (.z .s) (enc_ (.rf (memP_mem (p := (1001026, 1001026)) rfl)) (enc_ (.rf (memP_mem (p := (1001284, 1001284)) rfl)) (enc_ (.z .s) (enc_ (.z .s) enn))))) ?_
                exact ih0 a2 a3 x4 x5 0 _ h
              · rw [if_neg c7] at h
                cases h
            · rw [if_neg c6] at h
              cases h
          · rw [if_neg c5] at h
            refine .cond' (.tmp 48) true [c_ 500, c_ 501, c_ 63] (bT (nT (vF c5))) ?_
            refine .reg' [8] [] ⟨[(8, (I (-1)))], [(256, [(I a0.f0), (.sl true a0.f1.length 4 (a0.f1.flatMap e95))]), (257, [(S a2.f0), (.sl true a2.f1.length 3 (a2.f1.flatMap e89))]), (1001026, (x4.flatMap e22)), (1001284, (x5.1.flatMap e22))], [], []⟩ [c_ 501, c_ 63] aln nocal ?_
            have h := Option.some.inj h
            subst h
            exact .fin0 [] (I (-1)) [] aln (.z .s)
    · rw [if_neg c2] at h
      refine .reg' [1, 3, 4, 6, 35] [.no, .no, .no, .c ⟨38, [(.ag [(I a0.f0), (.sl true a0.f1.length 4 (a0.f1.flatMap e95))]), (.sl true a1.length 2 (a1.flatMap (e66 true))), (I a3)], [], (B x1), [], [], [], [], (B x1), []⟩, .no, .v (B false), .no, .c ⟨76, [(.ag [(S a2.f0), (.sl true a2.f1.length 3 (a2.f1.flatMap e89))])], [], (B x2), [], [], [], [], (B x2), []⟩, .no, .no, .v (B true)] ⟨[(1, (.sl true a1.length 2 (a1.flatMap (e66 true)))), (3, (I a3)), (4, (.pt 256 0 2)), (6, (.pt 257 0 2)), (35, (B true))], [(256, [(I a0.f0), (.sl true a0.f1.length 4 (a0.f1.flatMap e95))]), (257, [(S a2.f0), (.sl true a2.f1.length 3 (a2.f1.flatMap e89))])], [2 = 2 ∧ 0 + 2 ≤ 2, COK (hget [(256, [(I a0.f0), (.sl true a0.f1.length 4 (a0.f1.flatMap e95))]), (257, [(S a2.f0), (.sl true a2.f1.length 3 (a2.f1.flatMap e89))])]) [(.ag [(I a0.f0), (.sl true a0.f1.length 4 (a0.f1.flatMap e95))]), (.sl true a1.length 2 (a1.flatMap (e66 true))), (I a3)] ⟨38, [(.ag [(I a0.f0), (.sl true a0.f1.length 4 (a0.f1.flatMap e95))]), (.sl true a1.length 2 (a1.flatMap (e66 true))), (I a3)], [], (B x1), [], [], [], [], (B x1), []⟩, (B (!x1) : V) = B false, 2 = 2 ∧ 0 + 2 ≤ 2, COK (hget [(256, [(I a0.f0), (.sl true a0.f1.length 4 (a0.f1.flatMap e95))]), (257, [(S a2.f0), (.sl true a2.f1.length 3 (a2.f1.flatMap e89))])]) [(.ag [(S a2.f0), (.sl true a2.f1.length 3 (a2.f1.flatMap e89))])] ⟨76, [(.ag [(S a2.f0), (.sl true a2.f1.length 3 (a2.f1.flatMap e89))])], [], (B x2), [], [], [], [], (B x2), []⟩, (B (!x2) : V) = B true], [⟨38, [(.ag [(I a0.f0), (.sl true a0.f1.length 4 (a0.f1.flatMap e95))]), (.sl true a1.length 2 (a1.flatMap (e66 true))), (I a3)], [], (B x1), [], [], [], [], (B x1), []⟩, ⟨76, [(.ag [(S a2.f0), (.sl true a2.f1.length 3 (a2.f1.flatMap e89))])], [], (B x2), [], [], [], [], (B x2), []⟩]⟩ [c_ 13, c_ 7] (alc ⟨rfl, by decide⟩ (alc (cok0 false (a2c (.z (frz_ag (a2c .s (a2c (frz_sl e95_ok (fun h => h)) a2n)))) (a2c (.z (frz_sl (e66_ok true) (fun h => h))) (a2c (.z .s) a2n))) (.z .s) (fun h => absurd h (by decide))) (alc (bF (nF c1)) (alc ⟨rfl, by decide⟩ (alc (cok0 false (a2c (.z (frz_ag (a2c .s (a2c (frz_sl e89_ok (fun h => h)) a2n)))) a2n) (.z .s) (fun h => absurd h (by decide))) (alc (bT (nT (vF c2))) aln)))))) (acal (impl_Clean.J k a0 a1 a3 _ hx1) (acal (impl_TripOk.J k a2 _ hx2) nocal)) ?_
      refine .cond' (.tmp 35) true [c_ 52, c_ 53, c_ 7] (rfl) ?_
      refine .reg' [8] [] ⟨[(8, (I (-1)))], [(256, [(I a0.f0), (.sl true a0.f1.length 4 (a0.f1.flatMap e95))]), (257, [(S a2.f0), (.sl true a2.f1.length 3 (a2.f1.flatMap e89))])], [], []⟩ [c_ 53, c_ 7] aln nocal ?_
      have h := Option.some.inj h
      subst h
      exact .fin0 [] (I (-1)) [] aln (.z .s)
  · rw [if_neg c1] at h
    refine .reg' [1, 3, 4, 6, 35] [.no, .no, .no, .c ⟨38, [(.ag [(I a0.f0), (.sl true a0.f1.length 4 (a0.f1.flatMap e95))]), (.sl true a1.length 2 (a1.flatMap (e66 true))), (I a3)], [], (B x1), [], [], [], [], (B x1), []⟩, .no, .v (B true)] ⟨[(1, (.sl true a1.length 2 (a1.flatMap (e66 true)))), (3, (I a3)), (4, (.pt 256 0 2)), (6, (.pt 257 0 2)), (35, (B true))], [(256, [(I a0.f0), (.sl true a0.f1.length 4 (a0.f1.flatMap e95))]), (257, [(S a2.f0), (.sl true a2.f1.length 3 (a2.f1.flatMap e89))])], [2 = 2 ∧ 0 + 2 ≤ 2, COK (hget [(256, [(I a0.f0), (.sl true a0.f1.length 4 (a0.f1.flatMap e95))]), (257, [(S a2.f0), (.sl true a2.f1.length 3 (a2.f1.flatMap e89))])]) [(.ag [(I a0.f0), (.sl true a0.f1.length 4 (a0.f1.flatMap e95))]), (.sl true a1.length 2 (a1.flatMap (e66 true))), (I a3)] ⟨38, [(.ag [(I a0.f0), (.sl true a0.f1.length 4 (a0.f1.flatMap e95))]), (.sl true a1.length 2 (a1.flatMap (e66 true))), (I a3)], [], (B x1), [], [], [], [], (B x1), []⟩, (B (!x1) : V) = B true], [⟨38, [(.ag [(I a0.f0), (.sl true a0.f1.length 4 (a0.f1.flatMap e95))]), (.sl true a1.length 2 (a1.flatMap (e66 true))), (I a3)], [], (B x1), [], [], [], [], (B x1), []⟩]⟩ [c_ 13, c_ 7] (alc ⟨rfl, by decide⟩ (alc (cok0 false (a2c (.z (frz_ag (a2c .s (a2c (frz_sl e95_ok (fun h => h)) a2n)))) (a2c (.z (frz_sl (e66_ok true) (fun h => h))) (a2c (.z .s) a2n))) (.z .s) (fun h => absurd h (by decide))) (alc (bT (nT (vF c1))) aln))) (acal (impl_Clean.J k a0 a1 a3 _ hx1) nocal) ?_
    refine .cond' (.tmp 35) true [c_ 52, c_ 53, c_ 7] (rfl) ?_
    refine .reg' [8] [] ⟨[(8, (I (-1)))], [(256, [(I a0.f0), (.sl true a0.f1.length 4 (a0.f1.flatMap e95))]), (257, [(S a2.f0), (.sl true a2.f1.length 3 (a2.f1.flatMap e89))])], [], []⟩ [c_ 53, c_ 7] aln nocal ?_
    have h := Option.some.inj h
    subst h
    exact .fin0 [] (I (-1)) [] aln (.z .s)
/-! impl_cloneTrip: function 84 -/
def impl_cloneTrip.f (a0 : S66) : Option S66 := (if (([] : List S89).length + a0.f1.length) * 24 ≤ 70368744177664 then (some (⟨a0.f0, (([] : List S89) ++ a0.f1)⟩ : S66)) else none)
theorem impl_cloneTrip.J (a0 : S66) (r : S66) (h : impl_cloneTrip.f a0 = some r) : J prog (.call 84 [(.ag [(S a0.f0), (.sl true a0.f1.length 3 (a0.f1.flatMap e89))])] [] (.ag [(S r.f0), (.rf 514 0 r.f1.length 3 (r.f1.length * 3))]) [(514, (r.f1.flatMap e89))]) := by
  unfold impl_cloneTrip.f at h
  refine .call' [c_ 2, c_ 3] ?_
  refine .reg' [1, 2] [] ⟨[(1, (.pt 256 0 2)), (2, (.pt 257 0 2))], [(256, [(S a0.f0), (.sl true a0.f1.length 3 (a0.f1.flatMap e89))]), (257, [(S ByteArray.empty), nilS])], [], []⟩ [c_ 6, c_ 7] aln nocal ?_
  by_cases c1 : (([] : List S89).length + a0.f1.length) * 24 ≤ 70368744177664
  · rw [if_pos c1] at h
    refine .reg' [2] [.no, .no, .no, .no, .no, .w (.rf 514 0 ((([] : List S89) ++ a0.f1).length) 3 ((([] : List S89) ++ a0.f1).length * 3)) ((([] : List S89) ++ a0.f1).flatMap e89)] ⟨[(2, (.pt 257 0 2))], [(256, [(S a0.f0), (.sl true a0.f1.length 3 (a0.f1.flatMap e89))]), (257, [(S a0.f0), (.rf 514 0 ((([] : List S89) ++ a0.f1).length) 3 ((([] : List S89) ++ a0.f1).length * 3))]), (514, ((([] : List S89) ++ a0.f1).flatMap e89))], [2 = 2 ∧ 0 + 1 ≤ 2, 2 = 2 ∧ 1 + 1 ≤ 2, V.rf 514 0 (([] : List S89).length + a0.f1.length) 3 (([] : List S89).length * 3 + a0.f1.length * 3) = (.rf 514 0 ((([] : List S89) ++ a0.f1).length) 3 ((([] : List S89) ++ a0.f1).length * 3)), ([] : List S89).flatMap e89 ++ (a0.f1.flatMap e89) = ((([] : List S89) ++ a0.f1).flatMap e89), True ∧ ([] : List S89).length * 3 = (([] : List S89).flatMap e89).length ∧ ([] : List S89).length * 3 = (([] : List S89).flatMap e89).length ∧ (([] : List S89).length + a0.f1.length) * 24 ≤ 70368744177664, 2 = 2 ∧ 0 + 2 ≤ 2], []⟩ [c_ 7] (alc ⟨rfl, by decide⟩ (alc ⟨rfl, by decide⟩ (alc (apV rfl) (alc apS (alc (apOS e89_ok c1) (alc ⟨rfl, by decide⟩ aln)))))) nocal ?_
    have h := Option.some.inj h
    subst h
    exact .fin' [] [(514, 514)] (.ag [(S a0.f0), (.rf 514 0 ((([] : List S89) ++ a0.f1).length) 3 ((([] : List S89) ++ a0.f1).length * 3))]) [2 = 2 ∧ 0 + 2 ≤ 2] (alc ⟨rfl, by decide⟩ aln) (shc 514 (rowF e89_ok _) shn) (cnv_ag (a2c (.z .s) (a2c (.rf (memP_mem (p := (514, 514)) rfl)) a2n)))
  · rw [if_neg c1] at h
    cases h
/-! impl_Moved: function 54 -/
def impl_Moved.l0 : Nat → Int → S66 → (List S89) → Int → Option S66
 | 0, _, _, _, _ => none
 | k + 1, a1, x3, x4, x5 => (if x5 < (x3.f1.length : Int) then (if 0 ≤ x5 then (if x5 < (x4.length : Int) then (impl_Moved.l0 k a1 x3 (x4.set x5.toNat (⟨(at_ x4 x5).f0, (wrap64 ((at_ x4 x5).f1 + a1)), (wrap64 ((at_ x4 x5).f2 + a1))⟩ : S89)) (wrap64 (x5 + 1))) else none) else none) else ((impl_TripOk.f k (⟨x3.f0, x4⟩ : S66)).bind fun x6 => (if x6 = true then (some (⟨x3.f0, x4⟩ : S66)) else (some (⟨ByteArray.empty, ([] : List S89)⟩ : S66)))))
def impl_Moved.f (k : Nat) (a0 : S66) (a1 : Int) : Option S66 := ((impl_TripOk.f k a0).bind fun x1 => (if x1 = true then ((impl_between.f a1 (-100000) 100000).bind fun x2 => (if x2 = true then ((impl_cloneTrip.f a0).bind fun x3 => (impl_Moved.l0 k a1 x3 x3.f1 0)) else (some (⟨ByteArray.empty, ([] : List S89)⟩ : S66)))) else (some (⟨ByteArray.empty, ([] : List S89)⟩ : S66))))
theorem impl_Moved.lab : ∀ k, (∀ (a1 : Int) (x3 : S66) (x4 : (List S89)) (x5 : Int) (r : S66), impl_Moved.l0 k a1 x3 x4 x5 = some r → J prog (.run 54 [] [l_ 122, b_ 0, c_ 31] [(1, (I a1)), (4, (.pt 257 0 2)), (5, (.pt 1026 0 2)), (20, (I (x3.f1.length : Int))), (21, (I x5))] [(257, [(S ByteArray.empty), nilS]), (1001025, (x4.flatMap e89)), (1026, [(S x3.f0), (.rf 1001025 0 x4.length 3 (x4.length * 3))])] (.ag [(S r.f0), (.rf 1001025 0 r.f1.length 3 (r.f1.length * 3))]) [(1001025, (r.f1.flatMap e89))]))
 | 0 => (by intro a1 x3 x4 x5 r h; unfold impl_Moved.l0 at h; cases h)
 | k + 1 => by
  have ih0 := impl_Moved.lab k
  · intro a1 x3 x4 x5 r h
    unfold impl_Moved.l0 at h
    refine .loop' [c_ 488, c_ 489, l_ 122, b_ 0, c_ 31] ?_
    refine .reg' [1, 4, 5, 20, 21, 22] [] ⟨[(1, (I a1)), (4, (.pt 257 0 2)), (5, (.pt 1026 0 2)), (20, (I (x3.f1.length : Int))), (21, (I x5)), (22, (B (decide (x5 < (x3.f1.length : Int)))))], [(257, [(S ByteArray.empty), nilS]), (1001025, (x4.flatMap e89)), (1026, [(S x3.f0), (.rf 1001025 0 x4.length 3 (x4.length * 3))])], [], []⟩ [c_ 978, c_ 979, l_ 122, b_ 0, c_ 31] aln nocal ?_
    by_cases c3 : x5 < (x3.f1.length : Int)
    · rw [if_pos c3] at h
      refine .cond' (.tmp 22) true [c_ 7832, c_ 7833, b_ 1, c_ 1959, l_ 122, b_ 0, c_ 31] (bT (dT c3)) ?_
      refine .reg' [1, 4, 5, 6, 20, 21] [] ⟨[(1, (I a1)), (4, (.pt 257 0 2)), (5, (.pt 1026 0 2)), (6, (I x5)), (20, (I (x3.f1.length : Int))), (21, (I x5))], [(257, [(S ByteArray.empty), nilS]), (1001025, (x4.flatMap e89)), (1026, [(S x3.f0), (.rf 1001025 0 x4.length 3 (x4.length * 3))])], [], []⟩ [c_ 15666, c_ 15667, b_ 1, c_ 1959, l_ 122, b_ 0, c_ 31] aln nocal ?_
      by_cases c4 : 0 ≤ x5
      · rw [if_pos c4] at h
        by_cases c5 : x5 < (x4.length : Int)
        · rw [if_pos c5] at h
          refine .reg' [1, 4, 5, 6, 20, 21] [.no, .no, .no, .no, .no, .v (I (at_ x4 x5).f1), .no, .no, .no, .no, .w .un ((x4.set x5.toNat (⟨(at_ x4 x5).f0, (wrap64 ((at_ x4 x5).f1 + a1)), (at_ x4 x5).f2⟩ : S89)).flatMap e89)] ⟨[(1, (I a1)), (4, (.pt 257 0 2)), (5, (.pt 1026 0 2)), (6, (I x5)), (20, (I (x3.f1.length : Int))), (21, (I x5))], [(257, [(S ByteArray.empty), nilS]), (1001025, ((x4.set x5.toNat (⟨(at_ x4 x5).f0, (wrap64 ((at_ x4 x5).f1 + a1)), (at_ x4 x5).f2⟩ : S89)).flatMap e89)), (1026, [(S x3.f0), (.rf 1001025 0 x4.length 3 (x4.length * 3))])], [2 = 2 ∧ 1 + 1 ≤ 2, (0 : Int) ≤ x5 ∧ x5 < (x4.length : Int), rdC prog 3 ((x4.flatMap e89).drop (0 + x5.toNat * 3 + 1)) = (I (at_ x4 x5).f1), x4.length * 3 = (x4.flatMap e89).length ∧ 0 + x5.toNat * 3 + 1 + 1 ≤ (x4.flatMap e89).length, (0 : Int) ≤ x5 ∧ x5 < (x4.length : Int), V.un = V.un, spl (x4.flatMap e89) (0 + x5.toNat * 3 + 1) [(I (wrap64 ((at_ x4 x5).f1 + a1)))] = ((x4.set x5.toNat (⟨(at_ x4 x5).f0, (wrap64 ((at_ x4 x5).f1 + a1)), (at_ x4 x5).f2⟩ : S89)).flatMap e89), x4.length * 3 = (x4.flatMap e89).length ∧ 0 + x5.toNat * 3 + 1 + 1 ≤ (x4.flatMap e89).length], []⟩ [c_ 15667, b_ 1, c_ 1959, l_ 122, b_ 0, c_ 31] (alc ⟨rfl, by decide⟩ (alc ⟨c4, c5⟩ (alc (ldC0 e89_ok 1 (by decide) rfl c4 c5) (alc (okA e89_ok c4 c5 (by decide)) (alc ⟨c4, c5⟩ (alc rfl (alc (st_row e89_ok 1 c4 c5 (Nat.le_of_ble_eq_true rfl) rfl) (alc (okA e89_ok c4 c5 (by decide)) aln)))))))) nocal ?_
          refine .eqs (env2 := [(1, (I a1)), (4, (.pt 257 0 2)), (5, (.pt 1026 0 2)), (6, (I x5)), (20, (I (x3.f1.length : Int))), (21, (I x5))]) (H2 := [(257, [(S ByteArray.empty), nilS]), (1001025, ((x4.set x5.toNat (⟨(at_ x4 x5).f0, (wrap64 ((at_ x4 x5).f1 + a1)), (at_ x4 x5).f2⟩ : S89)).flatMap e89)), (1026, [(S x3.f0), (.rf 1001025 0 ((x4.set x5.toNat (⟨(at_ x4 x5).f0, (wrap64 ((at_ x4 x5).f1 + a1)), (at_ x4 x5).f2⟩ : S89)).length) 3 ((x4.set x5.toNat (⟨(at_ x4 x5).f0, (wrap64 ((at_ x4 x5).f1 + a1)), (at_ x4 x5).f2⟩ : S89)).length * 3))])]) (by first | (simp only [List.length_set]; done) | simp) (by first | rfl | (simp only [List.length_set]; done) | simp) ?_
          refine .reg' [1, 4, 5, 20, 21] [.no, .no, .no, .no, .no, .v (I (at_ x4 x5).f2), .no, .no, .no, .no, .w .un ((x4.set x5.toNat (⟨(at_ x4 x5).f0, (wrap64 ((at_ x4 x5).f1 + a1)), (wrap64 ((at_ x4 x5).f2 + a1))⟩ : S89)).flatMap e89)] ⟨[(1, (I a1)), (4, (.pt 257 0 2)), (5, (.pt 1026 0 2)), (20, (I (x3.f1.length : Int))), (21, (I x5))], [(257, [(S ByteArray.empty), nilS]), (1001025, ((x4.set x5.toNat (⟨(at_ x4 x5).f0, (wrap64 ((at_ x4 x5).f1 + a1)), (wrap64 ((at_ x4 x5).f2 + a1))⟩ : S89)).flatMap e89)), (1026, [(S x3.f0), (.rf 1001025 0 ((x4.set x5.toNat (⟨(at_ x4 x5).f0, (wrap64 ((at_ x4 x5).f1 + a1)), (at_ x4 x5).f2⟩ : S89)).length) 3 ((x4.set x5.toNat (⟨(at_ x4 x5).f0, (wrap64 ((at_ x4 x5).f1 + a1)), (at_ x4 x5).f2⟩ : S89)).length * 3))])], [2 = 2 ∧ 1 + 1 ≤ 2, (0 : Int) ≤ x5 ∧ x5 < ((x4.set x5.toNat (⟨(at_ x4 x5).f0, (wrap64 ((at_ x4 x5).f1 + a1)), (at_ x4 x5).f2⟩ : S89)).length : Int), rdC prog 3 (((x4.set x5.toNat (⟨(at_ x4 x5).f0, (wrap64 ((at_ x4 x5).f1 + a1)), (at_ x4 x5).f2⟩ : S89)).flatMap e89).drop (0 + x5.toNat * 3 + 2)) = (I (at_ x4 x5).f2), (x4.set x5.toNat (⟨(at_ x4 x5).f0, (wrap64 ((at_ x4 x5).f1 + a1)), (at_ x4 x5).f2⟩ : S89)).length * 3 = ((x4.set x5.toNat (⟨(at_ x4 x5).f0, (wrap64 ((at_ x4 x5).f1 + a1)), (at_ x4 x5).f2⟩ : S89)).flatMap e89).length ∧ 0 + x5.toNat * 3 + 2 + 1 ≤ ((x4.set x5.toNat (⟨(at_ x4 x5).f0, (wrap64 ((at_ x4 x5).f1 + a1)), (at_ x4 x5).f2⟩ : S89)).flatMap e89).length, (0 : Int) ≤ x5 ∧ x5 < ((x4.set x5.toNat (⟨(at_ x4 x5).f0, (wrap64 ((at_ x4 x5).f1 + a1)), (at_ x4 x5).f2⟩ : S89)).length : Int), V.un = V.un, spl ((x4.set x5.toNat (⟨(at_ x4 x5).f0, (wrap64 ((at_ x4 x5).f1 + a1)), (at_ x4 x5).f2⟩ : S89)).flatMap e89) (0 + x5.toNat * 3 + 2) [(I (wrap64 ((at_ x4 x5).f2 + a1)))] = ((x4.set x5.toNat (⟨(at_ x4 x5).f0, (wrap64 ((at_ x4 x5).f1 + a1)), (wrap64 ((at_ x4 x5).f2 + a1))⟩ : S89)).flatMap e89), (x4.set x5.toNat (⟨(at_ x4 x5).f0, (wrap64 ((at_ x4 x5).f1 + a1)), (at_ x4 x5).f2⟩ : S89)).length * 3 = ((x4.set x5.toNat (⟨(at_ x4 x5).f0, (wrap64 ((at_ x4 x5).f1 + a1)), (at_ x4 x5).f2⟩ : S89)).flatMap e89).length ∧ 0 + x5.toNat * 3 + 2 + 1 ≤ ((x4.set x5.toNat (⟨(at_ x4 x5).f0, (wrap64 ((at_ x4 x5).f1 + a1)), (at_ x4 x5).f2⟩ : S89)).flatMap e89).length], []⟩ [c_ 1959, l_ 122, b_ 0, c_ 31] (alc ⟨rfl, by decide⟩ (alc ⟨c4, (ls c5)⟩ (alc (ldC0s e89_ok 2 (by decide) rfl c4 c5) (alc (okA e89_ok c4 (ls c5) (by decide)) (alc ⟨c4, (ls c5)⟩ (alc rfl (alc (st_row2 e89_ok 2 c4 c5 (Nat.le_of_ble_eq_true rfl) rfl) (alc (okA e89_ok c4 (ls c5) (by decide)) aln)))))))) nocal ?_
          refine .eqs (env2 := [(1, (I a1)), (4, (.pt 257 0 2)), (5, (.pt 1026 0 2)), (20, (I (x3.f1.length : Int))), (21, (I x5))]) (H2 := [(257, [(S ByteArray.empty), nilS]), (1001025, ((x4.set x5.toNat (⟨(at_ x4 x5).f0, (wrap64 ((at_ x4 x5).f1 + a1)), (wrap64 ((at_ x4 x5).f2 + a1))⟩ : S89)).flatMap e89)), (1026, [(S x3.f0), (.rf 1001025 0 ((x4.set x5.toNat (⟨(at_ x4 x5).f0, (wrap64 ((at_ x4 x5).f1 + a1)), (wrap64 ((at_ x4 x5).f2 + a1))⟩ : S89)).length) 3 ((x4.set x5.toNat (⟨(at_ x4 x5).f0, (wrap64 ((at_ x4 x5).f1 + a1)), (wrap64 ((at_ x4 x5).f2 + a1))⟩ : S89)).length * 3))])]) (by first | (simp only [List.length_set]; done) | simp) (by first | rfl | (simp only [List.length_set]; done) | simp) ?_
          refine .reg' [1, 4, 5, 20, 21] [] ⟨[(1, (I a1)), (4, (.pt 257 0 2)), (5, (.pt 1026 0 2)), (20, (I (x3.f1.length : Int))), (21, (I (wrap64 (x5 + 1))))], [(257, [(S ByteArray.empty), nilS]), (1001025, ((x4.set x5.toNat (⟨(at_ x4 x5).f0, (wrap64 ((at_ x4 x5).f1 + a1)), (wrap64 ((at_ x4 x5).f2 + a1))⟩ : S89)).flatMap e89)), (1026, [(S x3.f0), (.rf 1001025 0 ((x4.set x5.toNat (⟨(at_ x4 x5).f0, (wrap64 ((at_ x4 x5).f1 + a1)), (wrap64 ((at_ x4 x5).f2 + a1))⟩ : S89)).length) 3 ((x4.set x5.toNat (⟨(at_ x4 x5).f0, (wrap64 ((at_ x4 x5).f1 + a1)), (wrap64 ((at_ x4 x5).f2 + a1))⟩ : S89)).length * 3))])], [], []⟩ [l_ 122, b_ 0, c_ 31] aln nocal ?_
          exact ih0 a1 x3 (x4.set x5.toNat (⟨(at_ x4 x5).f0, (wrap64 ((at_ x4 x5).f1 + a1)), (wrap64 ((at_ x4 x5).f2 + a1))⟩ : S89)) (wrap64 (x5 + 1)) _ h
        · rw [if_neg c5] at h
          cases h
      · rw [if_neg c4] at h
        cases h
    · rw [if_neg c3] at h
      refine .cond' (.tmp 22) false [c_ 124, c_ 125, c_ 63] (bF (dF c3)) ?_
      obtain ⟨x6, hx6, h⟩ := Option.bind_eq_some_iff.mp h
      refine .reg' [4, 5, 47] [.no, .c ⟨76, [(.ag [(S x3.f0), (.sl true x4.length 3 (x4.flatMap e89))])], [], (B x6), [], [1001025], [], [], (B x6), []⟩] ⟨[(4, (.pt 257 0 2)), (5, (.pt 1026 0 2)), (47, (B (!x6)))], [(257, [(S ByteArray.empty), nilS]), (1001025, (x4.flatMap e89)), (1026, [(S x3.f0), (.rf 1001025 0 x4.length 3 (x4.length * 3))])], [2 = 2 ∧ 0 + 2 ≤ 2, COK (hget [(257, [(S ByteArray.empty), nilS]), (1001025, (x4.flatMap e89)), (1026, [(S x3.f0), (.rf 1001025 0 x4.length 3 (x4.length * 3))])]) [(.ag [(S x3.f0), (.rf 1001025 0 x4.length 3 (x4.length * 3))])] ⟨76, [(.ag [(S x3.f0), (.sl true x4.length 3 (x4.flatMap e89))])], [], (B x6), [], [1001025], [], [], (B x6), []⟩], [⟨76, [(.ag [(S x3.f0), (.sl true x4.length 3 (x4.flatMap e89))])], [], (B x6), [], [1001025], [], [], (B x6), []⟩]⟩ [c_ 125, c_ 63] (alc ⟨rfl, by decide⟩ (alc (cok0 false (a2c (cnv_ag (a2c (.z .s) (a2c (.z (frz_rf (k := 1001025) e89_ok (by simp) rfl rfl (row_len e89_ok _).symm)) a2n))) a2n) (.z .s) (fun h => absurd h (by decide))) aln)) (acal (impl_TripOk.J k (⟨x3.f0, x4⟩ : S66) _ hx6) nocal) ?_
      by_cases c6 : x6 = true
      · rw [if_pos c6] at h
        refine .cond' (.tmp 47) false [c_ 126, c_ 127] (bF (nF c6)) ?_
        refine .reg' [4] [] ⟨[(4, (.pt 257 0 2))], [(257, [(S x3.f0), (.rf 1001025 0 x4.length 3 (x4.length * 3))]), (1001025, (x4.flatMap e89)), (1026, [(S x3.f0), (.rf 1001025 0 x4.length 3 (x4.length * 3))])], [2 = 2 ∧ 0 + 2 ≤ 2, 2 = 2 ∧ 0 + 2 ≤ 2], []⟩ [c_ 127] (alc ⟨rfl, by decide⟩ (alc ⟨rfl, by decide⟩ aln)) nocal ?_
        have h := Option.some.inj h
        subst h
        exact .fin' [] [(1001025, 1001025)] (.ag [(S x3.f0), (.rf 1001025 0 x4.length 3 (x4.length * 3))]) [2 = 2 ∧ 0 + 2 ≤ 2] (alc ⟨rfl, by decide⟩ aln) (shc 1001025 (rowF e89_ok _) shn) (cnv_ag (a2c (.z .s) (a2c (.rf (memP_mem (p := (1001025, 1001025)) rfl)) a2n)))
      · rw [if_neg c6] at h
        refine .cond' (.tmp 47) true [c_ 500, c_ 501, c_ 63] (bT (nT (vF c6))) ?_
        refine .reg' [4] [] ⟨[(4, (.pt 257 0 2))], [(257, [(S ByteArray.empty), nilS]), (1001025, (x4.flatMap e89)), (1026, [(S x3.f0), (.rf 1001025 0 x4.length 3 (x4.length * 3))])], [2 = 2 ∧ 0 + 2 ≤ 2], []⟩ [c_ 501, c_ 63] (alc ⟨rfl, by decide⟩ aln) nocal ?_
        have h := Option.some.inj h
        subst h
        refine .nl' 1001026 ?_
        exact .fin' [] [(1001026, 1001025)] (.ag [(S ByteArray.empty), nilS]) [2 = 2 ∧ 0 + 2 ≤ 2] (alc ⟨rfl, by decide⟩ aln) (shc 1001026 (rowF e89_ok _) shn) (cnv_ag (a2c (.z .s) (a2c (.nl (memP_mem (p := (1001026, 1001025)) rfl) rfl) a2n)))
theorem impl_Moved.J (k : Nat) (a0 : S66) (a1 : Int) (r : S66) (h : impl_Moved.f k a0 a1 = some r) : J prog (.call 54 [(.ag [(S a0.f0), (.sl true a0.f1.length 3 (a0.f1.flatMap e89))]), (I a1)] [] (.ag [(S r.f0), (.rf 1001025 0 r.f1.length 3 (r.f1.length * 3))]) [(1001025, (r.f1.flatMap e89))]) := by
  unfold impl_Moved.f at h
  have ih0 := impl_Moved.lab k
  refine .call' [c_ 2, c_ 3] ?_
  refine .reg' [1, 2, 4] [] ⟨[(1, (I a1)), (2, (.pt 256 0 2)), (4, (.pt 257 0 2))], [(256, [(S a0.f0), (.sl true a0.f1.length 3 (a0.f1.flatMap e89))]), (257, [(S ByteArray.empty), nilS])], [], []⟩ [c_ 12, c_ 13, c_ 7] aln nocal ?_
  obtain ⟨x1, hx1, h⟩ := Option.bind_eq_some_iff.mp h
  by_cases c1 : x1 = true
  · rw [if_pos c1] at h
    obtain ⟨x2, hx2, h⟩ := Option.bind_eq_some_iff.mp h
    refine .reg' [1, 2, 4, 14] [.no, .c ⟨76, [(.ag [(S a0.f0), (.sl true a0.f1.length 3 (a0.f1.flatMap e89))])], [], (B x1), [], [], [], [], (B x1), []⟩, .no, .v (B false), .no, .c ⟨58, [(I a1), (I (-100000)), (I 100000)], [], (B x2), [], [], [], [], (B x2), []⟩] ⟨[(1, (I a1)), (2, (.pt 256 0 2)), (4, (.pt 257 0 2)), (14, (B (!x2)))], [(256, [(S a0.f0), (.sl true a0.f1.length 3 (a0.f1.flatMap e89))]), (257, [(S ByteArray.empty), nilS])], [2 = 2 ∧ 0 + 2 ≤ 2, COK (hget [(256, [(S a0.f0), (.sl true a0.f1.length 3 (a0.f1.flatMap e89))]), (257, [(S ByteArray.empty), nilS])]) [(.ag [(S a0.f0), (.sl true a0.f1.length 3 (a0.f1.flatMap e89))])] ⟨76, [(.ag [(S a0.f0), (.sl true a0.f1.length 3 (a0.f1.flatMap e89))])], [], (B x1), [], [], [], [], (B x1), []⟩, (B (!x1) : V) = B false, COK (hget [(256, [(S a0.f0), (.sl true a0.f1.length 3 (a0.f1.flatMap e89))]), (257, [(S ByteArray.empty), nilS])]) [(I a1), (I (-100000)), (I 100000)] ⟨58, [(I a1), (I (-100000)), (I 100000)], [], (B x2), [], [], [], [], (B x2), []⟩], [⟨76, [(.ag [(S a0.f0), (.sl true a0.f1.length 3 (a0.f1.flatMap e89))])], [], (B x1), [], [], [], [], (B x1), []⟩, ⟨58, [(I a1), (I (-100000)), (I 100000)], [], (B x2), [], [], [], [], (B x2), []⟩]⟩ [c_ 13, c_ 7] (alc ⟨rfl, by decide⟩ (alc (cok0 false (a2c (.z (frz_ag (a2c .s (a2c (frz_sl e89_ok (fun h => h)) a2n)))) a2n) (.z .s) (fun h => absurd h (by decide))) (alc (bF (nF c1)) (alc (cok0 false (a2c (.z .s) (a2c (.z .s) (a2c (.z .s) a2n))) (.z .s) (fun h => absurd h (by decide))) aln)))) (acal (impl_TripOk.J k a0 _ hx1) (acal (impl_between.J a1 (-100000) 100000 _ hx2) nocal)) ?_
    by_cases c2 : x2 = true
    · rw [if_pos c2] at h
      refine .cond' (.tmp 14) false [c_ 14, c_ 15] (bF (nF c2)) ?_
      obtain ⟨x3, hx3, h⟩ := Option.bind_eq_some_iff.mp h
      refine .reg' [1, 4, 5] [.no, .c ⟨84, [(.ag [(S a0.f0), (.sl true a0.f1.length 3 (a0.f1.flatMap e89))])], [], (.ag [(S x3.f0), (.rf 514 0 x3.f1.length 3 (x3.f1.length * 3))]), [(514, (x3.f1.flatMap e89))], [], [], [(1001025, 514)], (.ag [(S x3.f0), (.rf 1001025 0 x3.f1.length 3 (x3.f1.length * 3))]), [(1001025, (x3.f1.flatMap e89))]⟩] ⟨[(1, (I a1)), (4, (.pt 257 0 2)), (5, (.pt 1026 0 2))], [(256, [(S a0.f0), (.sl true a0.f1.length 3 (a0.f1.flatMap e89))]), (257, [(S ByteArray.empty), nilS]), (1001025, (x3.f1.flatMap e89)), (1026, [(S x3.f0), (.rf 1001025 0 x3.f1.length 3 (x3.f1.length * 3))])], [2 = 2 ∧ 0 + 2 ≤ 2, COK (hget [(256, [(S a0.f0), (.sl true a0.f1.length 3 (a0.f1.flatMap e89))]), (257, [(S ByteArray.empty), nilS])]) [(.ag [(S a0.f0), (.sl true a0.f1.length 3 (a0.f1.flatMap e89))])] ⟨84, [(.ag [(S a0.f0), (.sl true a0.f1.length 3 (a0.f1.flatMap e89))])], [], (.ag [(S x3.f0), (.rf 514 0 x3.f1.length 3 (x3.f1.length * 3))]), [(514, (x3.f1.flatMap e89))], [], [], [(1001025, 514)], (.ag [(S x3.f0), (.rf 1001025 0 x3.f1.length 3 (x3.f1.length * 3))]), [(1001025, (x3.f1.flatMap e89))]⟩, 2 = 2 ∧ 0 + 2 ≤ 2], [⟨84, [(.ag [(S a0.f0), (.sl true a0.f1.length 3 (a0.f1.flatMap e89))])], [], (.ag [(S x3.f0), (.rf 514 0 x3.f1.length 3 (x3.f1.length * 3))]), [(514, (x3.f1.flatMap e89))], [], [], [(1001025, 514)], (.ag [(S x3.f0), (.rf 1001025 0 x3.f1.length 3 (x3.f1.length * 3))]), [(1001025, (x3.f1.flatMap e89))]⟩]⟩ [c_ 60, c_ 61, c_ 31] (alc ⟨rfl, by decide⟩ (alc (cokW false (a2c (.z (frz_ag (a2c .s (a2c (frz_sl e89_ok (fun h => h)) a2n)))) a2n) akn (akc (.inr rfl) akn) (bck_ag (a2c (.z .s) (a2c (.rf (memP_mem (p := (1001025, 514)) rfl)) a2n))) (akc ⟨_, _, rfl, rfl, rowB e89_c _⟩ akn) (fun h => absurd h (by decide))) (alc ⟨rfl, by decide⟩ aln))) (acal (impl_cloneTrip.J a0 _ hx3) nocal) ?_
      refine .reg' [1, 4, 5, 20, 21] [] ⟨[(1, (I a1)), (4, (.pt 257 0 2)), (5, (.pt 1026 0 2)), (20, (I (x3.f1.length : Int))), (21, (I 0))], [(256, [(S a0.f0), (.sl true a0.f1.length 3 (a0.f1.flatMap e89))]), (257, [(S ByteArray.empty), nilS]), (1001025, (x3.f1.flatMap e89)), (1026, [(S x3.f0), (.rf 1001025 0 x3.f1.length 3 (x3.f1.length * 3))])], [2 = 2 ∧ 1 + 1 ≤ 2], []⟩ [l_ 122, b_ 0, c_ 31] (alc ⟨rfl, by decide⟩ aln) nocal ?_
      refine .wk' [] [(257, 257), (1001025, 1001025), (1026, 1026)] [(1, (I a1)), (4, (.pt 257 0 2)), (5, (.pt 1026 0 2)), (20, (I (x3.f1.length : Int))), (21, (I 0))] [(257, [(S ByteArray.empty), nilS]), (1001025, (x3.f1.flatMap e89)), (1026, [(S x3.f0), (.rf 1001025 0 x3.f1.length 3 (x3.f1.length * 3))])] (shc 257 (a2c (.z .s) (a2c (.z .s) a2n)) (shc 1001025 (rowF e89_ok _) (shc 1026 (a2c (.z .s) (a2c (.rf (memP_mem (p := (1001025, 1001025)) rfl)) a2n)) shn))) (enc_ (.z .s) (enc_ (.pt (memP_mem (p := (257, 257)) rfl)) (enc_ (.pt (memP_mem (p := (1026, 1026)) rfl)) (enc_ (.z .s) (enc_ (.z .s) enn))))) ?_
      exact ih0 a1 x3 x3.f1 0 _ h
    · rw [if_neg c2] at h
      refine .cond' (.tmp 14) true [c_ 52, c_ 53, c_ 7] (bT (nT (vF c2))) ?_
      refine .reg' [4] [] ⟨[(4, (.pt 257 0 2))], [(256, [(S a0.f0), (.sl true a0.f1.length 3 (a0.f1.flatMap e89))]), (257, [(S ByteArray.empty), nilS])], [2 = 2 ∧ 0 + 2 ≤ 2], []⟩ [c_ 53, c_ 7] (alc ⟨rfl, by decide⟩ aln) nocal ?_
      have h := Option.some.inj h
      subst h
      refine .nl' 1001025 ?_
      exact .fin' [] [(1001025, 1001025)] (.ag [(S ByteArray.empty), nilS]) [2 = 2 ∧ 0 + 2 ≤ 2] (alc ⟨rfl, by decide⟩ aln) (shc 1001025 (rowF e89_ok _) shn) (cnv_ag (a2c (.z .s) (a2c (.nl (memP_mem (p := (1001025, 1001025)) rfl) rfl) a2n)))
  · rw [if_neg c1] at h
    refine .reg' [1, 2, 4, 14] [.no, .c ⟨76, [(.ag [(S a0.f0), (.sl true a0.f1.length 3 (a0.f1.flatMap e89))])], [], (B x1), [], [], [], [], (B x1), []⟩, .no, .v (B true)] ⟨[(1, (I a1)), (2, (.pt 256 0 2)), (4, (.pt 257 0 2)), (14, (B true))], [(256, [(S a0.f0), (.sl true a0.f1.length 3 (a0.f1.flatMap e89))]), (257, [(S ByteArray.empty), nilS])], [2 = 2 ∧ 0 + 2 ≤ 2, COK (hget [(256, [(S a0.f0), (.sl true a0.f1.length 3 (a0.f1.flatMap e89))]), (257, [(S ByteArray.empty), nilS])]) [(.ag [(S a0.f0), (.sl true a0.f1.length 3 (a0.f1.flatMap e89))])] ⟨76, [(.ag [(S a0.f0), (.sl true a0.f1.length 3 (a0.f1.flatMap e89))])], [], (B x1), [], [], [], [], (B x1), []⟩, (B (!x1) : V) = B true], [⟨76, [(.ag [(S a0.f0), (.sl true a0.f1.length 3 (a0.f1.flatMap e89))])], [], (B x1), [], [], [], [], (B x1), []⟩]⟩ [c_ 13, c_ 7] (alc ⟨rfl, by decide⟩ (alc (cok0 false (a2c (.z (frz_ag (a2c .s (a2c (frz_sl e89_ok (fun h => h)) a2n)))) a2n) (.z .s) (fun h => absurd h (by decide))) (alc (bT (nT (vF c1))) aln))) (acal (impl_TripOk.J k a0 _ hx1) nocal) ?_
    refine .cond' (.tmp 14) true [c_ 52, c_ 53, c_ 7] (rfl) ?_
    refine .reg' [4] [] ⟨[(4, (.pt 257 0 2))], [(256, [(S a0.f0), (.sl true a0.f1.length 3 (a0.f1.flatMap e89))]), (257, [(S ByteArray.empty), nilS])], [2 = 2 ∧ 0 + 2 ≤ 2], []⟩ [c_ 53, c_ 7] (alc ⟨rfl, by decide⟩ aln) nocal ?_
    have h := Option.some.inj h
    subst h
    refine .nl' 1001025 ?_
    exact .fin' [] [(1001025, 1001025)] (.ag [(S ByteArray.empty), nilS]) [2 = 2 ∧ 0 + 2 ≤ 2] (alc ⟨rfl, by decide⟩ aln) (shc 1001025 (rowF e89_ok _) shn) (cnv_ag (a2c (.z .s) (a2c (.nl (memP_mem (p := (1001025, 1001025)) rfl) rfl) a2n)))
/-! impl_Settle: function 45 -/
def impl_Settle.l0 : Nat → S46 → (List S66) → Int → (List S66) → (List Int) → Int → Option ((List S66) × (List Int))
 | 0, _, _, _, _, _, _ => none
 | k + 1, a0, a1, a2, x1, x2, x3 => (if x3 < (a1.length : Int) then (if 0 ≤ x3 then ((impl_PushOf.f k a0 x1 (at_ a1 x3) a2).bind fun x4 => (if x4 < 0 then (some (([] : List S66), ([] : List Int))) else ((impl_Moved.f k (at_ a1 x3) x4).bind fun x5 => (if (x1.length + ([x5] : List S66).length) * 40 ≤ 70368744177664 then (if (x2.length + ([x4] : List Int).length) * 8 ≤ 70368744177664 then (impl_Settle.l0 k a0 a1 a2 (x1 ++ ([x5] : List S66)) (x2 ++ ([x4] : List Int)) (wrap64 (x3 + 1))) else none) else none)))) else none) else (some (x1, x2)))
def impl_Settle.f (k : Nat) (a0 : S46) (a1 : (List S66)) (a2 : Int) : Option ((List S66) × (List Int)) := (impl_Settle.l0 k a0 a1 a2 ([] : List S66) ([] : List Int) 0)
theorem impl_Settle.lab : ∀ k, (∀ (a0 : S46) (a1 : (List S66)) (a2 : Int) (x1 : (List S66)) (x2 : (List Int)) (x3 : Int) (r : ((List S66) × (List Int))), impl_Settle.l0 k a0 a1 a2 x1 x2 x3 = some r → J prog (.run 45 [] [l_ 58, b_ 0, c_ 15] [(2, (I a2)), (3, (.pt 256 0 2)), (8, (.rf 4000000512 0 x1.length 2 (x1.length * 2))), (9, (.rf 513 0 x2.length 1 (x2.length * 1))), (15, (.sl true a1.length 2 (a1.flatMap (e66 true)))), (16, (I (a1.length : Int))), (17, (I x3))] [(256, [(I a0.f0), (.sl true a0.f1.length 4 (a0.f1.flatMap e95))]), (4000000512, (x1.flatMap o66)), (513, (x2.flatMap encI))] (.tp [(.rf 4000000512 0 r.1.length 2 (r.1.length * 2)), (.rf 513 0 r.2.length 1 (r.2.length * 1))]) [(4000000512, (r.1.flatMap o66)), (513, (r.2.flatMap encI))]))
 | 0 => (by intro a0 a1 a2 x1 x2 x3 r h; unfold impl_Settle.l0 at h; cases h)
 | k + 1 => by
  have ih0 := impl_Settle.lab k
  · intro a0 a1 a2 x1 x2 x3 r h
    unfold impl_Settle.l0 at h
    refine .loop' [c_ 232, c_ 233, l_ 58, b_ 0, c_ 15] ?_
    refine .reg' [2, 3, 8, 9, 15, 16, 17, 18] [] ⟨[(2, (I a2)), (3, (.pt 256 0 2)), (8, (.rf 4000000512 0 x1.length 2 (x1.length * 2))), (9, (.rf 513 0 x2.length 1 (x2.length * 1))), (15, (.sl true a1.length 2 (a1.flatMap (e66 true)))), (16, (I (a1.length : Int))), (17, (I x3)), (18, (B (decide (x3 < (a1.length : Int)))))], [(256, [(I a0.f0), (.sl true a0.f1.length 4 (a0.f1.flatMap e95))]), (4000000512, (x1.flatMap o66)), (513, (x2.flatMap encI))], [], []⟩ [c_ 466, c_ 467, l_ 58, b_ 0, c_ 15] aln nocal ?_
    by_cases c1 : x3 < (a1.length : Int)
    · rw [if_pos c1] at h
      refine .cond' (.tmp 18) true [c_ 3736, c_ 3737, b_ 1, c_ 935, l_ 58, b_ 0, c_ 15] (bT (dT c1)) ?_
      by_cases c2 : 0 ≤ x3
      · rw [if_pos c2] at h
        refine .reg' [2, 3, 8, 9, 11, 15, 16, 17] [.no, .v (.ag [(S (at_ a1 x3).f0), (.sl true (at_ a1 x3).f1.length 3 ((at_ a1 x3).f1.flatMap e89))])] ⟨[(2, (I a2)), (3, (.pt 256 0 2)), (8, (.rf 4000000512 0 x1.length 2 (x1.length * 2))), (9, (.rf 513 0 x2.length 1 (x2.length * 1))), (11, (.pt 1282 0 2)), (15, (.sl true a1.length 2 (a1.flatMap (e66 true)))), (16, (I (a1.length : Int))), (17, (I x3))], [(256, [(I a0.f0), (.sl true a0.f1.length 4 (a0.f1.flatMap e95))]), (4000000512, (x1.flatMap o66)), (513, (x2.flatMap encI)), (1282, [(S (at_ a1 x3).f0), (.sl true (at_ a1 x3).f1.length 3 ((at_ a1 x3).f1.flatMap e89))])], [(0 : Int) ≤ x3 ∧ x3 < (a1.length : Int), rdC prog 67 ((a1.flatMap (e66 true)).drop (x3.toNat * 2)) = (.ag [(S (at_ a1 x3).f0), (.sl true (at_ a1 x3).f1.length 3 ((at_ a1 x3).f1.flatMap e89))]), 2 ≤ ((a1.flatMap (e66 true)).drop (x3.toNat * 2)).length, 2 = 2 ∧ 0 + 2 ≤ 2], []⟩ [c_ 7474, c_ 7475, b_ 1, c_ 935, l_ 58, b_ 0, c_ 15] (alc ⟨c2, c1⟩ (alc (ldA (e66_ok true) rfl rfl c2 c1) (alc (okI (e66_ok true) c2 c1 (by decide)) (alc ⟨rfl, by decide⟩ aln)))) nocal ?_
        obtain ⟨x4, hx4, h⟩ := Option.bind_eq_some_iff.mp h
        refine .reg' [2, 3, 8, 9, 11, 12, 15, 16, 17] [.no, .no, .no, .no, .c ⟨42, [(.ag [(I a0.f0), (.sl true a0.f1.length 4 (a0.f1.flatMap e95))]), (.sl true x1.length 2 (x1.flatMap (e66 true))), (.ag [(S (at_ a1 x3).f0), (.sl true (at_ a1 x3).f1.length 3 ((at_ a1 x3).f1.flatMap e89))]), (I a2)], [], (I x4), [], [4000000512], [], [], (I x4), []⟩] ⟨[(2, (I a2)), (3, (.pt 256 0 2)), (8, (.rf 4000000512 0 x1.length 2 (x1.length * 2))), (9, (.rf 513 0 x2.length 1 (x2.length * 1))), (11, (.pt 1282 0 2)), (12, (I x4)), (15, (.sl true a1.length 2 (a1.flatMap (e66 true)))), (16, (I (a1.length : Int))), (17, (I x3))], [(256, [(I a0.f0), (.sl true a0.f1.length 4 (a0.f1.flatMap e95))]), (4000000512, (x1.flatMap o66)), (513, (x2.flatMap encI)), (1282, [(S (at_ a1 x3).f0), (.sl true (at_ a1 x3).f1.length 3 ((at_ a1 x3).f1.flatMap e89))])], [2 = 2 ∧ 0 + 2 ≤ 2, 2 = 2 ∧ 0 + 2 ≤ 2, COK (hget [(256, [(I a0.f0), (.sl true a0.f1.length 4 (a0.f1.flatMap e95))]), (4000000512, (x1.flatMap o66)), (513, (x2.flatMap encI)), (1282, [(S (at_ a1 x3).f0), (.sl true (at_ a1 x3).f1.length 3 ((at_ a1 x3).f1.flatMap e89))])]) [(.ag [(I a0.f0), (.sl true a0.f1.length 4 (a0.f1.flatMap e95))]), (.rf 4000000512 0 x1.length 2 (x1.length * 2)), (.ag [(S (at_ a1 x3).f0), (.sl true (at_ a1 x3).f1.length 3 ((at_ a1 x3).f1.flatMap e89))]), (I a2)] ⟨42, [(.ag [(I a0.f0), (.sl true a0.f1.length 4 (a0.f1.flatMap e95))]), (.sl true x1.length 2 (x1.flatMap (e66 true))), (.ag [(S (at_ a1 x3).f0), (.sl true (at_ a1 x3).f1.length 3 ((at_ a1 x3).f1.flatMap e89))]), (I a2)], [], (I x4), [], [4000000512], [], [], (I x4), []⟩], [⟨42, [(.ag [(I a0.f0), (.sl true a0.f1.length 4 (a0.f1.flatMap e95))]), (.sl true x1.length 2 (x1.flatMap (e66 true))), (.ag [(S (at_ a1 x3).f0), (.sl true (at_ a1 x3).f1.length 3 ((at_ a1 x3).f1.flatMap e89))]), (I a2)], [], (I x4), [], [4000000512], [], [], (I x4), []⟩]⟩ [c_ 29900, c_ 29901, c_ 14951, b_ 1, c_ 935, l_ 58, b_ 0, c_ 15] (alc ⟨rfl, by decide⟩ (alc ⟨rfl, by decide⟩ (alc (cok0 false (a2c (.z (frz_ag (a2c .s (a2c (frz_sl e95_ok (fun h => h)) a2n)))) (a2c (.z (frz_rfO (k := 4000000512) (fun x => o66_l x) o66_ok (by simp) rfl rfl rfl (row_len o66_ok _).symm)) (a2c (.z (frz_ag (a2c .s (a2c (frz_sl e89_ok (fun h => h)) a2n)))) (a2c (.z .s) a2n)))) (.z .s) (fun h => absurd h (by decide))) aln))) (acal (impl_PushOf.J k a0 x1 (at_ a1 x3) a2 _ hx4) nocal) ?_
        refine .reg' [2, 3, 8, 9, 11, 12, 15, 16, 17, 27] [] ⟨[(2, (I a2)), (3, (.pt 256 0 2)), (8, (.rf 4000000512 0 x1.length 2 (x1.length * 2))), (9, (.rf 513 0 x2.length 1 (x2.length * 1))), (11, (.pt 1282 0 2)), (12, (I x4)), (15, (.sl true a1.length 2 (a1.flatMap (e66 true)))), (16, (I (a1.length : Int))), (17, (I x3)), (27, (B (decide (x4 < 0))))], [(256, [(I a0.f0), (.sl true a0.f1.length 4 (a0.f1.flatMap e95))]), (4000000512, (x1.flatMap o66)), (513, (x2.flatMap encI)), (1282, [(S (at_ a1 x3).f0), (.sl true (at_ a1 x3).f1.length 3 ((at_ a1 x3).f1.flatMap e89))])], [], []⟩ [c_ 29901, c_ 14951, b_ 1, c_ 935, l_ 58, b_ 0, c_ 15] aln nocal ?_
        by_cases c3 : x4 < 0
        · rw [if_pos c3] at h
          refine .cond' (.tmp 27) true [c_ 119604, c_ 119605, c_ 14951, b_ 1, c_ 935, l_ 58, b_ 0, c_ 15] (bT (dT c3)) ?_
          refine .reg' [6, 7] [] ⟨[(6, nilS), (7, nilS)], [(256, [(I a0.f0), (.sl true a0.f1.length 4 (a0.f1.flatMap e95))]), (4000000512, (x1.flatMap o66)), (513, (x2.flatMap encI)), (1282, [(S (at_ a1 x3).f0), (.sl true (at_ a1 x3).f1.length 3 ((at_ a1 x3).f1.flatMap e89))])], [], []⟩ [c_ 119605, c_ 14951, b_ 1, c_ 935, l_ 58, b_ 0, c_ 15] aln nocal ?_
          have h := Option.some.inj h
          subst h
          refine .nl' 4000000513 ?_
          refine .nl' 514 ?_
          exact .fin' [] [(4000000513, 4000000512), (514, 513)] (.tp [nilS, nilS]) [] aln (shc 4000000513 (rowF o66_ok _) (shc 514 (rowF encI_ok _) shn)) (cnv_tp (a2c (.nl (memP_mem (p := (4000000513, 4000000512)) rfl) rfl) (a2c (.nl (memP_mem (p := (514, 513)) rfl) rfl) a2n)))
        · rw [if_neg c3] at h
          refine .cond' (.tmp 27) false [c_ 29902, c_ 29903, b_ 1, c_ 935, l_ 58, b_ 0, c_ 15] (bF (dF c3)) ?_
          obtain ⟨x5, hx5, h⟩ := Option.bind_eq_some_iff.mp h
          by_cases c4 : (x1.length + ([x5] : List S66).length) * 40 ≤ 70368744177664
          · rw [if_pos c4] at h
            refine .reg' [2, 3, 8, 9, 12, 15, 16, 17] [.no, .no, .no, .c ⟨54, [(.ag [(S (at_ a1 x3).f0), (.sl true (at_ a1 x3).f1.length 3 ((at_ a1 x3).f1.flatMap e89))]), (I x4)], [], (.ag [(S x5.f0), (.rf 1001025 0 x5.f1.length 3 (x5.f1.length * 3))]), [(1001025, (x5.f1.flatMap e89))], [], [], [(1002307, 1001025)], (.ag [(S x5.f0), (.rf 1002307 0 x5.f1.length 3 (x5.f1.length * 3))]), [(1002307, (x5.f1.flatMap e89))]⟩, .no, .w (.rf 4000000512 0 ((x1 ++ ([x5] : List S66)).length) 2 ((x1 ++ ([x5] : List S66)).length * 2)) (x1.flatMap o66 ++ [(S x5.f0), (.rf 1002307 0 x5.f1.length 3 (x5.f1.length * 3))])] ⟨[(2, (I a2)), (3, (.pt 256 0 2)), (8, (.rf 4000000512 0 ((x1 ++ ([x5] : List S66)).length) 2 ((x1 ++ ([x5] : List S66)).length * 2))), (9, (.rf 513 0 x2.length 1 (x2.length * 1))), (12, (I x4)), (15, (.sl true a1.length 2 (a1.flatMap (e66 true)))), (16, (I (a1.length : Int))), (17, (I x3))], [(256, [(I a0.f0), (.sl true a0.f1.length 4 (a0.f1.flatMap e95))]), (4000000512, (x1.flatMap o66 ++ [(S x5.f0), (.rf 1002307 0 x5.f1.length 3 (x5.f1.length * 3))])), (513, (x2.flatMap encI)), (1282, [(S (at_ a1 x3).f0), (.sl true (at_ a1 x3).f1.length 3 ((at_ a1 x3).f1.flatMap e89))]), (1002307, (x5.f1.flatMap e89)), (2308, [(S x5.f0), (.rf 1002307 0 x5.f1.length 3 (x5.f1.length * 3))])], [2 = 2 ∧ 0 + 2 ≤ 2, COK (hget [(256, [(I a0.f0), (.sl true a0.f1.length 4 (a0.f1.flatMap e95))]), (4000000512, (x1.flatMap o66)), (513, (x2.flatMap encI)), (1282, [(S (at_ a1 x3).f0), (.sl true (at_ a1 x3).f1.length 3 ((at_ a1 x3).f1.flatMap e89))])]) [(.ag [(S (at_ a1 x3).f0), (.sl true (at_ a1 x3).f1.length 3 ((at_ a1 x3).f1.flatMap e89))]), (I x4)] ⟨54, [(.ag [(S (at_ a1 x3).f0), (.sl true (at_ a1 x3).f1.length 3 ((at_ a1 x3).f1.flatMap e89))]), (I x4)], [], (.ag [(S x5.f0), (.rf 1001025 0 x5.f1.length 3 (x5.f1.length * 3))]), [(1001025, (x5.f1.flatMap e89))], [], [], [(1002307, 1001025)], (.ag [(S x5.f0), (.rf 1002307 0 x5.f1.length 3 (x5.f1.length * 3))]), [(1002307, (x5.f1.flatMap e89))]⟩, V.rf 4000000512 0 (x1.length + 1) 2 (x1.length * 2 + 1 * 2) = (.rf 4000000512 0 ((x1 ++ ([x5] : List S66)).length) 2 ((x1 ++ ([x5] : List S66)).length * 2)), (x1.flatMap o66) ++ (([(S x5.f0), (.rf 1002307 0 x5.f1.length 3 (x5.f1.length * 3))].drop 0).take (1 * 2)) = (x1.flatMap o66 ++ [(S x5.f0), (.rf 1002307 0 x5.f1.length 3 (x5.f1.length * 3))]), (1 * 2 = [(S x5.f0), (.rf 1002307 0 x5.f1.length 3 (x5.f1.length * 3))].length ∧ 0 + 1 * 2 ≤ [(S x5.f0), (.rf 1002307 0 x5.f1.length 3 (x5.f1.length * 3))].length) ∧ x1.length * 2 = (x1.flatMap o66).length ∧ x1.length * 2 = (x1.flatMap o66).length ∧ (x1.length + ([x5] : List S66).length) * 40 ≤ 70368744177664], [⟨54, [(.ag [(S (at_ a1 x3).f0), (.sl true (at_ a1 x3).f1.length 3 ((at_ a1 x3).f1.flatMap e89))]), (I x4)], [], (.ag [(S x5.f0), (.rf 1001025 0 x5.f1.length 3 (x5.f1.length * 3))]), [(1001025, (x5.f1.flatMap e89))], [], [], [(1002307, 1001025)], (.ag [(S x5.f0), (.rf 1002307 0 x5.f1.length 3 (x5.f1.length * 3))]), [(1002307, (x5.f1.flatMap e89))]⟩]⟩ [c_ 29903, b_ 1, c_ 935, l_ 58, b_ 0, c_ 15] (alc ⟨rfl, by decide⟩ (alc (cokW false (a2c (.z (frz_ag (a2c .s (a2c (frz_sl e89_ok (fun h => h)) a2n)))) (a2c (.z .s) a2n)) akn (akc (.inr rfl) akn) (bck_ag (a2c (.z .s) (a2c (.rf (memP_mem (p := (1002307, 1001025)) rfl)) a2n))) (akc ⟨_, _, rfl, rfl, rowB e89_c _⟩ akn) (fun h => absurd h (by decide))) (alc apV1 (alc rfl (alc ⟨⟨rfl, Nat.le_refl _⟩, (row_len o66_ok _).symm, (row_len o66_ok _).symm, c4⟩ aln))))) (acal (impl_Moved.J k (at_ a1 x3) x4 _ hx5) nocal) ?_
            refine .clX [1002307, 2308] 1002307 4000000512 (x1.length * 2 + 1) x5.f1.length 3 (cs' := ((x1 ++ ([x5] : List S66)).flatMap o66)) (ds := (x5.f1.flatMap e89)) (H2 := [(256, [(I a0.f0), (.sl true a0.f1.length 4 (a0.f1.flatMap e95))]), (513, (x2.flatMap encI)), (1282, [(S (at_ a1 x3).f0), (.sl true (at_ a1 x3).f1.length 3 ((at_ a1 x3).f1.flatMap e89))])]) ((app_get (vs := [(S x5.f0), (.rf 1002307 0 x5.f1.length 3 (x5.f1.length * 3))]) o66_ok 1).trans rfl) ((app_set (vs := [(S x5.f0), (.rf 1002307 0 x5.f1.length 3 (x5.f1.length * 3))]) o66_ok 1 _).trans (app_end x5)) (row_len e89_ok _) (rowS e89_s _) (rsc (rqE o66_ok _) (rsc rqL (rsc (rqE encI_ok _) (rsc rqL rsn)))) ?_
            by_cases c5 : (x2.length + ([x4] : List Int).length) * 8 ≤ 70368744177664
            · rw [if_pos c5] at h
              refine .reg' [2, 3, 8, 9, 15, 16, 17] [.no, .no, .no, .w (.rf 513 0 ((x2 ++ ([x4] : List Int)).length) 1 ((x2 ++ ([x4] : List Int)).length * 1)) ((x2 ++ ([x4] : List Int)).flatMap encI)] ⟨[(2, (I a2)), (3, (.pt 256 0 2)), (8, (.rf 4000000512 0 ((x1 ++ ([x5] : List S66)).length) 2 ((x1 ++ ([x5] : List S66)).length * 2))), (9, (.rf 513 0 ((x2 ++ ([x4] : List Int)).length) 1 ((x2 ++ ([x4] : List Int)).length * 1))), (15, (.sl true a1.length 2 (a1.flatMap (e66 true)))), (16, (I (a1.length : Int))), (17, (I x3))], [(4000000512, ((x1 ++ ([x5] : List S66)).flatMap o66)), (256, [(I a0.f0), (.sl true a0.f1.length 4 (a0.f1.flatMap e95))]), (513, ((x2 ++ ([x4] : List Int)).flatMap encI)), (1282, [(S (at_ a1 x3).f0), (.sl true (at_ a1 x3).f1.length 3 ((at_ a1 x3).f1.flatMap e89))]), (2562, (([x4] : List Int).flatMap encI))], [V.rf 513 0 (x2.length + ([x4] : List Int).length) 1 (x2.length * 1 + ([x4] : List Int).length * 1) = (.rf 513 0 ((x2 ++ ([x4] : List Int)).length) 1 ((x2 ++ ([x4] : List Int)).length * 1)), x2.flatMap encI ++ (((([x4] : List Int).flatMap encI).drop 0).take (([x4] : List Int).length * 1)) = ((x2 ++ ([x4] : List Int)).flatMap encI), (([x4] : List Int).length * 1 = (([x4] : List Int).flatMap encI).length ∧ 0 + ([x4] : List Int).length * 1 ≤ (([x4] : List Int).flatMap encI).length) ∧ x2.length * 1 = (x2.flatMap encI).length ∧ x2.length * 1 = (x2.flatMap encI).length ∧ (x2.length + ([x4] : List Int).length) * 8 ≤ 70368744177664], []⟩ [c_ 935, l_ 58, b_ 0, c_ 15] (alc (apV rfl) (alc (apR encI_ok rfl) (alc (apO encI_ok rfl c5 rfl) aln))) nocal ?_
              refine .reg' [2, 3, 8, 9, 15, 16, 17] [] ⟨[(2, (I a2)), (3, (.pt 256 0 2)), (8, (.rf 4000000512 0 ((x1 ++ ([x5] : List S66)).length) 2 ((x1 ++ ([x5] : List S66)).length * 2))), (9, (.rf 513 0 ((x2 ++ ([x4] : List Int)).length) 1 ((x2 ++ ([x4] : List Int)).length * 1))), (15, (.sl true a1.length 2 (a1.flatMap (e66 true)))), (16, (I (a1.length : Int))), (17, (I (wrap64 (x3 + 1))))], [(4000000512, ((x1 ++ ([x5] : List S66)).flatMap o66)), (256, [(I a0.f0), (.sl true a0.f1.length 4 (a0.f1.flatMap e95))]), (513, ((x2 ++ ([x4] : List Int)).flatMap encI)), (1282, [(S (at_ a1 x3).f0), (.sl true (at_ a1 x3).f1.length 3 ((at_ a1 x3).f1.flatMap e89))]), (2562, (([x4] : List Int).flatMap encI))], [], []⟩ [l_ 58, b_ 0, c_ 15] aln nocal ?_
              refine .wk' [] [(256, 256), (4000000512, 4000000512), (513, 513)] [(2, (I a2)), (3, (.pt 256 0 2)), (8, (.rf 4000000512 0 ((x1 ++ ([x5] : List S66)).length) 2 ((x1 ++ ([x5] : List S66)).length * 2))), (9, (.rf 513 0 ((x2 ++ ([x4] : List Int)).length) 1 ((x2 ++ ([x4] : List Int)).length * 1))), (15, (.sl true a1.length 2 (a1.flatMap (e66 true)))), (16, (I (a1.length : Int))), (17, (I (wrap64 (x3 + 1))))] [(256, [(I a0.f0), (.sl true a0.f1.length 4 (a0.f1.flatMap e95))]), (4000000512, ((x1 ++ ([x5] : List S66)).flatMap o66)), (513, ((x2 ++ ([x4] : List Int)).flatMap encI))] (shc 256 (a2c (.z .s) (a2c (.z (frz_sl e95_ok (fun h => h))) a2n)) (shc 4000000512 (rowF o66_ok _) (shc 513 (rowF encI_ok _) shn))) (enc_ (.z .s) (enc_ (.pt (memP_mem (p := (256, 256)) rfl)) (enc_ (.rf (memP_mem (p := (4000000512, 4000000512)) rfl)) (enc_ (.rf (memP_mem (p := (513, 513)) rfl)) (enc_ (.z (frz_sl (e66_ok true) (fun h => h))) (enc_ (.z .s) (enc_ (.z .s) enn))))))) ?_
              exact ih0 a0 a1 a2 (x1 ++ ([x5] : List S66)) (x2 ++ ([x4] : List Int)) (wrap64 (x3 + 1)) _ h
            · rw [if_neg c5] at h
              cases h
          · rw [if_neg c4] at h
            cases h
      · rw [if_neg c2] at h
        cases h
    · rw [if_neg c1] at h
      refine .cond' (.tmp 18) false [c_ 30, c_ 31] (bF (dF c1)) ?_
      refine .reg' [6, 7] [] ⟨[(6, (.rf 4000000512 0 x1.length 2 (x1.length * 2))), (7, (.rf 513 0 x2.length 1 (x2.length * 1)))], [(256, [(I a0.f0), (.sl true a0.f1.length 4 (a0.f1.flatMap e95))]), (4000000512, (x1.flatMap o66)), (513, (x2.flatMap encI))], [], []⟩ [c_ 31] aln nocal ?_
      have h := Option.some.inj h
      subst h
      exact .fin' [] [(4000000512, 4000000512), (513, 513)] (.tp [(.rf 4000000512 0 x1.length 2 (x1.length * 2)), (.rf 513 0 x2.length 1 (x2.length * 1))]) [] aln (shc 4000000512 (rowF o66_ok _) (shc 513 (rowF encI_ok _) shn)) (cnv_tp (a2c (.rf (memP_mem (p := (4000000512, 4000000512)) rfl)) (a2c (.rf (memP_mem (p := (513, 513)) rfl)) a2n)))
theorem impl_Settle.J (k : Nat) (a0 : S46) (a1 : (List S66)) (a2 : Int) (r : ((List S66) × (List Int))) (h : impl_Settle.f k a0 a1 a2 = some r) : J prog (.call 45 [(.ag [(I a0.f0), (.sl true a0.f1.length 4 (a0.f1.flatMap e95))]), (.sl true a1.length 2 (a1.flatMap (e66 true))), (I a2)] [] (.tp [(.rf 4000000512 0 r.1.length 2 (r.1.length * 2)), (.rf 513 0 r.2.length 1 (r.2.length * 1))]) [(4000000512, (r.1.flatMap o66)), (513, (r.2.flatMap encI))]) := by
  unfold impl_Settle.f at h
  have ih0 := impl_Settle.lab k
  refine .call' [c_ 2, c_ 3] ?_
  refine .reg' [1, 2, 3] [] ⟨[(1, (.sl true a1.length 2 (a1.flatMap (e66 true)))), (2, (I a2)), (3, (.pt 256 0 2))], [(256, [(I a0.f0), (.sl true a0.f1.length 4 (a0.f1.flatMap e95))])], [], []⟩ [c_ 6, c_ 7] aln nocal ?_
  refine .reg' [1, 2, 3, 8, 9] [] ⟨[(1, (.sl true a1.length 2 (a1.flatMap (e66 true)))), (2, (I a2)), (3, (.pt 256 0 2)), (8, (.rf 512 0 (([] : List S66).length) 2 (([] : List S66).length * 2))), (9, (.rf 513 0 (([] : List Int).length) 1 (([] : List Int).length * 1)))], [(256, [(I a0.f0), (.sl true a0.f1.length 4 (a0.f1.flatMap e95))]), (512, (([] : List S66).flatMap (e66 false))), (513, (([] : List Int).flatMap encI))], [], []⟩ [c_ 28, c_ 29, c_ 15] aln nocal ?_
  refine .wk' [] [(256, 256), (512, 4000000512), (513, 513)] [(1, (.sl true a1.length 2 (a1.flatMap (e66 true)))), (2, (I a2)), (3, (.pt 256 0 2)), (8, (.rf 4000000512 0 (([] : List S66).length) 2 (([] : List S66).length * 2))), (9, (.rf 513 0 (([] : List Int).length) 1 (([] : List Int).length * 1)))] [(256, [(I a0.f0), (.sl true a0.f1.length 4 (a0.f1.flatMap e95))]), (4000000512, (([] : List S66).flatMap o66)), (513, (([] : List Int).flatMap encI))] (shc 256 (a2c (.z .s) (a2c (.z (frz_sl e95_ok (fun h => h))) a2n)) (shcA 512 a2n (.inl rfl) (shc 513 (rowF encI_ok _) shn))) (enc_ (.z (frz_sl (e66_ok true) (fun h => h))) (enc_ (.z .s) (enc_ (.pt (memP_mem (p := (256, 256)) rfl)) (enc_ (.rf (memP_mem (p := (512, 4000000512)) rfl)) (enc_ (.rf (memP_mem (p := (513, 513)) rfl)) enn))))) ?_
  refine .reg' [2, 3, 8, 9, 15, 16, 17] [] ⟨[(2, (I a2)), (3, (.pt 256 0 2)), (8, (.rf 4000000512 0 (([] : List S66).length) 2 (([] : List S66).length * 2))), (9, (.rf 513 0 (([] : List Int).length) 1 (([] : List Int).length * 1))), (15, (.sl true a1.length 2 (a1.flatMap (e66 true)))), (16, (I (a1.length : Int))), (17, (I 0))], [(256, [(I a0.f0), (.sl true a0.f1.length 4 (a0.f1.flatMap e95))]), (4000000512, (([] : List S66).flatMap o66)), (513, (([] : List Int).flatMap encI))], [], []⟩ [l_ 58, b_ 0, c_ 15] aln nocal ?_
  exact ih0 a0 a1 a2 ([] : List S66) ([] : List Int) 0 _ h
/-! laws_eqCall: function 97 -/
def laws_eqCall.f (a0 : S89) (a1 : S89) : Option Bool := (if a0.f0 = a1.f0 then (if a0.f1 = a1.f1 then (if a0.f2 = a1.f2 then (some true) else (some false)) else (some false)) else (some false))
theorem laws_eqCall.J (a0 : S89) (a1 : S89) (r : Bool) (h : laws_eqCall.f a0 a1 = some r) : J prog (.call 97 [(.ag [(I a0.f0), (I a0.f1), (I a0.f2)]), (.ag [(I a1.f0), (I a1.f1), (I a1.f2)])] [] (B r) []) := by
  unfold laws_eqCall.f at h
  refine .call' [c_ 2, c_ 3] ?_
  refine .reg' [2, 3] [] ⟨[(2, (.pt 256 0 3)), (3, (.pt 257 0 3))], [(256, [(I a0.f0), (I a0.f1), (I a0.f2)]), (257, [(I a1.f0), (I a1.f1), (I a1.f2)])], [], []⟩ [c_ 12, c_ 13, c_ 7] aln nocal ?_
  refine .reg' [2, 3, 9] [] ⟨[(2, (.pt 256 0 3)), (3, (.pt 257 0 3)), (9, (B (!(a0.f0 == a1.f0))))], [(256, [(I a0.f0), (I a0.f1), (I a0.f2)]), (257, [(I a1.f0), (I a1.f1), (I a1.f2)])], [3 = 3 ∧ 0 + 1 ≤ 3, 3 = 3 ∧ 0 + 1 ≤ 3], []⟩ [c_ 13, c_ 7] (alc ⟨rfl, by decide⟩ (alc ⟨rfl, by decide⟩ aln)) nocal ?_
  by_cases c1 : a0.f0 = a1.f0
  · rw [if_pos c1] at h
    refine .cond' (.tmp 9) false [c_ 28, c_ 29, c_ 15] (bF (nF (qT c1))) ?_
    refine .reg' [2, 3, 14] [] ⟨[(2, (.pt 256 0 3)), (3, (.pt 257 0 3)), (14, (B (!(a0.f1 == a1.f1))))], [(256, [(I a0.f0), (I a0.f1), (I a0.f2)]), (257, [(I a1.f0), (I a1.f1), (I a1.f2)])], [3 = 3 ∧ 1 + 1 ≤ 3, 3 = 3 ∧ 1 + 1 ≤ 3], []⟩ [c_ 29, c_ 15] (alc ⟨rfl, by decide⟩ (alc ⟨rfl, by decide⟩ aln)) nocal ?_
    by_cases c2 : a0.f1 = a1.f1
    · rw [if_pos c2] at h
      refine .cond' (.tmp 14) false [c_ 60, c_ 61, c_ 31] (bF (nF (qT c2))) ?_
      refine .reg' [19] [] ⟨[(19, (B (!(a0.f2 == a1.f2))))], [(256, [(I a0.f0), (I a0.f1), (I a0.f2)]), (257, [(I a1.f0), (I a1.f1), (I a1.f2)])], [3 = 3 ∧ 2 + 1 ≤ 3, 3 = 3 ∧ 2 + 1 ≤ 3], []⟩ [c_ 61, c_ 31] (alc ⟨rfl, by decide⟩ (alc ⟨rfl, by decide⟩ aln)) nocal ?_
      by_cases c3 : a0.f2 = a1.f2
      · rw [if_pos c3] at h
        refine .cond' (.tmp 19) false [c_ 62, c_ 63] (bF (nF (qT c3))) ?_
        refine .reg' [4] [] ⟨[(4, (B true))], [(256, [(I a0.f0), (I a0.f1), (I a0.f2)]), (257, [(I a1.f0), (I a1.f1), (I a1.f2)])], [], []⟩ [c_ 63] aln nocal ?_
        have h := Option.some.inj h
        subst h
        exact .fin0 [] (B true) [] aln (.z .s)
      · rw [if_neg c3] at h
        refine .cond' (.tmp 19) true [c_ 244, c_ 245, c_ 31] (bT (nT (qF c3))) ?_
        refine .reg' [4] [] ⟨[(4, (B false))], [(256, [(I a0.f0), (I a0.f1), (I a0.f2)]), (257, [(I a1.f0), (I a1.f1), (I a1.f2)])], [], []⟩ [c_ 245, c_ 31] aln nocal ?_
        have h := Option.some.inj h
        subst h
        exact .fin0 [] (B false) [] aln (.z .s)
    · rw [if_neg c2] at h
      refine .cond' (.tmp 14) true [c_ 116, c_ 117, c_ 15] (bT (nT (qF c2))) ?_
      refine .reg' [4] [] ⟨[(4, (B false))], [(256, [(I a0.f0), (I a0.f1), (I a0.f2)]), (257, [(I a1.f0), (I a1.f1), (I a1.f2)])], [], []⟩ [c_ 117, c_ 15] aln nocal ?_
      have h := Option.some.inj h
      subst h
      exact .fin0 [] (B false) [] aln (.z .s)
  · rw [if_neg c1] at h
    refine .cond' (.tmp 9) true [c_ 52, c_ 53, c_ 7] (bT (nT (qF c1))) ?_
    refine .reg' [4] [] ⟨[(4, (B false))], [(256, [(I a0.f0), (I a0.f1), (I a0.f2)]), (257, [(I a1.f0), (I a1.f1), (I a1.f2)])], [], []⟩ [c_ 53, c_ 7] aln nocal ?_
    have h := Option.some.inj h
    subst h
    exact .fin0 [] (B false) [] aln (.z .s)
/-! laws_eqCallS: function 80 -/
def laws_eqCallS.l0 : Nat → (List S89) → (List S89) → Int → Option Bool
 | 0, _, _, _ => none
 | k + 1, a0, a1, x1 => (if x1 < (a0.length : Int) then (if 0 ≤ x1 then (if x1 < (a1.length : Int) then ((laws_eqCall.f (at_ a0 x1) (at_ a1 x1)).bind fun x2 => (if x2 = true then (laws_eqCallS.l0 k a0 a1 (wrap64 (x1 + 1))) else (some false))) else none) else none) else (some true))
def laws_eqCallS.f (k : Nat) (a0 : (List S89)) (a1 : (List S89)) : Option Bool := (if (a0.length : Int) = (a1.length : Int) then (laws_eqCallS.l0 k a0 a1 0) else (some false))
theorem laws_eqCallS.lab : ∀ k, (∀ (a0 : (List S89)) (a1 : (List S89)) (x1 : Int) (r : Bool), laws_eqCallS.l0 k a0 a1 x1 = some r → J prog (.run 80 [] [l_ 58, b_ 0, c_ 15] [(0, (.sl true a0.length 3 (a0.flatMap e89))), (1, (.sl true a1.length 3 (a1.flatMap e89))), (5, (I x1))] [] (B r) []))
 | 0 => (by intro a0 a1 x1 r h; unfold laws_eqCallS.l0 at h; cases h)
 | k + 1 => by
  have ih0 := laws_eqCallS.lab k
  · intro a0 a1 x1 r h
    unfold laws_eqCallS.l0 at h
    refine .loop' [c_ 464, c_ 465, c_ 233, l_ 58, b_ 0, c_ 15] ?_
    refine .reg' [0, 1, 5, 14] [] ⟨[(0, (.sl true a0.length 3 (a0.flatMap e89))), (1, (.sl true a1.length 3 (a1.flatMap e89))), (5, (I x1)), (14, (B (decide (x1 < (a0.length : Int)))))], [], [], []⟩ [c_ 465, c_ 233, l_ 58, b_ 0, c_ 15] aln nocal ?_
    by_cases c2 : x1 < (a0.length : Int)
    · rw [if_pos c2] at h
      refine .cond' (.tmp 14) true [c_ 1864, c_ 1865, b_ 1, c_ 467, l_ 58, b_ 0, c_ 15] (bT (dT c2)) ?_
      by_cases c3 : 0 ≤ x1
      · rw [if_pos c3] at h
        by_cases c4 : x1 < (a1.length : Int)
        · rw [if_pos c4] at h
          obtain ⟨x2, hx2, h⟩ := Option.bind_eq_some_iff.mp h
          refine .reg' [0, 1, 5, 26] [.no, .no, .no, .v (.ag [(I (at_ a0 x1).f0), (I (at_ a0 x1).f1), (I (at_ a0 x1).f2)]), .no, .no, .no, .v (.ag [(I (at_ a1 x1).f0), (I (at_ a1 x1).f1), (I (at_ a1 x1).f2)]), .c ⟨97, [(.ag [(I (at_ a0 x1).f0), (I (at_ a0 x1).f1), (I (at_ a0 x1).f2)]), (.ag [(I (at_ a1 x1).f0), (I (at_ a1 x1).f1), (I (at_ a1 x1).f2)])], [], (B x2), [], [], [], [], (B x2), []⟩] ⟨[(0, (.sl true a0.length 3 (a0.flatMap e89))), (1, (.sl true a1.length 3 (a1.flatMap e89))), (5, (I x1)), (26, (B (!x2)))], [], [(0 : Int) ≤ x1 ∧ x1 < (a0.length : Int), rdC prog 90 ((a0.flatMap e89).drop (x1.toNat * 3)) = (.ag [(I (at_ a0 x1).f0), (I (at_ a0 x1).f1), (I (at_ a0 x1).f2)]), 3 ≤ ((a0.flatMap e89).drop (x1.toNat * 3)).length, (0 : Int) ≤ x1 ∧ x1 < (a1.length : Int), rdC prog 90 ((a1.flatMap e89).drop (x1.toNat * 3)) = (.ag [(I (at_ a1 x1).f0), (I (at_ a1 x1).f1), (I (at_ a1 x1).f2)]), 3 ≤ ((a1.flatMap e89).drop (x1.toNat * 3)).length, COK (hget []) [(.ag [(I (at_ a0 x1).f0), (I (at_ a0 x1).f1), (I (at_ a0 x1).f2)]), (.ag [(I (at_ a1 x1).f0), (I (at_ a1 x1).f1), (I (at_ a1 x1).f2)])] ⟨97, [(.ag [(I (at_ a0 x1).f0), (I (at_ a0 x1).f1), (I (at_ a0 x1).f2)]), (.ag [(I (at_ a1 x1).f0), (I (at_ a1 x1).f1), (I (at_ a1 x1).f2)])], [], (B x2), [], [], [], [], (B x2), []⟩], [⟨97, [(.ag [(I (at_ a0 x1).f0), (I (at_ a0 x1).f1), (I (at_ a0 x1).f2)]), (.ag [(I (at_ a1 x1).f0), (I (at_ a1 x1).f1), (I (at_ a1 x1).f2)])], [], (B x2), [], [], [], [], (B x2), []⟩]⟩ [c_ 1865, b_ 1, c_ 467, l_ 58, b_ 0, c_ 15] (alc ⟨c3, c2⟩ (alc (ldA e89_ok rfl rfl c3 c2) (alc (okI e89_ok c3 c2 (by decide)) (alc ⟨c3, c4⟩ (alc (ldA e89_ok rfl rfl c3 c4) (alc (okI e89_ok c3 c4 (by decide)) (alc (cok0 false (a2c (.z (frz_ag (a2c .s (a2c .s (a2c .s a2n))))) (a2c (.z (frz_ag (a2c .s (a2c .s (a2c .s a2n))))) a2n)) (.z .s) (fun h => absurd h (by decide))) aln))))))) (acal (laws_eqCall.J (at_ a0 x1) (at_ a1 x1) _ hx2) nocal) ?_
          by_cases c5 : x2 = true
          · rw [if_pos c5] at h
            refine .cond' (.tmp 26) false [c_ 467, l_ 58, b_ 0, c_ 15] (bF (nF c5)) ?_
            refine .reg' [0, 1, 5] [] ⟨[(0, (.sl true a0.length 3 (a0.flatMap e89))), (1, (.sl true a1.length 3 (a1.flatMap e89))), (5, (I (wrap64 (x1 + 1))))], [], [], []⟩ [l_ 58, b_ 0, c_ 15] aln nocal ?_
            exact ih0 a0 a1 (wrap64 (x1 + 1)) _ h
          · rw [if_neg c5] at h
            refine .cond' (.tmp 26) true [c_ 7460, c_ 7461, b_ 1, c_ 467, l_ 58, b_ 0, c_ 15] (bT (nT (vF c5))) ?_
            refine .reg' [4] [] ⟨[(4, (B false))], [], [], []⟩ [c_ 7461, b_ 1, c_ 467, l_ 58, b_ 0, c_ 15] aln nocal ?_
            have h := Option.some.inj h
            subst h
            exact .fin0 [] (B false) [] aln (.z .s)
        · rw [if_neg c4] at h
          cases h
      · rw [if_neg c3] at h
        cases h
    · rw [if_neg c2] at h
      refine .cond' (.tmp 14) false [c_ 30, c_ 31] (bF (dF c2)) ?_
      refine .reg' [4] [] ⟨[(4, (B true))], [], [], []⟩ [c_ 31] aln nocal ?_
      have h := Option.some.inj h
      subst h
      exact .fin0 [] (B true) [] aln (.z .s)
theorem laws_eqCallS.J (k : Nat) (a0 : (List S89)) (a1 : (List S89)) (r : Bool) (h : laws_eqCallS.f k a0 a1 = some r) : J prog (.call 80 [(.sl true a0.length 3 (a0.flatMap e89)), (.sl true a1.length 3 (a1.flatMap e89))] [] (B r) []) := by
  unfold laws_eqCallS.f at h
  have ih0 := laws_eqCallS.lab k
  refine .call' [c_ 2, c_ 3] ?_
  refine .reg' [0, 1] [] ⟨[(0, (.sl true a0.length 3 (a0.flatMap e89))), (1, (.sl true a1.length 3 (a1.flatMap e89)))], [], [], []⟩ [c_ 12, c_ 13, c_ 7] aln nocal ?_
  refine .reg' [0, 1, 10] [] ⟨[(0, (.sl true a0.length 3 (a0.flatMap e89))), (1, (.sl true a1.length 3 (a1.flatMap e89))), (10, (B (!((a0.length : Int) == (a1.length : Int)))))], [], [], []⟩ [c_ 13, c_ 7] aln nocal ?_
  by_cases c1 : (a0.length : Int) = (a1.length : Int)
  · rw [if_pos c1] at h
    refine .cond' (.tmp 10) false [c_ 28, c_ 29, c_ 15] (bF (nF (qT c1))) ?_
    refine .reg' [0, 1, 5] [] ⟨[(0, (.sl true a0.length 3 (a0.flatMap e89))), (1, (.sl true a1.length 3 (a1.flatMap e89))), (5, (I 0))], [], [], []⟩ [l_ 58, b_ 0, c_ 15] aln nocal ?_
    exact ih0 a0 a1 0 _ h
  · rw [if_neg c1] at h
    refine .cond' (.tmp 10) true [c_ 52, c_ 53, c_ 7] (bT (nT (qF c1))) ?_
    refine .reg' [4] [] ⟨[(4, (B false))], [], [], []⟩ [c_ 53, c_ 7] aln nocal ?_
    have h := Option.some.inj h
    subst h
    exact .fin0 [] (B false) [] aln (.z .s)
/-! laws_eqTrip: function 43 -/
def laws_eqTrip.f (k : Nat) (a0 : S66) (a1 : S66) : Option Bool := (if (sEq a0.f0 a1.f0) = true then ((laws_eqCallS.f k a0.f1 a1.f1).bind fun x1 => (if x1 = true then (some true) else (some false))) else (some false))
theorem laws_eqTrip.J (k : Nat) (a0 : S66) (a1 : S66) (r : Bool) (h : laws_eqTrip.f k a0 a1 = some r) : J prog (.call 43 [(.ag [(S a0.f0), (.sl true a0.f1.length 3 (a0.f1.flatMap e89))]), (.ag [(S a1.f0), (.sl true a1.f1.length 3 (a1.f1.flatMap e89))])] [] (B r) []) := by
  unfold laws_eqTrip.f at h
  refine .call' [c_ 2, c_ 3] ?_
  refine .reg' [2, 3] [] ⟨[(2, (.pt 256 0 2)), (3, (.pt 257 0 2))], [(256, [(S a0.f0), (.sl true a0.f1.length 3 (a0.f1.flatMap e89))]), (257, [(S a1.f0), (.sl true a1.f1.length 3 (a1.f1.flatMap e89))])], [], []⟩ [c_ 12, c_ 13, c_ 7] aln nocal ?_
  refine .reg' [2, 3, 9] [] ⟨[(2, (.pt 256 0 2)), (3, (.pt 257 0 2)), (9, (B (!(sEq a0.f0 a1.f0))))], [(256, [(S a0.f0), (.sl true a0.f1.length 3 (a0.f1.flatMap e89))]), (257, [(S a1.f0), (.sl true a1.f1.length 3 (a1.f1.flatMap e89))])], [2 = 2 ∧ 0 + 1 ≤ 2, 2 = 2 ∧ 0 + 1 ≤ 2], []⟩ [c_ 13, c_ 7] (alc ⟨rfl, by decide⟩ (alc ⟨rfl, by decide⟩ aln)) nocal ?_
  by_cases c1 : (sEq a0.f0 a1.f0) = true
  · rw [if_pos c1] at h
    refine .cond' (.tmp 9) false [c_ 28, c_ 29, c_ 15] (bF (nF c1)) ?_
    obtain ⟨x1, hx1, h⟩ := Option.bind_eq_some_iff.mp h
    refine .reg' [15] [.no, .no, .no, .no, .c ⟨80, [(.sl true a0.f1.length 3 (a0.f1.flatMap e89)), (.sl true a1.f1.length 3 (a1.f1.flatMap e89))], [], (B x1), [], [], [], [], (B x1), []⟩] ⟨[(15, (B (!x1)))], [(256, [(S a0.f0), (.sl true a0.f1.length 3 (a0.f1.flatMap e89))]), (257, [(S a1.f0), (.sl true a1.f1.length 3 (a1.f1.flatMap e89))])], [2 = 2 ∧ 1 + 1 ≤ 2, 2 = 2 ∧ 1 + 1 ≤ 2, COK (hget [(256, [(S a0.f0), (.sl true a0.f1.length 3 (a0.f1.flatMap e89))]), (257, [(S a1.f0), (.sl true a1.f1.length 3 (a1.f1.flatMap e89))])]) [(.sl true a0.f1.length 3 (a0.f1.flatMap e89)), (.sl true a1.f1.length 3 (a1.f1.flatMap e89))] ⟨80, [(.sl true a0.f1.length 3 (a0.f1.flatMap e89)), (.sl true a1.f1.length 3 (a1.f1.flatMap e89))], [], (B x1), [], [], [], [], (B x1), []⟩], [⟨80, [(.sl true a0.f1.length 3 (a0.f1.flatMap e89)), (.sl true a1.f1.length 3 (a1.f1.flatMap e89))], [], (B x1), [], [], [], [], (B x1), []⟩]⟩ [c_ 29, c_ 15] (alc ⟨rfl, by decide⟩ (alc ⟨rfl, by decide⟩ (alc (cok0 false (a2c (.z (frz_sl e89_ok (fun h => h))) (a2c (.z (frz_sl e89_ok (fun h => h))) a2n)) (.z .s) (fun h => absurd h (by decide))) aln))) (acal (laws_eqCallS.J k a0.f1 a1.f1 _ hx1) nocal) ?_
    by_cases c2 : x1 = true
    · rw [if_pos c2] at h
      refine .cond' (.tmp 15) false [c_ 30, c_ 31] (bF (nF c2)) ?_
      refine .reg' [4] [] ⟨[(4, (B true))], [(256, [(S a0.f0), (.sl true a0.f1.length 3 (a0.f1.flatMap e89))]), (257, [(S a1.f0), (.sl true a1.f1.length 3 (a1.f1.flatMap e89))])], [], []⟩ [c_ 31] aln nocal ?_
      have h := Option.some.inj h
      subst h
      exact .fin0 [] (B true) [] aln (.z .s)
    · rw [if_neg c2] at h
      refine .cond' (.tmp 15) true [c_ 116, c_ 117, c_ 15] (bT (nT (vF c2))) ?_
      refine .reg' [4] [] ⟨[(4, (B false))], [(256, [(S a0.f0), (.sl true a0.f1.length 3 (a0.f1.flatMap e89))]), (257, [(S a1.f0), (.sl true a1.f1.length 3 (a1.f1.flatMap e89))])], [], []⟩ [c_ 117, c_ 15] aln nocal ?_
      have h := Option.some.inj h
      subst h
      exact .fin0 [] (B false) [] aln (.z .s)
  · rw [if_neg c1] at h
    refine .cond' (.tmp 9) true [c_ 52, c_ 53, c_ 7] (bT (nT (vF c1))) ?_
    refine .reg' [4] [] ⟨[(4, (B false))], [(256, [(S a0.f0), (.sl true a0.f1.length 3 (a0.f1.flatMap e89))]), (257, [(S a1.f0), (.sl true a1.f1.length 3 (a1.f1.flatMap e89))])], [], []⟩ [c_ 53, c_ 7] aln nocal ?_
    have h := Option.some.inj h
    subst h
    exact .fin0 [] (B false) [] aln (.z .s)
/-! laws_eqTripS: function 30 -/
def laws_eqTripS.l0 : Nat → (List S66) → (List S66) → Int → Option Bool
 | 0, _, _, _ => none
 | k + 1, a0, a1, x1 => (if x1 < (a0.length : Int) then (if 0 ≤ x1 then (if x1 < (a1.length : Int) then ((laws_eqTrip.f k (at_ a0 x1) (at_ a1 x1)).bind fun x2 => (if x2 = true then (laws_eqTripS.l0 k a0 a1 (wrap64 (x1 + 1))) else (some false))) else none) else none) else (some true))
def laws_eqTripS.f (k : Nat) (a0 : (List S66)) (a1 : (List S66)) : Option Bool := (if (a0.length : Int) = (a1.length : Int) then (laws_eqTripS.l0 k a0 a1 0) else (some false))
theorem laws_eqTripS.lab : ∀ k, (∀ (a0 : (List S66)) (a1 : (List S66)) (x1 : Int) (r : Bool), laws_eqTripS.l0 k a0 a1 x1 = some r → J prog (.run 30 [] [l_ 58, b_ 0, c_ 15] [(0, (.sl true a0.length 2 (a0.flatMap (e66 true)))), (1, (.sl true a1.length 2 (a1.flatMap (e66 true)))), (5, (I x1))] [] (B r) []))
 | 0 => (by intro a0 a1 x1 r h; unfold laws_eqTripS.l0 at h; cases h)
 | k + 1 => by
  have ih0 := laws_eqTripS.lab k
  · intro a0 a1 x1 r h
    unfold laws_eqTripS.l0 at h
    refine .loop' [c_ 464, c_ 465, c_ 233, l_ 58, b_ 0, c_ 15] ?_
    refine .reg' [0, 1, 5, 14] [] ⟨[(0, (.sl true a0.length 2 (a0.flatMap (e66 true)))), (1, (.sl true a1.length 2 (a1.flatMap (e66 true)))), (5, (I x1)), (14, (B (decide (x1 < (a0.length : Int)))))], [], [], []⟩ [c_ 465, c_ 233, l_ 58, b_ 0, c_ 15] aln nocal ?_
    by_cases c2 : x1 < (a0.length : Int)
    · rw [if_pos c2] at h
      refine .cond' (.tmp 14) true [c_ 1864, c_ 1865, b_ 1, c_ 467, l_ 58, b_ 0, c_ 15] (bT (dT c2)) ?_
      by_cases c3 : 0 ≤ x1
      · rw [if_pos c3] at h
        by_cases c4 : x1 < (a1.length : Int)
        · rw [if_pos c4] at h
          obtain ⟨x2, hx2, h⟩ := Option.bind_eq_some_iff.mp h
          refine .reg' [0, 1, 5, 26] [.no, .no, .no, .v (.ag [(S (at_ a0 x1).f0), (.sl true (at_ a0 x1).f1.length 3 ((at_ a0 x1).f1.flatMap e89))]), .no, .no, .no, .v (.ag [(S (at_ a1 x1).f0), (.sl true (at_ a1 x1).f1.length 3 ((at_ a1 x1).f1.flatMap e89))]), .c ⟨43, [(.ag [(S (at_ a0 x1).f0), (.sl true (at_ a0 x1).f1.length 3 ((at_ a0 x1).f1.flatMap e89))]), (.ag [(S (at_ a1 x1).f0), (.sl true (at_ a1 x1).f1.length 3 ((at_ a1 x1).f1.flatMap e89))])], [], (B x2), [], [], [], [], (B x2), []⟩] ⟨[(0, (.sl true a0.length 2 (a0.flatMap (e66 true)))), (1, (.sl true a1.length 2 (a1.flatMap (e66 true)))), (5, (I x1)), (26, (B (!x2)))], [], [(0 : Int) ≤ x1 ∧ x1 < (a0.length : Int), rdC prog 67 ((a0.flatMap (e66 true)).drop (x1.toNat * 2)) = (.ag [(S (at_ a0 x1).f0), (.sl true (at_ a0 x1).f1.length 3 ((at_ a0 x1).f1.flatMap e89))]), 2 ≤ ((a0.flatMap (e66 true)).drop (x1.toNat * 2)).length, (0 : Int) ≤ x1 ∧ x1 < (a1.length : Int), rdC prog 67 ((a1.flatMap (e66 true)).drop (x1.toNat * 2)) = (.ag [(S (at_ a1 x1).f0), (.sl true (at_ a1 x1).f1.length 3 ((at_ a1 x1).f1.flatMap e89))]), 2 ≤ ((a1.flatMap (e66 true)).drop (x1.toNat * 2)).length, COK (hget []) [(.ag [(S (at_ a0 x1).f0), (.sl true (at_ a0 x1).f1.length 3 ((at_ a0 x1).f1.flatMap e89))]), (.ag [(S (at_ a1 x1).f0), (.sl true (at_ a1 x1).f1.length 3 ((at_ a1 x1).f1.flatMap e89))])] ⟨43, [(.ag [(S (at_ a0 x1).f0), (.sl true (at_ a0 x1).f1.length 3 ((at_ a0 x1).f1.flatMap e89))]), (.ag [(S (at_ a1 x1).f0), (.sl true (at_ a1 x1).f1.length 3 ((at_ a1 x1).f1.flatMap e89))])], [], (B x2), [], [], [], [], (B x2), []⟩], [⟨43, [(.ag [(S (at_ a0 x1).f0), (.sl true (at_ a0 x1).f1.length 3 ((at_ a0 x1).f1.flatMap e89))]), (.ag [(S (at_ a1 x1).f0), (.sl true (at_ a1 x1).f1.length 3 ((at_ a1 x1).f1.flatMap e89))])], [], (B x2), [], [], [], [], (B x2), []⟩]⟩ [c_ 1865, b_ 1, c_ 467, l_ 58, b_ 0, c_ 15] (alc ⟨c3, c2⟩ (alc (ldA (e66_ok true) rfl rfl c3 c2) (alc (okI (e66_ok true) c3 c2 (by decide)) (alc ⟨c3, c4⟩ (alc (ldA (e66_ok true) rfl rfl c3 c4) (alc (okI (e66_ok true) c3 c4 (by decide)) (alc (cok0 false (a2c (.z (frz_ag (a2c .s (a2c (frz_sl e89_ok (fun h => h)) a2n)))) (a2c (.z (frz_ag (a2c .s (a2c (frz_sl e89_ok (fun h => h)) a2n)))) a2n)) (.z .s) (fun h => absurd h (by decide))) aln))))))) (acal (laws_eqTrip.J k (at_ a0 x1) (at_ a1 x1) _ hx2) nocal) ?_
          by_cases c5 : x2 = true
          · rw [if_pos c5] at h
            refine .cond' (.tmp 26) false [c_ 467, l_ 58, b_ 0, c_ 15] (bF (nF c5)) ?_
            refine .reg' [0, 1, 5] [] ⟨[(0, (.sl true a0.length 2 (a0.flatMap (e66 true)))), (1, (.sl true a1.length 2 (a1.flatMap (e66 true)))), (5, (I (wrap64 (x1 + 1))))], [], [], []⟩ [l_ 58, b_ 0, c_ 15] aln nocal ?_
            exact ih0 a0 a1 (wrap64 (x1 + 1)) _ h
          · rw [if_neg c5] at h
            refine .cond' (.tmp 26) true [c_ 7460, c_ 7461, b_ 1, c_ 467, l_ 58, b_ 0, c_ 15] (bT (nT (vF c5))) ?_
            refine .reg' [4] [] ⟨[(4, (B false))], [], [], []⟩ [c_ 7461, b_ 1, c_ 467, l_ 58, b_ 0, c_ 15] aln nocal ?_
            have h := Option.some.inj h
            subst h
            exact .fin0 [] (B false) [] aln (.z .s)
        · rw [if_neg c4] at h
          cases h
      · rw [if_neg c3] at h
        cases h
    · rw [if_neg c2] at h
      refine .cond' (.tmp 14) false [c_ 30, c_ 31] (bF (dF c2)) ?_
      refine .reg' [4] [] ⟨[(4, (B true))], [], [], []⟩ [c_ 31] aln nocal ?_
      have h := Option.some.inj h
      subst h
      exact .fin0 [] (B true) [] aln (.z .s)
theorem laws_eqTripS.J (k : Nat) (a0 : (List S66)) (a1 : (List S66)) (r : Bool) (h : laws_eqTripS.f k a0 a1 = some r) : J prog (.call 30 [(.sl true a0.length 2 (a0.flatMap (e66 true))), (.sl true a1.length 2 (a1.flatMap (e66 true)))] [] (B r) []) := by
  unfold laws_eqTripS.f at h
  have ih0 := laws_eqTripS.lab k
  refine .call' [c_ 2, c_ 3] ?_
  refine .reg' [0, 1] [] ⟨[(0, (.sl true a0.length 2 (a0.flatMap (e66 true)))), (1, (.sl true a1.length 2 (a1.flatMap (e66 true))))], [], [], []⟩ [c_ 12, c_ 13, c_ 7] aln nocal ?_
  refine .reg' [0, 1, 10] [] ⟨[(0, (.sl true a0.length 2 (a0.flatMap (e66 true)))), (1, (.sl true a1.length 2 (a1.flatMap (e66 true)))), (10, (B (!((a0.length : Int) == (a1.length : Int)))))], [], [], []⟩ [c_ 13, c_ 7] aln nocal ?_
  by_cases c1 : (a0.length : Int) = (a1.length : Int)
  · rw [if_pos c1] at h
    refine .cond' (.tmp 10) false [c_ 28, c_ 29, c_ 15] (bF (nF (qT c1))) ?_
    refine .reg' [0, 1, 5] [] ⟨[(0, (.sl true a0.length 2 (a0.flatMap (e66 true)))), (1, (.sl true a1.length 2 (a1.flatMap (e66 true)))), (5, (I 0))], [], [], []⟩ [l_ 58, b_ 0, c_ 15] aln nocal ?_
    exact ih0 a0 a1 0 _ h
  · rw [if_neg c1] at h
    refine .cond' (.tmp 10) true [c_ 52, c_ 53, c_ 7] (bT (nT (qF c1))) ?_
    refine .reg' [4] [] ⟨[(4, (B false))], [], [], []⟩ [c_ 53, c_ 7] aln nocal ?_
    have h := Option.some.inj h
    subst h
    exact .fin0 [] (B false) [] aln (.z .s)
/-! laws_eqIntS: function 46 -/
def laws_eqIntS.l0 : Nat → (List Int) → (List Int) → Int → Option Bool
 | 0, _, _, _ => none
 | k + 1, a0, a1, x1 => (if x1 < (a0.length : Int) then (if 0 ≤ x1 then (if x1 < (a1.length : Int) then (if (at_ a0 x1) = (at_ a1 x1) then (laws_eqIntS.l0 k a0 a1 (wrap64 (x1 + 1))) else (some false)) else none) else none) else (some true))
def laws_eqIntS.f (k : Nat) (a0 : (List Int)) (a1 : (List Int)) : Option Bool := (if (a0.length : Int) = (a1.length : Int) then (laws_eqIntS.l0 k a0 a1 0) else (some false))
theorem laws_eqIntS.lab : ∀ k, (∀ (a0 : (List Int)) (a1 : (List Int)) (x1 : Int) (r : Bool), laws_eqIntS.l0 k a0 a1 x1 = some r → J prog (.run 46 [] [l_ 58, b_ 0, c_ 15] [(0, (.sl true a0.length 1 (a0.flatMap encI))), (1, (.sl true a1.length 1 (a1.flatMap encI))), (5, (I x1))] [] (B r) []))
 | 0 => (by intro a0 a1 x1 r h; unfold laws_eqIntS.l0 at h; cases h)
 | k + 1 => by
  have ih0 := laws_eqIntS.lab k
  · intro a0 a1 x1 r h
    unfold laws_eqIntS.l0 at h
    refine .loop' [c_ 464, c_ 465, c_ 233, l_ 58, b_ 0, c_ 15] ?_
    refine .reg' [0, 1, 5, 14] [] ⟨[(0, (.sl true a0.length 1 (a0.flatMap encI))), (1, (.sl true a1.length 1 (a1.flatMap encI))), (5, (I x1)), (14, (B (decide (x1 < (a0.length : Int)))))], [], [], []⟩ [c_ 465, c_ 233, l_ 58, b_ 0, c_ 15] aln nocal ?_
    by_cases c2 : x1 < (a0.length : Int)
    · rw [if_pos c2] at h
      refine .cond' (.tmp 14) true [c_ 1864, c_ 1865, b_ 1, c_ 467, l_ 58, b_ 0, c_ 15] (bT (dT c2)) ?_
      by_cases c3 : 0 ≤ x1
      · rw [if_pos c3] at h
        by_cases c4 : x1 < (a1.length : Int)
        · rw [if_pos c4] at h
          refine .reg' [0, 1, 5, 25] [.no, .no, .no, .v (I (at_ a0 x1)), .no, .no, .no, .v (I (at_ a1 x1))] ⟨[(0, (.sl true a0.length 1 (a0.flatMap encI))), (1, (.sl true a1.length 1 (a1.flatMap encI))), (5, (I x1)), (25, (B (!((at_ a0 x1) == (at_ a1 x1)))))], [], [(0 : Int) ≤ x1 ∧ x1 < (a0.length : Int), rdC prog 3 ((a0.flatMap encI).drop (x1.toNat * 1)) = (I (at_ a0 x1)), 1 ≤ ((a0.flatMap encI).drop (x1.toNat * 1)).length, (0 : Int) ≤ x1 ∧ x1 < (a1.length : Int), rdC prog 3 ((a1.flatMap encI).drop (x1.toNat * 1)) = (I (at_ a1 x1)), 1 ≤ ((a1.flatMap encI).drop (x1.toNat * 1)).length], []⟩ [c_ 1865, b_ 1, c_ 467, l_ 58, b_ 0, c_ 15] (alc ⟨c3, c2⟩ (alc (ldC1 encI_ok rfl c3 c2) (alc (okI encI_ok c3 c2 (by decide)) (alc ⟨c3, c4⟩ (alc (ldC1 encI_ok rfl c3 c4) (alc (okI encI_ok c3 c4 (by decide)) aln)))))) nocal ?_
          by_cases c5 : (at_ a0 x1) = (at_ a1 x1)
          · rw [if_pos c5] at h
            refine .cond' (.tmp 25) false [c_ 467, l_ 58, b_ 0, c_ 15] (bF (nF (qT c5))) ?_
            refine .reg' [0, 1, 5] [] ⟨[(0, (.sl true a0.length 1 (a0.flatMap encI))), (1, (.sl true a1.length 1 (a1.flatMap encI))), (5, (I (wrap64 (x1 + 1))))], [], [], []⟩ [l_ 58, b_ 0, c_ 15] aln nocal ?_
            exact ih0 a0 a1 (wrap64 (x1 + 1)) _ h
          · rw [if_neg c5] at h
            refine .cond' (.tmp 25) true [c_ 7460, c_ 7461, b_ 1, c_ 467, l_ 58, b_ 0, c_ 15] (bT (nT (qF c5))) ?_
            refine .reg' [4] [] ⟨[(4, (B false))], [], [], []⟩ [c_ 7461, b_ 1, c_ 467, l_ 58, b_ 0, c_ 15] aln nocal ?_
            have h := Option.some.inj h
            subst h
            exact .fin0 [] (B false) [] aln (.z .s)
        · rw [if_neg c4] at h
          cases h
      · rw [if_neg c3] at h
        cases h
    · rw [if_neg c2] at h
      refine .cond' (.tmp 14) false [c_ 30, c_ 31] (bF (dF c2)) ?_
      refine .reg' [4] [] ⟨[(4, (B true))], [], [], []⟩ [c_ 31] aln nocal ?_
      have h := Option.some.inj h
      subst h
      exact .fin0 [] (B true) [] aln (.z .s)
theorem laws_eqIntS.J (k : Nat) (a0 : (List Int)) (a1 : (List Int)) (r : Bool) (h : laws_eqIntS.f k a0 a1 = some r) : J prog (.call 46 [(.sl true a0.length 1 (a0.flatMap encI)), (.sl true a1.length 1 (a1.flatMap encI))] [] (B r) []) := by
  unfold laws_eqIntS.f at h
  have ih0 := laws_eqIntS.lab k
  refine .call' [c_ 2, c_ 3] ?_
  refine .reg' [0, 1] [] ⟨[(0, (.sl true a0.length 1 (a0.flatMap encI))), (1, (.sl true a1.length 1 (a1.flatMap encI)))], [], [], []⟩ [c_ 12, c_ 13, c_ 7] aln nocal ?_
  refine .reg' [0, 1, 10] [] ⟨[(0, (.sl true a0.length 1 (a0.flatMap encI))), (1, (.sl true a1.length 1 (a1.flatMap encI))), (10, (B (!((a0.length : Int) == (a1.length : Int)))))], [], [], []⟩ [c_ 13, c_ 7] aln nocal ?_
  by_cases c1 : (a0.length : Int) = (a1.length : Int)
  · rw [if_pos c1] at h
    refine .cond' (.tmp 10) false [c_ 28, c_ 29, c_ 15] (bF (nF (qT c1))) ?_
    refine .reg' [0, 1, 5] [] ⟨[(0, (.sl true a0.length 1 (a0.flatMap encI))), (1, (.sl true a1.length 1 (a1.flatMap encI))), (5, (I 0))], [], [], []⟩ [l_ 58, b_ 0, c_ 15] aln nocal ?_
    exact ih0 a0 a1 0 _ h
  · rw [if_neg c1] at h
    refine .cond' (.tmp 10) true [c_ 52, c_ 53, c_ 7] (bT (nT (qF c1))) ?_
    refine .reg' [4] [] ⟨[(4, (B false))], [], [], []⟩ [c_ 53, c_ 7] aln nocal ?_
    have h := Option.some.inj h
    subst h
    exact .fin0 [] (B false) [] aln (.z .s)
/-! laws_eqEdge: function 89 -/
def laws_eqEdge.f (a0 : S95) (a1 : S95) : Option Bool := (if a0.f0 = a1.f0 then (if a0.f1 = a1.f1 then (if a0.f2 = a1.f2 then (if a0.f3 = a1.f3 then (some true) else (some false)) else (some false)) else (some false)) else (some false))
end Go.Proofs.Ytebgaiokpncacaa.Fns
