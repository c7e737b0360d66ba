/- The functions that the law FnExactFinish reaches, by the engine. Printed by a program of this seat. -/
import Derived.Test.YtpjmefdpjlhkhaaE5
import Derived.Test.YtpjmefdpjlhkhaaProg
import Derived.Test.YtpjmefdpjlhkhaaFFnExactFinishx0
namespace Go.Proofs.Ytpjmefdpjlhkhaa.Fns
open Go.Proofs.Try Go.Proofs.Ytpjmefdpjlhkhaa.Eng Go.RowKit
set_option maxRecDepth 100000
set_option linter.unusedVariables false
set_option linter.unusedSimpArgs false
theorem spec_l07Search.lab : ∀ k, (∀ (a0 : (List Int)) (a1 : (List S44)) (a2 : (List Bool)) (r : (Bool × (List Bool))), spec_l07Search.f k a0 a1 a2 = some r → J prog (.call 50 [(.sl true a0.length 1 (a0.flatMap encI)), (.sl true a1.length 2 (a1.flatMap e44)), (.rf 32 0 a2.length 1 (a2.length * 1))] [(32, (a2.flatMap encB))] (B r.1) [(32, (r.2.flatMap encB))])) ∧ (∀ (a0 : (List Int)) (a1 : (List S44)) (x3 : (List Bool)) (x4 : Int) (r : (Bool × (List Bool))), spec_l07Search.l0 k a0 a1 x3 x4 = some r → J prog (.run 50 [32] [l_ 122, b_ 0, c_ 31] [(0, (.sl true a0.length 1 (a0.flatMap encI))), (1, (.sl true a1.length 2 (a1.flatMap e44))), (2, (.rf 32 0 x3.length 1 (x3.length * 1))), (7, (I x4))] [(32, (x3.flatMap encB))] (B r.1) [(32, (r.2.flatMap encB))]))
 | 0 => ⟨(by intro a0 a1 a2 r h; unfold spec_l07Search.f at h; cases h), (by intro a0 a1 x3 x4 r h; unfold spec_l07Search.l0 at h; cases h)⟩
 | k + 1 => by
  obtain ⟨ihf, ih0⟩ := spec_l07Search.lab k
  have lenf := spec_l07Search.len k
  refine ⟨?_, ?_⟩
  · intro a0 a1 a2 r h
    unfold spec_l07Search.f at h
    refine .call' [c_ 2, c_ 3] ?_
    refine .reg' [0, 1, 2] [] ⟨[(0, (.sl true a0.length 1 (a0.flatMap encI))), (1, (.sl true a1.length 2 (a1.flatMap e44))), (2, (.rf 32 0 a2.length 1 (a2.length * 1)))], [(32, (a2.flatMap encB))], [], []⟩ [c_ 12, c_ 13, c_ 7] aln nocal ?_
    obtain ⟨x1, hx1, h⟩ := Option.bind_eq_some_iff.mp h
    refine .reg' [0, 1, 2, 11] [.no, .c ⟨47, [(.sl true a1.length 2 (a1.flatMap e44))], [], (B x1), [], [], [], [], (B x1), []⟩] ⟨[(0, (.sl true a0.length 1 (a0.flatMap encI))), (1, (.sl true a1.length 2 (a1.flatMap e44))), (2, (.rf 32 0 a2.length 1 (a2.length * 1))), (11, (B x1))], [(32, (a2.flatMap encB))], [COK (hget [(32, (a2.flatMap encB))]) [(.sl true a1.length 2 (a1.flatMap e44))] ⟨47, [(.sl true a1.length 2 (a1.flatMap e44))], [], (B x1), [], [], [], [], (B x1), []⟩], [⟨47, [(.sl true a1.length 2 (a1.flatMap e44))], [], (B x1), [], [], [], [], (B x1), []⟩]⟩ [c_ 13, c_ 7] (alc (cok0 false (a2c (.z (frz_sl e44_ok (fun h => h))) a2n) (.z .s) (fun h => absurd h (by decide))) aln) (acal (spec_l07Done.J k a1 _ hx1) nocal) ?_
    by_cases c1 : x1 = true
    · rw [if_pos c1] at h
      refine .cond' (.tmp 11) true [c_ 52, c_ 53, c_ 7] (bT c1) ?_
      refine .reg' [6] [] ⟨[(6, (B true))], [(32, (a2.flatMap encB))], [], []⟩ [c_ 53, c_ 7] aln nocal ?_
      have h := Option.some.inj h
      subst h
      exact .fin' [] [(32, 32)] (B true) [] aln (shc 32 (rowF encB_ok _) shn) (.z .s)
    · rw [if_neg c1] at h
      refine .cond' (.tmp 11) false [c_ 14, c_ 15] (bF (vF c1)) ?_
      obtain ⟨x2, hx2, h⟩ := Option.bind_eq_some_iff.mp h
      by_cases c2 : 0 ≤ x2
      · rw [if_pos c2] at h
        by_cases c3 : x2 < (a2.length : Int)
        · rw [if_pos c3] at h
          refine .reg' [0, 1, 2] [.no, .no, .no, .c ⟨58, [(.sl true a0.length 1 (a0.flatMap encI)), (.sl true a1.length 2 (a1.flatMap e44))], [], (I x2), [], [], [], [], (I x2), []⟩, .no, .w .un ((a2.set x2.toNat true).flatMap encB)] ⟨[(0, (.sl true a0.length 1 (a0.flatMap encI))), (1, (.sl true a1.length 2 (a1.flatMap e44))), (2, (.rf 32 0 a2.length 1 (a2.length * 1)))], [(32, ((a2.set x2.toNat true).flatMap encB))], [COK (hget [(32, (a2.flatMap encB))]) [(.sl true a0.length 1 (a0.flatMap encI)), (.sl true a1.length 2 (a1.flatMap e44))] ⟨58, [(.sl true a0.length 1 (a0.flatMap encI)), (.sl true a1.length 2 (a1.flatMap e44))], [], (I x2), [], [], [], [], (I x2), []⟩, (0 : Int) ≤ x2 ∧ x2 < (a2.length : Int), V.un = V.un, spl (a2.flatMap encB) (0 + x2.toNat * 1) [(B true)] = ((a2.set x2.toNat true).flatMap encB), a2.length * 1 = (a2.flatMap encB).length ∧ 0 + x2.toNat * 1 + 1 ≤ (a2.flatMap encB).length], [⟨58, [(.sl true a0.length 1 (a0.flatMap encI)), (.sl true a1.length 2 (a1.flatMap e44))], [], (I x2), [], [], [], [], (I x2), []⟩]⟩ [c_ 60, c_ 61, c_ 31] (alc (cok0 false (a2c (.z (frz_sl encI_ok (fun h => h))) (a2c (.z (frz_sl e44_ok (fun h => h))) a2n)) (.z .s) (fun h => absurd h (by decide))) (alc ⟨c2, c3⟩ (alc rfl (alc (st_row1 encB_ok c2 c3 (B true) rfl) (alc (okA0 encB_ok c2 c3 (by decide)) aln))))) (acal (spec_l07Key.J k a0 a1 _ hx2) nocal) ?_
          refine .eqs (env2 := [(0, (.sl true a0.length 1 (a0.flatMap encI))), (1, (.sl true a1.length 2 (a1.flatMap e44))), (2, (.rf 32 0 ((a2.set x2.toNat true).length) 1 ((a2.set x2.toNat true).length * 1)))]) (H2 := [(32, ((a2.set x2.toNat true).flatMap encB))]) (by first | (simp only [List.length_set]; done) | simp) (by first | rfl | (simp only [List.length_set]; done) | simp) ?_
          refine .reg' [0, 1, 2, 7] [] ⟨[(0, (.sl true a0.length 1 (a0.flatMap encI))), (1, (.sl true a1.length 2 (a1.flatMap e44))), (2, (.rf 32 0 ((a2.set x2.toNat true).length) 1 ((a2.set x2.toNat true).length * 1))), (7, (I 0))], [(32, ((a2.set x2.toNat true).flatMap encB))], [], []⟩ [l_ 122, b_ 0, c_ 31] aln nocal ?_
          exact ih0 a0 a1 (a2.set x2.toNat true) 0 _ h
        · rw [if_neg c3] at h
          cases h
      · rw [if_neg c2] at h
        cases h
  · intro a0 a1 x3 x4 r h
    unfold spec_l07Search.l0 at h
    refine .loop' [c_ 976, c_ 977, c_ 489, l_ 122, b_ 0, c_ 31] ?_
    refine .reg' [0, 1, 2, 7, 20] [] ⟨[(0, (.sl true a0.length 1 (a0.flatMap encI))), (1, (.sl true a1.length 2 (a1.flatMap e44))), (2, (.rf 32 0 x3.length 1 (x3.length * 1))), (7, (I x4)), (20, (B (decide (x4 < (a1.length : Int)))))], [(32, (x3.flatMap encB))], [], []⟩ [c_ 977, c_ 489, l_ 122, b_ 0, c_ 31] aln nocal ?_
    by_cases c4 : x4 < (a1.length : Int)
    · rw [if_pos c4] at h
      refine .cond' (.tmp 20) true [c_ 3912, c_ 3913, b_ 1, c_ 979, l_ 122, b_ 0, c_ 31] (bT (dT c4)) ?_
      obtain ⟨x5, hx5, h⟩ := Option.bind_eq_some_iff.mp h
      refine .reg' [0, 1, 2, 7, 8, 9] [.no, .no, .no, .c ⟨23, [(.sl true a0.length 1 (a0.flatMap encI)), (.sl true a1.length 2 (a1.flatMap e44)), (I x4)], [], (.tp [(.rf 1024 0 x5.1.length 2 (x5.1.length * 2)), (B x5.2)]), [(1024, (x5.1.flatMap e44))], [], [], [(1002051, 1024)], (.tp [(.rf 1002051 0 x5.1.length 2 (x5.1.length * 2)), (B x5.2)]), [(1002051, (x5.1.flatMap e44))]⟩] ⟨[(0, (.sl true a0.length 1 (a0.flatMap encI))), (1, (.sl true a1.length 2 (a1.flatMap e44))), (2, (.rf 32 0 x3.length 1 (x3.length * 1))), (7, (I x4)), (8, (.rf 1002051 0 x5.1.length 2 (x5.1.length * 2))), (9, (B x5.2))], [(32, (x3.flatMap encB)), (1002051, (x5.1.flatMap e44))], [COK (hget [(32, (x3.flatMap encB))]) [(.sl true a0.length 1 (a0.flatMap encI)), (.sl true a1.length 2 (a1.flatMap e44)), (I x4)] ⟨23, [(.sl true a0.length 1 (a0.flatMap encI)), (.sl true a1.length 2 (a1.flatMap e44)), (I x4)], [], (.tp [(.rf 1024 0 x5.1.length 2 (x5.1.length * 2)), (B x5.2)]), [(1024, (x5.1.flatMap e44))], [], [], [(1002051, 1024)], (.tp [(.rf 1002051 0 x5.1.length 2 (x5.1.length * 2)), (B x5.2)]), [(1002051, (x5.1.flatMap e44))]⟩], [⟨23, [(.sl true a0.length 1 (a0.flatMap encI)), (.sl true a1.length 2 (a1.flatMap e44)), (I x4)], [], (.tp [(.rf 1024 0 x5.1.length 2 (x5.1.length * 2)), (B x5.2)]), [(1024, (x5.1.flatMap e44))], [], [], [(1002051, 1024)], (.tp [(.rf 1002051 0 x5.1.length 2 (x5.1.length * 2)), (B x5.2)]), [(1002051, (x5.1.flatMap e44))]⟩]⟩ [c_ 7826, c_ 7827, b_ 1, c_ 979, l_ 122, b_ 0, c_ 31] (alc (cokW false (a2c (.z (frz_sl encI_ok (fun h => h))) (a2c (.z (frz_sl e44_ok (fun h => h))) (a2c (.z .s) a2n))) akn (akc (.inr rfl) akn) (bck_tp (a2c (.rf (memP_mem (p := (1002051, 1024)) rfl)) (a2c (.z .s) a2n))) (akc ⟨_, _, rfl, rfl, rowB e44_c _⟩ akn) (fun h => absurd h (by decide))) aln) (acal (spec_MoveOn.J k a0 a1 x4 _ hx5) nocal) ?_
      by_cases c5 : x5.2 = true
      · rw [if_pos c5] at h
        obtain ⟨x6, hx6, h⟩ := Option.bind_eq_some_iff.mp h
        by_cases c6 : 0 ≤ x6
        · rw [if_pos c6] at h
          by_cases c7 : x6 < (x3.length : Int)
          · rw [if_pos c7] at h
            by_cases c8 : (at_ x3 x6) = true
            · rw [if_pos c8] at h
              refine .reg' [0, 1, 2, 7, 45] [.no, .v (B true), .no, .no, .no, .c ⟨58, [(.sl true a0.length 1 (a0.flatMap encI)), (.sl true x5.1.length 2 (x5.1.flatMap e44))], [], (I x6), [], [1002051], [], [], (I x6), []⟩, .no, .v (B (at_ x3 x6)), .no, .no, .v (B false)] ⟨[(0, (.sl true a0.length 1 (a0.flatMap encI))), (1, (.sl true a1.length 2 (a1.flatMap e44))), (2, (.rf 32 0 x3.length 1 (x3.length * 1))), (7, (I x4)), (45, (B false))], [(32, (x3.flatMap encB)), (1002051, (x5.1.flatMap e44))], [(B x5.2 : V) = B true, COK (hget [(32, (x3.flatMap encB)), (1002051, (x5.1.flatMap e44))]) [(.sl true a0.length 1 (a0.flatMap encI)), (.rf 1002051 0 x5.1.length 2 (x5.1.length * 2))] ⟨58, [(.sl true a0.length 1 (a0.flatMap encI)), (.sl true x5.1.length 2 (x5.1.flatMap e44))], [], (I x6), [], [1002051], [], [], (I x6), []⟩, (0 : Int) ≤ x6 ∧ x6 < (x3.length : Int), rdC prog 4 ((x3.flatMap encB).drop (0 + x6.toNat * 1)) = (B (at_ x3 x6)), x3.length * 1 = (x3.flatMap encB).length ∧ 0 + x6.toNat * 1 + 1 ≤ (x3.flatMap encB).length, (B (!(at_ x3 x6)) : V) = B false], [⟨58, [(.sl true a0.length 1 (a0.flatMap encI)), (.sl true x5.1.length 2 (x5.1.flatMap e44))], [], (I x6), [], [1002051], [], [], (I x6), []⟩]⟩ [c_ 7827, b_ 1, c_ 979, l_ 122, b_ 0, c_ 31] (alc (bT c5) (alc (cok0 false (a2c (.z (frz_sl encI_ok (fun h => h))) (a2c (.z (frz_rf (k := 1002051) e44_ok (by simp) rfl rfl (row_len e44_ok _).symm)) a2n)) (.z .s) (fun h => absurd h (by decide))) (alc ⟨c6, c7⟩ (alc (ldC01 encB_ok rfl c6 c7) (alc (okA0 encB_ok c6 c7 (by decide)) (alc (bF (nF c8)) aln)))))) (acal (spec_l07Key.J k a0 x5.1 _ hx6) nocal) ?_
              refine .cond' (.tmp 45) false [c_ 979, l_ 122, b_ 0, c_ 31] (rfl) ?_
              refine .reg' [0, 1, 2, 7] [] ⟨[(0, (.sl true a0.length 1 (a0.flatMap encI))), (1, (.sl true a1.length 2 (a1.flatMap e44))), (2, (.rf 32 0 x3.length 1 (x3.length * 1))), (7, (I (wrap64 (x4 + 1))))], [(32, (x3.flatMap encB)), (1002051, (x5.1.flatMap e44))], [], []⟩ [l_ 122, b_ 0, c_ 31] aln nocal ?_
              refine .wk' [] [(32, 32)] [(0, (.sl true a0.length 1 (a0.flatMap encI))), (1, (.sl true a1.length 2 (a1.flatMap e44))), (2, (.rf 32 0 x3.length 1 (x3.length * 1))), (7, (I (wrap64 (x4 + 1))))] [(32, (x3.flatMap encB))] (shc 32 (rowF encB_ok _) shn) (enc_ (.z (frz_sl encI_ok (fun h => h))) (enc_ (.z (frz_sl e44_ok (fun h => h))) (enc_ (.rf (memP_mem (p := (32, 32)) rfl)) (enc_ (.z .s) enn)))) ?_
              exact ih0 a0 a1 x3 (wrap64 (x4 + 1)) _ h
            · rw [if_neg c8] at h
              obtain ⟨x7, hx7, h⟩ := Option.bind_eq_some_iff.mp h
              refine .reg' [0, 1, 2, 7, 45] [.no, .v (B true), .no, .no, .no, .c ⟨58, [(.sl true a0.length 1 (a0.flatMap encI)), (.sl true x5.1.length 2 (x5.1.flatMap e44))], [], (I x6), [], [1002051], [], [], (I x6), []⟩, .no, .v (B (at_ x3 x6)), .no, .no, .v (B true), .no, .no, .no, .c ⟨50, [(.sl true a0.length 1 (a0.flatMap encI)), (.sl true x5.1.length 2 (x5.1.flatMap e44)), (.rf 32 0 x3.length 1 (x3.length * 1))], [(32, (x3.flatMap encB))], (B x7.1), [(32, (x7.2.flatMap encB))], [1002051], [(32, 32)], [(32, 32)], (B x7.1), [(32, (x7.2.flatMap encB))]⟩] ⟨[(0, (.sl true a0.length 1 (a0.flatMap encI))), (1, (.sl true a1.length 2 (a1.flatMap e44))), (2, (.rf 32 0 x3.length 1 (x3.length * 1))), (7, (I x4)), (45, (B x7.1))], [(32, (x7.2.flatMap encB)), (1002051, (x5.1.flatMap e44))], [(B x5.2 : V) = B true, COK (hget [(32, (x3.flatMap encB)), (1002051, (x5.1.flatMap e44))]) [(.sl true a0.length 1 (a0.flatMap encI)), (.rf 1002051 0 x5.1.length 2 (x5.1.length * 2))] ⟨58, [(.sl true a0.length 1 (a0.flatMap encI)), (.sl true x5.1.length 2 (x5.1.flatMap e44))], [], (I x6), [], [1002051], [], [], (I x6), []⟩, (0 : Int) ≤ x6 ∧ x6 < (x3.length : Int), rdC prog 4 ((x3.flatMap encB).drop (0 + x6.toNat * 1)) = (B (at_ x3 x6)), x3.length * 1 = (x3.flatMap encB).length ∧ 0 + x6.toNat * 1 + 1 ≤ (x3.flatMap encB).length, (B (!(at_ x3 x6)) : V) = B true, COK (hget [(32, (x3.flatMap encB)), (1002051, (x5.1.flatMap e44))]) [(.sl true a0.length 1 (a0.flatMap encI)), (.rf 1002051 0 x5.1.length 2 (x5.1.length * 2)), (.rf 32 0 x3.length 1 (x3.length * 1))] ⟨50, [(.sl true a0.length 1 (a0.flatMap encI)), (.sl true x5.1.length 2 (x5.1.flatMap e44)), (.rf 32 0 x3.length 1 (x3.length * 1))], [(32, (x3.flatMap encB))], (B x7.1), [(32, (x7.2.flatMap encB))], [1002051], [(32, 32)], [(32, 32)], (B x7.1), [(32, (x7.2.flatMap encB))]⟩], [⟨58, [(.sl true a0.length 1 (a0.flatMap encI)), (.sl true x5.1.length 2 (x5.1.flatMap e44))], [], (I x6), [], [1002051], [], [], (I x6), []⟩, ⟨50, [(.sl true a0.length 1 (a0.flatMap encI)), (.sl true x5.1.length 2 (x5.1.flatMap e44)), (.rf 32 0 x3.length 1 (x3.length * 1))], [(32, (x3.flatMap encB))], (B x7.1), [(32, (x7.2.flatMap encB))], [1002051], [(32, 32)], [(32, 32)], (B x7.1), [(32, (x7.2.flatMap encB))]⟩]⟩ [c_ 7827, b_ 1, c_ 979, l_ 122, b_ 0, c_ 31] (alc (bT c5) (alc (cok0 false (a2c (.z (frz_sl encI_ok (fun h => h))) (a2c (.z (frz_rf (k := 1002051) e44_ok (by simp) rfl rfl (row_len e44_ok _).symm)) a2n)) (.z .s) (fun h => absurd h (by decide))) (alc ⟨c6, c7⟩ (alc (ldC01 encB_ok rfl c6 c7) (alc (okA0 encB_ok c6 c7 (by decide)) (alc (bT (nT (vF c8))) (alc (cokW false (a2c (.z (frz_sl encI_ok (fun h => h))) (a2c (.z (frz_rf (k := 1002051) e44_ok (by simp) rfl rfl (row_len e44_ok _).symm)) (a2c (.rf (memP_mem (p := (32, 32)) rfl)) a2n))) (akc ⟨_, _, rfl, rfl, (rowF encB_ok _)⟩ akn) (akc (.inl rfl) akn) (.z .s) (akc ⟨_, _, rfl, rfl, rowB encB_c _⟩ akn) (fun h => absurd h (by decide))) aln))))))) (acal (spec_l07Key.J k a0 x5.1 _ hx6) (acal (ihf a0 x5.1 x3 _ hx7) nocal)) ?_
              refine .eqs (env2 := [(0, (.sl true a0.length 1 (a0.flatMap encI))), (1, (.sl true a1.length 2 (a1.flatMap e44))), (2, (.rf 32 0 x7.2.length 1 (x7.2.length * 1))), (7, (I x4)), (45, (B x7.1))]) (H2 := [(32, (x7.2.flatMap encB)), (1002051, (x5.1.flatMap e44))]) (by first | (simp only [List.length_set, (lenf a0 x5.1 x3 _ hx7)]; done) | simp) (by first | rfl | (simp only [List.length_set, (lenf a0 x5.1 x3 _ hx7)]; done) | simp) ?_
              by_cases c9 : x7.1 = true
              · rw [if_pos c9] at h
                refine .cond' (.tmp 45) true [c_ 31308, c_ 31309, b_ 1, c_ 979, l_ 122, b_ 0, c_ 31] (bT c9) ?_
                refine .reg' [6] [] ⟨[(6, (B true))], [(32, (x7.2.flatMap encB)), (1002051, (x5.1.flatMap e44))], [], []⟩ [c_ 31309, b_ 1, c_ 979, l_ 122, b_ 0, c_ 31] aln nocal ?_
                have h := Option.some.inj h
                subst h
                exact .fin' [] [(32, 32)] (B true) [] aln (shc 32 (rowF encB_ok _) shn) (.z .s)
              · rw [if_neg c9] at h
                refine .cond' (.tmp 45) false [c_ 979, l_ 122, b_ 0, c_ 31] (bF (vF c9)) ?_
                refine .reg' [0, 1, 2, 7] [] ⟨[(0, (.sl true a0.length 1 (a0.flatMap encI))), (1, (.sl true a1.length 2 (a1.flatMap e44))), (2, (.rf 32 0 x7.2.length 1 (x7.2.length * 1))), (7, (I (wrap64 (x4 + 1))))], [(32, (x7.2.flatMap encB)), (1002051, (x5.1.flatMap e44))], [], []⟩ [l_ 122, b_ 0, c_ 31] aln nocal ?_
                refine .wk' [] [(32, 32)] [(0, (.sl true a0.length 1 (a0.flatMap encI))), (1, (.sl true a1.length 2 (a1.flatMap e44))), (2, (.rf 32 0 x7.2.length 1 (x7.2.length * 1))), (7, (I (wrap64 (x4 + 1))))] [(32, (x7.2.flatMap encB))] (shc 32 (rowF encB_ok _) shn) (enc_ (.z (frz_sl encI_ok (fun h => h))) (enc_ (.z (frz_sl e44_ok (fun h => h))) (enc_ (.rf (memP_mem (p := (32, 32)) rfl)) (enc_ (.z .s) enn)))) ?_
                exact ih0 a0 a1 x7.2 (wrap64 (x4 + 1)) _ h
          · rw [if_neg c7] at h
            cases h
        · rw [if_neg c6] at h
          cases h
      · rw [if_neg c5] at h
        refine .reg' [0, 1, 2, 7, 45] [.no, .v (B false)] ⟨[(0, (.sl true a0.length 1 (a0.flatMap encI))), (1, (.sl true a1.length 2 (a1.flatMap e44))), (2, (.rf 32 0 x3.length 1 (x3.length * 1))), (7, (I x4)), (45, (B false))], [(32, (x3.flatMap encB)), (1002051, (x5.1.flatMap e44))], [(B x5.2 : V) = B false], []⟩ [c_ 7827, b_ 1, c_ 979, l_ 122, b_ 0, c_ 31] (alc (bF (vF c5)) aln) nocal ?_
        refine .cond' (.tmp 45) false [c_ 979, l_ 122, b_ 0, c_ 31] (rfl) ?_
        refine .reg' [0, 1, 2, 7] [] ⟨[(0, (.sl true a0.length 1 (a0.flatMap encI))), (1, (.sl true a1.length 2 (a1.flatMap e44))), (2, (.rf 32 0 x3.length 1 (x3.length * 1))), (7, (I (wrap64 (x4 + 1))))], [(32, (x3.flatMap encB)), (1002051, (x5.1.flatMap e44))], [], []⟩ [l_ 122, b_ 0, c_ 31] aln nocal ?_
        refine .wk' [] [(32, 32)] [(0, (.sl true a0.length 1 (a0.flatMap encI))), (1, (.sl true a1.length 2 (a1.flatMap e44))), (2, (.rf 32 0 x3.length 1 (x3.length * 1))), (7, (I (wrap64 (x4 + 1))))] [(32, (x3.flatMap encB))] (shc 32 (rowF encB_ok _) shn) (enc_ (.z (frz_sl encI_ok (fun h => h))) (enc_ (.z (frz_sl e44_ok (fun h => h))) (enc_ (.rf (memP_mem (p := (32, 32)) rfl)) (enc_ (.z .s) enn)))) ?_
        exact ih0 a0 a1 x3 (wrap64 (x4 + 1)) _ h
    · rw [if_neg c4] at h
      refine .cond' (.tmp 20) false [c_ 62, c_ 63] (bF (dF c4)) ?_
      refine .reg' [6] [] ⟨[(6, (B false))], [(32, (x3.flatMap encB))], [], []⟩ [c_ 63] aln nocal ?_
      have h := Option.some.inj h
      subst h
      exact .fin' [] [(32, 32)] (B false) [] aln (shc 32 (rowF encB_ok _) shn) (.z .s)
theorem spec_l07Search.J (k : Nat) (a0 : (List Int)) (a1 : (List S44)) (a2 : (List Bool)) (r : (Bool × (List Bool))) (h : spec_l07Search.f k a0 a1 a2 = some r) : J prog (.call 50 [(.sl true a0.length 1 (a0.flatMap encI)), (.sl true a1.length 2 (a1.flatMap e44)), (.rf 32 0 a2.length 1 (a2.length * 1))] [(32, (a2.flatMap encB))] (B r.1) [(32, (r.2.flatMap encB))]) := by
  exact (spec_l07Search.lab k).1 a0 a1 a2 r h
/-! spec_CanFinish: function 28 -/
def spec_CanFinish.l0 : Nat → (List Int) → (List S44) → Int → Int → Option Bool
 | 0, _, _, _, _ => none
 | k + 1, a0, a1, x2, x3 => (if x3 < (a1.length : Int) then (spec_CanFinish.l0 k a0 a1 (wrap64 (x2 * (wrap64 ((wrap64 (2 * (a0.length : Int))) - 1)))) (wrap64 (x3 + 1))) else (if 0 ≤ x2 then (if x2 * 1 ≤ 281474976710656 then ((spec_l07Search.f k a0 a1 (List.replicate x2.toNat (false : Bool))).bind fun x4 => (some x4.1)) else none) else none))
def spec_CanFinish.f (k : Nat) (a0 : (List Int)) (a1 : (List S44)) : Option Bool := ((spec_SinglesOk.f k a0 a1).bind fun x1 => (if x1 = true then (spec_CanFinish.l0 k a0 a1 1 0) else (some false)))
theorem spec_CanFinish.lab : ∀ k, (∀ (a0 : (List Int)) (a1 : (List S44)) (x2 : Int) (x3 : Int) (r : Bool), spec_CanFinish.l0 k a0 a1 x2 x3 = some r → J prog (.run 28 [] [l_ 122, b_ 0, c_ 31] [(0, (.sl true a0.length 1 (a0.flatMap encI))), (1, (.sl true a1.length 2 (a1.flatMap e44))), (5, (I x2)), (6, (I x3))] [] (B r) []))
 | 0 => (by intro a0 a1 x2 x3 r h; unfold spec_CanFinish.l0 at h; cases h)
 | k + 1 => by
  have ih0 := spec_CanFinish.lab k
  · intro a0 a1 x2 x3 r h
    unfold spec_CanFinish.l0 at h
    refine .loop' [c_ 976, c_ 977, c_ 489, l_ 122, b_ 0, c_ 31] ?_
    refine .reg' [0, 1, 5, 6, 14] [] ⟨[(0, (.sl true a0.length 1 (a0.flatMap encI))), (1, (.sl true a1.length 2 (a1.flatMap e44))), (5, (I x2)), (6, (I x3)), (14, (B (decide (x3 < (a1.length : Int)))))], [], [], []⟩ [c_ 977, c_ 489, l_ 122, b_ 0, c_ 31] aln nocal ?_
    by_cases c2 : x3 < (a1.length : Int)
    · rw [if_pos c2] at h
      refine .cond' (.tmp 14) true [c_ 1956, b_ 1, c_ 979, l_ 122, b_ 0, c_ 31] (bT (dT c2)) ?_
      refine .reg' [0, 1, 5, 6] [] ⟨[(0, (.sl true a0.length 1 (a0.flatMap encI))), (1, (.sl true a1.length 2 (a1.flatMap e44))), (5, (I (wrap64 (x2 * (wrap64 ((wrap64 (2 * (a0.length : Int))) - 1)))))), (6, (I x3))], [], [], []⟩ [c_ 979, l_ 122, b_ 0, c_ 31] aln nocal ?_
      refine .reg' [0, 1, 5, 6] [] ⟨[(0, (.sl true a0.length 1 (a0.flatMap encI))), (1, (.sl true a1.length 2 (a1.flatMap e44))), (5, (I (wrap64 (x2 * (wrap64 ((wrap64 (2 * (a0.length : Int))) - 1)))))), (6, (I (wrap64 (x3 + 1))))], [], [], []⟩ [l_ 122, b_ 0, c_ 31] aln nocal ?_
      exact ih0 a0 a1 (wrap64 (x2 * (wrap64 ((wrap64 (2 * (a0.length : Int))) - 1)))) (wrap64 (x3 + 1)) _ h
    · rw [if_neg c2] at h
      refine .cond' (.tmp 14) false [c_ 62, c_ 63] (bF (dF c2)) ?_
      by_cases c3 : 0 ≤ x2
      · rw [if_pos c3] at h
        by_cases c4 : x2 * 1 ≤ 281474976710656
        · rw [if_pos c4] at h
          obtain ⟨x4, hx4, h⟩ := Option.bind_eq_some_iff.mp h
          refine .reg' [4] [.no, .no, .no, .w (.rf 2307 0 ((List.replicate x2.toNat (false : Bool)).length) 1 ((List.replicate x2.toNat (false : Bool)).length * 1)) ((List.replicate x2.toNat (false : Bool)).flatMap encB), .c ⟨50, [(.sl true a0.length 1 (a0.flatMap encI)), (.sl true a1.length 2 (a1.flatMap e44)), (.rf 32 0 ((List.replicate x2.toNat (false : Bool)).length) 1 ((List.replicate x2.toNat (false : Bool)).length * 1))], [(32, ((List.replicate x2.toNat (false : Bool)).flatMap encB))], (B x4.1), [(32, (x4.2.flatMap encB))], [], [(2307, 32)], [(2307, 32)], (B x4.1), [(2307, (x4.2.flatMap encB))]⟩] ⟨[(4, (B x4.1))], [(2307, (x4.2.flatMap encB))], [V.rf 2307 0 x2.toNat 1 (x2.toNat * 1) = (.rf 2307 0 ((List.replicate x2.toNat (false : Bool)).length) 1 ((List.replicate x2.toNat (false : Bool)).length * 1)), rept x2.toNat [(B false)] = (List.replicate x2.toNat (false : Bool)).flatMap encB, x2 = x2 ∧ 0 ≤ x2 ∧ x2 * 1 ≤ 281474976710656 ∧ x2 ≤ 9223372036854775807, COK (hget [(2307, ((List.replicate x2.toNat (false : Bool)).flatMap encB))]) [(.sl true a0.length 1 (a0.flatMap encI)), (.sl true a1.length 2 (a1.flatMap e44)), (.rf 2307 0 ((List.replicate x2.toNat (false : Bool)).length) 1 ((List.replicate x2.toNat (false : Bool)).length * 1))] ⟨50, [(.sl true a0.length 1 (a0.flatMap encI)), (.sl true a1.length 2 (a1.flatMap e44)), (.rf 32 0 ((List.replicate x2.toNat (false : Bool)).length) 1 ((List.replicate x2.toNat (false : Bool)).length * 1))], [(32, ((List.replicate x2.toNat (false : Bool)).flatMap encB))], (B x4.1), [(32, (x4.2.flatMap encB))], [], [(2307, 32)], [(2307, 32)], (B x4.1), [(2307, (x4.2.flatMap encB))]⟩], [⟨50, [(.sl true a0.length 1 (a0.flatMap encI)), (.sl true a1.length 2 (a1.flatMap e44)), (.rf 32 0 ((List.replicate x2.toNat (false : Bool)).length) 1 ((List.replicate x2.toNat (false : Bool)).length * 1))], [(32, ((List.replicate x2.toNat (false : Bool)).flatMap encB))], (B x4.1), [(32, (x4.2.flatMap encB))], [], [(2307, 32)], [(2307, 32)], (B x4.1), [(2307, (x4.2.flatMap encB))]⟩]⟩ [c_ 63] (alc mkV (alc (row_rept1 (enc := encB) (x := false) (v := (B false)) rfl _) (alc ⟨rfl, c3, c4, by omega⟩ (alc (cokW false (a2c (.z (frz_sl encI_ok (fun h => h))) (a2c (.z (frz_sl e44_ok (fun h => h))) (a2c (.rf (memP_mem (p := (2307, 32)) rfl)) a2n))) (akc ⟨_, _, rfl, rfl, (rowF encB_ok _)⟩ akn) (akc (.inl rfl) akn) (.z .s) (akc ⟨_, _, rfl, rfl, rowB encB_c _⟩ akn) (fun h => absurd h (by decide))) aln)))) (acal (spec_l07Search.J k a0 a1 (List.replicate x2.toNat (false : Bool)) _ hx4) nocal) ?_
          have h := Option.some.inj h
          subst h
          exact .fin0 [] (B x4.1) [] aln (.z .s)
        · rw [if_neg c4] at h
          cases h
      · rw [if_neg c3] at h
        cases h
theorem spec_CanFinish.J (k : Nat) (a0 : (List Int)) (a1 : (List S44)) (r : Bool) (h : spec_CanFinish.f k a0 a1 = some r) : J prog (.call 28 [(.sl true a0.length 1 (a0.flatMap encI)), (.sl true a1.length 2 (a1.flatMap e44))] [] (B r) []) := by
  unfold spec_CanFinish.f at h
  have ih0 := spec_CanFinish.lab k
  refine .call' [c_ 2, c_ 3] ?_
  refine .reg' [0, 1] [] ⟨[(0, (.sl true a0.length 1 (a0.flatMap encI))), (1, (.sl true a1.length 2 (a1.flatMap e44)))], [], [], []⟩ [c_ 12, c_ 13, c_ 7] aln nocal ?_
  obtain ⟨x1, hx1, h⟩ := Option.bind_eq_some_iff.mp h
  refine .reg' [0, 1, 10] [.no, .no, .c ⟨13, [(.sl true a0.length 1 (a0.flatMap encI)), (.sl true a1.length 2 (a1.flatMap e44))], [], (B x1), [], [], [], [], (B x1), []⟩] ⟨[(0, (.sl true a0.length 1 (a0.flatMap encI))), (1, (.sl true a1.length 2 (a1.flatMap e44))), (10, (B (!x1)))], [], [COK (hget []) [(.sl true a0.length 1 (a0.flatMap encI)), (.sl true a1.length 2 (a1.flatMap e44))] ⟨13, [(.sl true a0.length 1 (a0.flatMap encI)), (.sl true a1.length 2 (a1.flatMap e44))], [], (B x1), [], [], [], [], (B x1), []⟩], [⟨13, [(.sl true a0.length 1 (a0.flatMap encI)), (.sl true a1.length 2 (a1.flatMap e44))], [], (B x1), [], [], [], [], (B x1), []⟩]⟩ [c_ 13, c_ 7] (alc (cok0 false (a2c (.z (frz_sl encI_ok (fun h => h))) (a2c (.z (frz_sl e44_ok (fun h => h))) a2n)) (.z .s) (fun h => absurd h (by decide))) aln) (acal (spec_SinglesOk.J k a0 a1 _ hx1) nocal) ?_
  by_cases c1 : x1 = true
  · rw [if_pos c1] at h
    refine .cond' (.tmp 10) false [c_ 14, c_ 15] (bF (nF c1)) ?_
    refine .reg' [0, 1, 5] [] ⟨[(0, (.sl true a0.length 1 (a0.flatMap encI))), (1, (.sl true a1.length 2 (a1.flatMap e44))), (5, (I 1))], [], [], []⟩ [c_ 60, c_ 61, c_ 31] aln nocal ?_
    refine .reg' [0, 1, 5, 6] [] ⟨[(0, (.sl true a0.length 1 (a0.flatMap encI))), (1, (.sl true a1.length 2 (a1.flatMap e44))), (5, (I 1)), (6, (I 0))], [], [], []⟩ [l_ 122, b_ 0, c_ 31] aln nocal ?_
    exact ih0 a0 a1 1 0 _ h
  · rw [if_neg c1] at h
    refine .cond' (.tmp 10) true [c_ 52, c_ 53, c_ 7] (bT (nT (vF c1))) ?_
    refine .reg' [4] [] ⟨[(4, (B false))], [], [], []⟩ [c_ 53, c_ 7] aln nocal ?_
    have h := Option.some.inj h
    subst h
    exact .fin0 [] (B false) [] aln (.z .s)
/-! spec_FirstMove: function 30 -/
def spec_FirstMove.l0 : Nat → (List Int) → (List S44) → Int → Option Int
 | 0, _, _, _ => none
 | k + 1, a0, a1, x1 => (if x1 < (a1.length : Int) then ((spec_MoveOn.f k a0 a1 x1).bind fun x2 => (if x2.2 = true then ((spec_CanFinish.f k a0 x2.1).bind fun x3 => (if x3 = true then (some x1) else (spec_FirstMove.l0 k a0 a1 (wrap64 (x1 + 1))))) else (spec_FirstMove.l0 k a0 a1 (wrap64 (x1 + 1))))) else (some (-1)))
def spec_FirstMove.f (k : Nat) (a0 : (List Int)) (a1 : (List S44)) : Option Int := (spec_FirstMove.l0 k a0 a1 0)
theorem spec_FirstMove.lab : ∀ k, (∀ (a0 : (List Int)) (a1 : (List S44)) (x1 : Int) (r : Int), spec_FirstMove.l0 k a0 a1 x1 = some r → J prog (.run 30 [] [l_ 26, b_ 0, c_ 7] [(0, (.sl true a0.length 1 (a0.flatMap encI))), (1, (.sl true a1.length 2 (a1.flatMap e44))), (5, (I x1))] [] (I r) []))
 | 0 => (by intro a0 a1 x1 r h; unfold spec_FirstMove.l0 at h; cases h)
 | k + 1 => by
  have ih0 := spec_FirstMove.lab k
  · intro a0 a1 x1 r h
    unfold spec_FirstMove.l0 at h
    refine .loop' [c_ 208, c_ 209, c_ 105, l_ 26, b_ 0, c_ 7] ?_
    refine .reg' [0, 1, 5, 11] [] ⟨[(0, (.sl true a0.length 1 (a0.flatMap encI))), (1, (.sl true a1.length 2 (a1.flatMap e44))), (5, (I x1)), (11, (B (decide (x1 < (a1.length : Int)))))], [], [], []⟩ [c_ 209, c_ 105, l_ 26, b_ 0, c_ 7] aln nocal ?_
    by_cases c1 : x1 < (a1.length : Int)
    · rw [if_pos c1] at h
      refine .cond' (.tmp 11) true [c_ 840, c_ 841, b_ 1, c_ 211, l_ 26, b_ 0, c_ 7] (bT (dT c1)) ?_
      obtain ⟨x2, hx2, h⟩ := Option.bind_eq_some_iff.mp h
      refine .reg' [0, 1, 5, 6, 7] [.no, .no, .no, .c ⟨23, [(.sl true a0.length 1 (a0.flatMap encI)), (.sl true a1.length 2 (a1.flatMap e44)), (I x1)], [], (.tp [(.rf 1024 0 x2.1.length 2 (x2.1.length * 2)), (B x2.2)]), [(1024, (x2.1.flatMap e44))], [], [], [(1001283, 1024)], (.tp [(.rf 1001283 0 x2.1.length 2 (x2.1.length * 2)), (B x2.2)]), [(1001283, (x2.1.flatMap e44))]⟩] ⟨[(0, (.sl true a0.length 1 (a0.flatMap encI))), (1, (.sl true a1.length 2 (a1.flatMap e44))), (5, (I x1)), (6, (.rf 1001283 0 x2.1.length 2 (x2.1.length * 2))), (7, (B x2.2))], [(1001283, (x2.1.flatMap e44))], [COK (hget []) [(.sl true a0.length 1 (a0.flatMap encI)), (.sl true a1.length 2 (a1.flatMap e44)), (I x1)] ⟨23, [(.sl true a0.length 1 (a0.flatMap encI)), (.sl true a1.length 2 (a1.flatMap e44)), (I x1)], [], (.tp [(.rf 1024 0 x2.1.length 2 (x2.1.length * 2)), (B x2.2)]), [(1024, (x2.1.flatMap e44))], [], [], [(1001283, 1024)], (.tp [(.rf 1001283 0 x2.1.length 2 (x2.1.length * 2)), (B x2.2)]), [(1001283, (x2.1.flatMap e44))]⟩], [⟨23, [(.sl true a0.length 1 (a0.flatMap encI)), (.sl true a1.length 2 (a1.flatMap e44)), (I x1)], [], (.tp [(.rf 1024 0 x2.1.length 2 (x2.1.length * 2)), (B x2.2)]), [(1024, (x2.1.flatMap e44))], [], [], [(1001283, 1024)], (.tp [(.rf 1001283 0 x2.1.length 2 (x2.1.length * 2)), (B x2.2)]), [(1001283, (x2.1.flatMap e44))]⟩]⟩ [c_ 1682, c_ 1683, b_ 1, c_ 211, l_ 26, b_ 0, c_ 7] (alc (cokW false (a2c (.z (frz_sl encI_ok (fun h => h))) (a2c (.z (frz_sl e44_ok (fun h => h))) (a2c (.z .s) a2n))) akn (akc (.inr rfl) akn) (bck_tp (a2c (.rf (memP_mem (p := (1001283, 1024)) rfl)) (a2c (.z .s) a2n))) (akc ⟨_, _, rfl, rfl, rowB e44_c _⟩ akn) (fun h => absurd h (by decide))) aln) (acal (spec_MoveOn.J k a0 a1 x1 _ hx2) nocal) ?_
      by_cases c2 : x2.2 = true
      · rw [if_pos c2] at h
        obtain ⟨x3, hx3, h⟩ := Option.bind_eq_some_iff.mp h
        refine .reg' [0, 1, 5, 26] [.no, .v (B true), .no, .no, .c ⟨28, [(.sl true a0.length 1 (a0.flatMap encI)), (.sl true x2.1.length 2 (x2.1.flatMap e44))], [], (B x3), [], [1001283], [], [], (B x3), []⟩] ⟨[(0, (.sl true a0.length 1 (a0.flatMap encI))), (1, (.sl true a1.length 2 (a1.flatMap e44))), (5, (I x1)), (26, (B x3))], [(1001283, (x2.1.flatMap e44))], [(B x2.2 : V) = B true, COK (hget [(1001283, (x2.1.flatMap e44))]) [(.sl true a0.length 1 (a0.flatMap encI)), (.rf 1001283 0 x2.1.length 2 (x2.1.length * 2))] ⟨28, [(.sl true a0.length 1 (a0.flatMap encI)), (.sl true x2.1.length 2 (x2.1.flatMap e44))], [], (B x3), [], [1001283], [], [], (B x3), []⟩], [⟨28, [(.sl true a0.length 1 (a0.flatMap encI)), (.sl true x2.1.length 2 (x2.1.flatMap e44))], [], (B x3), [], [1001283], [], [], (B x3), []⟩]⟩ [c_ 1683, b_ 1, c_ 211, l_ 26, b_ 0, c_ 7] (alc (bT c2) (alc (cok0 false (a2c (.z (frz_sl encI_ok (fun h => h))) (a2c (.z (frz_rf (k := 1001283) e44_ok (by simp) rfl rfl (row_len e44_ok _).symm)) a2n)) (.z .s) (fun h => absurd h (by decide))) aln)) (acal (spec_CanFinish.J k a0 x2.1 _ hx3) nocal) ?_
        by_cases c3 : x3 = true
        · rw [if_pos c3] at h
          refine .cond' (.tmp 26) true [c_ 6732, c_ 6733, b_ 1, c_ 211, l_ 26, b_ 0, c_ 7] (bT c3) ?_
          refine .reg' [4] [] ⟨[(4, (I x1))], [(1001283, (x2.1.flatMap e44))], [], []⟩ [c_ 6733, b_ 1, c_ 211, l_ 26, b_ 0, c_ 7] aln nocal ?_
          have h := Option.some.inj h
          subst h
          exact .fin0 [] (I x1) [] aln (.z .s)
        · rw [if_neg c3] at h
          refine .cond' (.tmp 26) false [c_ 211, l_ 26, b_ 0, c_ 7] (bF (vF c3)) ?_
          refine .reg' [0, 1, 5] [] ⟨[(0, (.sl true a0.length 1 (a0.flatMap encI))), (1, (.sl true a1.length 2 (a1.flatMap e44))), (5, (I (wrap64 (x1 + 1))))], [(1001283, (x2.1.flatMap e44))], [], []⟩ [l_ 26, b_ 0, c_ 7] aln nocal ?_
          refine .wk' [] [] [(0, (.sl true a0.length 1 (a0.flatMap encI))), (1, (.sl true a1.length 2 (a1.flatMap e44))), (5, (I (wrap64 (x1 + 1))))] [] shn (enc_ (.z (frz_sl encI_ok (fun h => h))) (enc_ (.z (frz_sl e44_ok (fun h => h))) (enc_ (.z .s) enn))) ?_
          exact ih0 a0 a1 (wrap64 (x1 + 1)) _ h
      · rw [if_neg c2] at h
        refine .reg' [0, 1, 5, 26] [.no, .v (B false)] ⟨[(0, (.sl true a0.length 1 (a0.flatMap encI))), (1, (.sl true a1.length 2 (a1.flatMap e44))), (5, (I x1)), (26, (B false))], [(1001283, (x2.1.flatMap e44))], [(B x2.2 : V) = B false], []⟩ [c_ 1683, b_ 1, c_ 211, l_ 26, b_ 0, c_ 7] (alc (bF (vF c2)) aln) nocal ?_
        refine .cond' (.tmp 26) false [c_ 211, l_ 26, b_ 0, c_ 7] (rfl) ?_
        refine .reg' [0, 1, 5] [] ⟨[(0, (.sl true a0.length 1 (a0.flatMap encI))), (1, (.sl true a1.length 2 (a1.flatMap e44))), (5, (I (wrap64 (x1 + 1))))], [(1001283, (x2.1.flatMap e44))], [], []⟩ [l_ 26, b_ 0, c_ 7] aln nocal ?_
        refine .wk' [] [] [(0, (.sl true a0.length 1 (a0.flatMap encI))), (1, (.sl true a1.length 2 (a1.flatMap e44))), (5, (I (wrap64 (x1 + 1))))] [] shn (enc_ (.z (frz_sl encI_ok (fun h => h))) (enc_ (.z (frz_sl e44_ok (fun h => h))) (enc_ (.z .s) enn))) ?_
        exact ih0 a0 a1 (wrap64 (x1 + 1)) _ h
    · rw [if_neg c1] at h
      refine .cond' (.tmp 11) false [c_ 14, c_ 15] (bF (dF c1)) ?_
      refine .reg' [4] [] ⟨[(4, (I (-1)))], [], [], []⟩ [c_ 15] aln nocal ?_
      have h := Option.some.inj h
      subst h
      exact .fin0 [] (I (-1)) [] aln (.z .s)
theorem spec_FirstMove.J (k : Nat) (a0 : (List Int)) (a1 : (List S44)) (r : Int) (h : spec_FirstMove.f k a0 a1 = some r) : J prog (.call 30 [(.sl true a0.length 1 (a0.flatMap encI)), (.sl true a1.length 2 (a1.flatMap e44))] [] (I r) []) := by
  unfold spec_FirstMove.f at h
  have ih0 := spec_FirstMove.lab k
  refine .call' [c_ 2, c_ 3] ?_
  refine .reg' [0, 1] [] ⟨[(0, (.sl true a0.length 1 (a0.flatMap encI))), (1, (.sl true a1.length 2 (a1.flatMap e44)))], [], [], []⟩ [c_ 12, c_ 13, c_ 7] aln nocal ?_
  refine .reg' [0, 1, 5] [] ⟨[(0, (.sl true a0.length 1 (a0.flatMap encI))), (1, (.sl true a1.length 2 (a1.flatMap e44))), (5, (I 0))], [], [], []⟩ [l_ 26, b_ 0, c_ 7] aln nocal ?_
  exact ih0 a0 a1 0 _ h
/-! spec_Finish: function 32 -/
def spec_Finish.l0 : Nat → (List Int) → (List Int) → (List S44) → Option (List Int)
 | 0, _, _, _ => none
 | k + 1, a0, x2, x3 => ((spec_l07Done.f k x3).bind fun x4 => (if x4 = true then (some x2) else ((spec_FirstMove.f k a0 x3).bind fun x5 => (if (x2.length + ([x5] : List Int).length) * 8 ≤ 70368744177664 then ((spec_MoveOn.f k a0 x3 x5).bind fun x6 => (spec_Finish.l0 k a0 (x2 ++ ([x5] : List Int)) x6.1)) else none))))
def spec_Finish.f (k : Nat) (a0 : (List Int)) (a1 : (List S44)) : Option (List Int) := ((spec_CanFinish.f k a0 a1).bind fun x1 => (if x1 = true then (spec_Finish.l0 k a0 ([] : List Int) a1) else (some ([] : List Int))))
theorem spec_Finish.lab : ∀ k, (∀ (a0 : (List Int)) (x2 : (List Int)) (x3 : (List S44)) (r : (List Int)), spec_Finish.l0 k a0 x2 x3 = some r → J prog (.run 32 [] [l_ 124, b_ 0, c_ 63] [(0, (.sl true a0.length 1 (a0.flatMap encI))), (5, (.rf 512 0 x2.length 1 (x2.length * 1))), (6, (.sl true x3.length 2 (x3.flatMap e44)))] [(512, (x2.flatMap encI))] (.rf 512 0 r.length 1 (r.length * 1)) [(512, (r.flatMap encI))]))
 | 0 => (by intro a0 x2 x3 r h; unfold spec_Finish.l0 at h; cases h)
 | k + 1 => by
  have ih0 := spec_Finish.lab k
  · intro a0 x2 x3 r h
    unfold spec_Finish.l0 at h
    refine .loop' [c_ 992, c_ 993, c_ 497, l_ 124, b_ 0, c_ 63] ?_
    obtain ⟨x4, hx4, h⟩ := Option.bind_eq_some_iff.mp h
    refine .reg' [0, 5, 6, 16] [.no, .c ⟨47, [(.sl true x3.length 2 (x3.flatMap e44))], [], (B x4), [], [], [], [], (B x4), []⟩] ⟨[(0, (.sl true a0.length 1 (a0.flatMap encI))), (5, (.rf 512 0 x2.length 1 (x2.length * 1))), (6, (.sl true x3.length 2 (x3.flatMap e44))), (16, (B (!x4)))], [(512, (x2.flatMap encI))], [COK (hget [(512, (x2.flatMap encI))]) [(.sl true x3.length 2 (x3.flatMap e44))] ⟨47, [(.sl true x3.length 2 (x3.flatMap e44))], [], (B x4), [], [], [], [], (B x4), []⟩], [⟨47, [(.sl true x3.length 2 (x3.flatMap e44))], [], (B x4), [], [], [], [], (B x4), []⟩]⟩ [c_ 993, c_ 497, l_ 124, b_ 0, c_ 63] (alc (cok0 false (a2c (.z (frz_sl e44_ok (fun h => h))) a2n) (.z .s) (fun h => absurd h (by decide))) aln) (acal (spec_l07Done.J k x3 _ hx4) nocal) ?_
    by_cases c2 : x4 = true
    · rw [if_pos c2] at h
      refine .cond' (.tmp 16) false [c_ 126, c_ 127] (bF (nF c2)) ?_
      refine .reg' [4] [] ⟨[(4, (.rf 512 0 x2.length 1 (x2.length * 1)))], [(512, (x2.flatMap encI))], [], []⟩ [c_ 127] aln nocal ?_
      have h := Option.some.inj h
      subst h
      exact .fin' [] [(512, 512)] (.rf 512 0 x2.length 1 (x2.length * 1)) [] aln (shc 512 (rowF encI_ok _) shn) (.rf (memP_mem (p := (512, 512)) rfl))
    · rw [if_neg c2] at h
      refine .cond' (.tmp 16) true [c_ 1988, c_ 1989, b_ 1, l_ 124, b_ 0, c_ 63] (bT (nT (vF c2))) ?_
      obtain ⟨x5, hx5, h⟩ := Option.bind_eq_some_iff.mp h
      refine .reg' [0, 5, 6, 7] [.no, .no, .c ⟨30, [(.sl true a0.length 1 (a0.flatMap encI)), (.sl true x3.length 2 (x3.flatMap e44))], [], (I x5), [], [], [], [], (I x5), []⟩] ⟨[(0, (.sl true a0.length 1 (a0.flatMap encI))), (5, (.rf 512 0 x2.length 1 (x2.length * 1))), (6, (.sl true x3.length 2 (x3.flatMap e44))), (7, (I x5))], [(512, (x2.flatMap encI))], [COK (hget [(512, (x2.flatMap encI))]) [(.sl true a0.length 1 (a0.flatMap encI)), (.sl true x3.length 2 (x3.flatMap e44))] ⟨30, [(.sl true a0.length 1 (a0.flatMap encI)), (.sl true x3.length 2 (x3.flatMap e44))], [], (I x5), [], [], [], [], (I x5), []⟩], [⟨30, [(.sl true a0.length 1 (a0.flatMap encI)), (.sl true x3.length 2 (x3.flatMap e44))], [], (I x5), [], [], [], [], (I x5), []⟩]⟩ [c_ 3978, c_ 3979, b_ 1, l_ 124, b_ 0, c_ 63] (alc (cok0 false (a2c (.z (frz_sl encI_ok (fun h => h))) (a2c (.z (frz_sl e44_ok (fun h => h))) a2n)) (.z .s) (fun h => absurd h (by decide))) aln) (acal (spec_FirstMove.J k a0 x3 _ hx5) nocal) ?_
      by_cases c3 : (x2.length + ([x5] : List Int).length) * 8 ≤ 70368744177664
      · rw [if_pos c3] at h
        refine .reg' [0, 5, 6, 7] [.no, .no, .no, .w (.rf 512 0 ((x2 ++ ([x5] : List Int)).length) 1 ((x2 ++ ([x5] : List Int)).length * 1)) ((x2 ++ ([x5] : List Int)).flatMap encI)] ⟨[(0, (.sl true a0.length 1 (a0.flatMap encI))), (5, (.rf 512 0 ((x2 ++ ([x5] : List Int)).length) 1 ((x2 ++ ([x5] : List Int)).length * 1))), (6, (.sl true x3.length 2 (x3.flatMap e44))), (7, (I x5))], [(512, ((x2 ++ ([x5] : List Int)).flatMap encI)), (2050, (([x5] : List Int).flatMap encI))], [V.rf 512 0 (x2.length + ([x5] : List Int).length) 1 (x2.length * 1 + ([x5] : List Int).length * 1) = (.rf 512 0 ((x2 ++ ([x5] : List Int)).length) 1 ((x2 ++ ([x5] : List Int)).length * 1)), x2.flatMap encI ++ (((([x5] : List Int).flatMap encI).drop 0).take (([x5] : List Int).length * 1)) = ((x2 ++ ([x5] : List Int)).flatMap encI), (([x5] : List Int).length * 1 = (([x5] : List Int).flatMap encI).length ∧ 0 + ([x5] : List Int).length * 1 ≤ (([x5] : List Int).flatMap encI).length) ∧ x2.length * 1 = (x2.flatMap encI).length ∧ x2.length * 1 = (x2.flatMap encI).length ∧ (x2.length + ([x5] : List Int).length) * 8 ≤ 70368744177664], []⟩ [c_ 3979, b_ 1, l_ 124, b_ 0, c_ 63] (alc (apV rfl) (alc (apR encI_ok rfl) (alc (apO encI_ok rfl c3 rfl) aln))) nocal ?_
        obtain ⟨x6, hx6, h⟩ := Option.bind_eq_some_iff.mp h
        refine .reg' [0, 5, 6] [.no, .no, .no, .c ⟨23, [(.sl true a0.length 1 (a0.flatMap encI)), (.sl true x3.length 2 (x3.flatMap e44)), (I x5)], [], (.tp [(.rf 1024 0 x6.1.length 2 (x6.1.length * 2)), (B x6.2)]), [(1024, (x6.1.flatMap e44))], [], [], [(1002307, 1024)], (.tp [(.rf 1002307 0 x6.1.length 2 (x6.1.length * 2)), (B x6.2)]), [(1002307, (x6.1.flatMap e44))]⟩] ⟨[(0, (.sl true a0.length 1 (a0.flatMap encI))), (5, (.rf 512 0 ((x2 ++ ([x5] : List Int)).length) 1 ((x2 ++ ([x5] : List Int)).length * 1))), (6, (.rf 1002307 0 x6.1.length 2 (x6.1.length * 2)))], [(512, ((x2 ++ ([x5] : List Int)).flatMap encI)), (2050, (([x5] : List Int).flatMap encI)), (1002307, (x6.1.flatMap e44))], [COK (hget [(512, ((x2 ++ ([x5] : List Int)).flatMap encI)), (2050, (([x5] : List Int).flatMap encI))]) [(.sl true a0.length 1 (a0.flatMap encI)), (.sl true x3.length 2 (x3.flatMap e44)), (I x5)] ⟨23, [(.sl true a0.length 1 (a0.flatMap encI)), (.sl true x3.length 2 (x3.flatMap e44)), (I x5)], [], (.tp [(.rf 1024 0 x6.1.length 2 (x6.1.length * 2)), (B x6.2)]), [(1024, (x6.1.flatMap e44))], [], [], [(1002307, 1024)], (.tp [(.rf 1002307 0 x6.1.length 2 (x6.1.length * 2)), (B x6.2)]), [(1002307, (x6.1.flatMap e44))]⟩], [⟨23, [(.sl true a0.length 1 (a0.flatMap encI)), (.sl true x3.length 2 (x3.flatMap e44)), (I x5)], [], (.tp [(.rf 1024 0 x6.1.length 2 (x6.1.length * 2)), (B x6.2)]), [(1024, (x6.1.flatMap e44))], [], [], [(1002307, 1024)], (.tp [(.rf 1002307 0 x6.1.length 2 (x6.1.length * 2)), (B x6.2)]), [(1002307, (x6.1.flatMap e44))]⟩]⟩ [l_ 124, b_ 0, c_ 63] (alc (cokW false (a2c (.z (frz_sl encI_ok (fun h => h))) (a2c (.z (frz_sl e44_ok (fun h => h))) (a2c (.z .s) a2n))) akn (akc (.inr rfl) akn) (bck_tp (a2c (.rf (memP_mem (p := (1002307, 1024)) rfl)) (a2c (.z .s) a2n))) (akc ⟨_, _, rfl, rfl, rowB e44_c _⟩ akn) (fun h => absurd h (by decide))) aln) (acal (spec_MoveOn.J k a0 x3 x5 _ hx6) nocal) ?_
        refine .wk' [1002307] [(512, 512), (2050, 2050)] [(0, (.sl true a0.length 1 (a0.flatMap encI))), (5, (.rf 512 0 ((x2 ++ ([x5] : List Int)).length) 1 ((x2 ++ ([x5] : List Int)).length * 1))), (6, (.sl false x6.1.length 2 (x6.1.flatMap e44)))] [(512, ((x2 ++ ([x5] : List Int)).flatMap encI)), (2050, (([x5] : List Int).flatMap encI))] (shc 512 (rowF encI_ok _) (shc 2050 (rowF encI_ok _) shn)) (enc_ (.z (frz_sl encI_ok (fun h => h))) (enc_ (.rf (memP_mem (p := (512, 512)) rfl)) (enc_ (.z (frz_rf (k := 1002307) e44_ok (by simp) rfl rfl (row_len e44_ok _).symm)) enn))) ?_
        refine .wk' [] [(512, 512)] [(0, (.sl true a0.length 1 (a0.flatMap encI))), (5, (.rf 512 0 ((x2 ++ ([x5] : List Int)).length) 1 ((x2 ++ ([x5] : List Int)).length * 1))), (6, (.sl true x6.1.length 2 (x6.1.flatMap e44)))] [(512, ((x2 ++ ([x5] : List Int)).flatMap encI))] (shc 512 (rowF encI_ok _) shn) (enc_ (.z (frz_sl encI_ok (fun h => h))) (enc_ (.rf (memP_mem (p := (512, 512)) rfl)) (enc_ (.z (frz_sl (t := false) e44_ok (fun h => absurd h (by decide)))) enn))) ?_
        exact ih0 a0 (x2 ++ ([x5] : List Int)) x6.1 _ h
      · rw [if_neg c3] at h
        cases h
theorem spec_Finish.J (k : Nat) (a0 : (List Int)) (a1 : (List S44)) (r : (List Int)) (h : spec_Finish.f k a0 a1 = some r) : J prog (.call 32 [(.sl true a0.length 1 (a0.flatMap encI)), (.sl true a1.length 2 (a1.flatMap e44))] [] (.rf 512 0 r.length 1 (r.length * 1)) [(512, (r.flatMap encI))]) := by
  unfold spec_Finish.f at h
  have ih0 := spec_Finish.lab k
  refine .call' [c_ 2, c_ 3] ?_
  refine .reg' [0, 1] [] ⟨[(0, (.sl true a0.length 1 (a0.flatMap encI))), (1, (.sl true a1.length 2 (a1.flatMap e44)))], [], [], []⟩ [c_ 6, c_ 7] aln nocal ?_
  refine .reg' [0, 1, 5] [] ⟨[(0, (.sl true a0.length 1 (a0.flatMap encI))), (1, (.sl true a1.length 2 (a1.flatMap e44))), (5, (.rf 512 0 (([] : List Int).length) 1 (([] : List Int).length * 1)))], [(512, (([] : List Int).flatMap encI))], [], []⟩ [c_ 28, c_ 29, c_ 15] aln nocal ?_
  obtain ⟨x1, hx1, h⟩ := Option.bind_eq_some_iff.mp h
  refine .reg' [0, 1, 5, 12] [.no, .no, .c ⟨28, [(.sl true a0.length 1 (a0.flatMap encI)), (.sl true a1.length 2 (a1.flatMap e44))], [], (B x1), [], [], [], [], (B x1), []⟩] ⟨[(0, (.sl true a0.length 1 (a0.flatMap encI))), (1, (.sl true a1.length 2 (a1.flatMap e44))), (5, (.rf 512 0 (([] : List Int).length) 1 (([] : List Int).length * 1))), (12, (B (!x1)))], [(512, (([] : List Int).flatMap encI))], [COK (hget [(512, (([] : List Int).flatMap encI))]) [(.sl true a0.length 1 (a0.flatMap encI)), (.sl true a1.length 2 (a1.flatMap e44))] ⟨28, [(.sl true a0.length 1 (a0.flatMap encI)), (.sl true a1.length 2 (a1.flatMap e44))], [], (B x1), [], [], [], [], (B x1), []⟩], [⟨28, [(.sl true a0.length 1 (a0.flatMap encI)), (.sl true a1.length 2 (a1.flatMap e44))], [], (B x1), [], [], [], [], (B x1), []⟩]⟩ [c_ 29, c_ 15] (alc (cok0 false (a2c (.z (frz_sl encI_ok (fun h => h))) (a2c (.z (frz_sl e44_ok (fun h => h))) a2n)) (.z .s) (fun h => absurd h (by decide))) aln) (acal (spec_CanFinish.J k a0 a1 _ hx1) nocal) ?_
  by_cases c1 : x1 = true
  · rw [if_pos c1] at h
    refine .cond' (.tmp 12) false [c_ 30, c_ 31] (bF (nF c1)) ?_
    refine .reg' [0, 5, 6] [] ⟨[(0, (.sl true a0.length 1 (a0.flatMap encI))), (5, (.rf 512 0 (([] : List Int).length) 1 (([] : List Int).length * 1))), (6, (.sl true a1.length 2 (a1.flatMap e44)))], [(512, (([] : List Int).flatMap encI))], [], []⟩ [l_ 124, b_ 0, c_ 63] aln nocal ?_
    exact ih0 a0 ([] : List Int) a1 _ h
  · rw [if_neg c1] at h
    refine .cond' (.tmp 12) true [c_ 116, c_ 117, c_ 15] (bT (nT (vF c1))) ?_
    refine .reg' [4] [] ⟨[(4, nilS)], [(512, (([] : List Int).flatMap encI))], [], []⟩ [c_ 117, c_ 15] aln nocal ?_
    have h := Option.some.inj h
    subst h
    refine .nl' 513 ?_
    exact .fin' [] [(513, 512)] nilS [] aln (shc 513 (rowF encI_ok _) shn) (.nl (memP_mem (p := (513, 512)) rfl) rfl)
/-! impl_between: function 42 -/
def impl_between.f (a0 : Int) (a1 : Int) (a2 : Int) : Option Bool := (if a0 ≥ a1 then (some (decide (a0 ≤ a2))) else (some false))
theorem impl_between.J (a0 : Int) (a1 : Int) (a2 : Int) (r : Bool) (h : impl_between.f a0 a1 a2 = some r) : J prog (.call 42 [(I a0), (I a1), (I a2)] [] (B r) []) := by
  unfold impl_between.f at h
  refine .call' [c_ 2, c_ 3] ?_
  refine .reg' [0, 1, 2] [] ⟨[(0, (I a0)), (1, (I a1)), (2, (I a2))], [], [], []⟩ [c_ 6, c_ 7] aln nocal ?_
  by_cases c1 : a0 ≥ a1
  · rw [if_pos c1] at h
    refine .reg' [6] [.no, .no, .no, .v (B true)] ⟨[(6, (B (decide (a0 ≤ a2))))], [], [(B (decide (a0 ≥ a1)) : V) = B true], []⟩ [c_ 7] (alc (bT (dT c1)) aln) nocal ?_
    have h := Option.some.inj h
    subst h
    exact .fin0 [] (B (decide (a0 ≤ a2))) [] aln (.z .s)
  · rw [if_neg c1] at h
    refine .reg' [6] [.no, .no, .no, .v (B false)] ⟨[(6, (B false))], [], [(B (decide (a0 ≥ a1)) : V) = B false], []⟩ [c_ 7] (alc (bF (dF c1)) aln) nocal ?_
    have h := Option.some.inj h
    subst h
    exact .fin0 [] (B false) [] aln (.z .s)
/-! impl_fits: function 43 -/
def impl_fits.f (a0 : (List Int)) (a1 : Int) : Option Int := (if (a1.tmod (2 : Int)) = 0 then (if 0 ≤ (wrap64 (a1.tdiv (2 : Int))) then (if (wrap64 (a1.tdiv (2 : Int))) < (a0.length : Int) then (some (at_ a0 (wrap64 (a1.tdiv (2 : Int))))) else none) else none) else (some 1))
theorem impl_fits.J (a0 : (List Int)) (a1 : Int) (r : Int) (h : impl_fits.f a0 a1 = some r) : J prog (.call 43 [(.sl true a0.length 1 (a0.flatMap encI)), (I a1)] [] (I r) []) := by
  unfold impl_fits.f at h
  refine .call' [c_ 2, c_ 3] ?_
  refine .reg' [0, 1] [] ⟨[(0, (.sl true a0.length 1 (a0.flatMap encI))), (1, (I a1))], [], [], []⟩ [c_ 12, c_ 13, c_ 7] aln nocal ?_
  refine .reg' [0, 1, 7] [] ⟨[(0, (.sl true a0.length 1 (a0.flatMap encI))), (1, (I a1)), (7, (B ((a1.tmod (2 : Int)) == 0)))], [], [(2 : Int) ≠ 0], []⟩ [c_ 13, c_ 7] (alc (by decide) aln) nocal ?_
  by_cases c1 : (a1.tmod (2 : Int)) = 0
  · rw [if_pos c1] at h
    refine .cond' (.tmp 7) true [c_ 52, c_ 53, c_ 7] (bT (qT c1)) ?_
    by_cases c2 : 0 ≤ (wrap64 (a1.tdiv (2 : Int)))
    · rw [if_pos c2] at h
      by_cases c3 : (wrap64 (a1.tdiv (2 : Int))) < (a0.length : Int)
      · rw [if_pos c3] at h
        refine .reg' [4] [.no, .no, .no, .no, .v (I (at_ a0 (wrap64 (a1.tdiv (2 : Int)))))] ⟨[(4, (I (at_ a0 (wrap64 (a1.tdiv (2 : Int))))))], [], [(2 : Int) ≠ 0, (0 : Int) ≤ (wrap64 (a1.tdiv (2 : Int))) ∧ (wrap64 (a1.tdiv (2 : Int))) < (a0.length : Int), rdC prog 3 ((a0.flatMap encI).drop ((wrap64 (a1.tdiv (2 : Int))).toNat * 1)) = (I (at_ a0 (wrap64 (a1.tdiv (2 : Int))))), 1 ≤ ((a0.flatMap encI).drop ((wrap64 (a1.tdiv (2 : Int))).toNat * 1)).length], []⟩ [c_ 53, c_ 7] (alc (by decide) (alc ⟨c2, c3⟩ (alc (ldC1 encI_ok rfl c2 c3) (alc (okI encI_ok c2 c3 (by decide)) aln)))) nocal ?_
        have h := Option.some.inj h
        subst h
        exact .fin0 [] (I (at_ a0 (wrap64 (a1.tdiv (2 : Int))))) [] aln (.z .s)
      · rw [if_neg c3] at h
        cases h
    · rw [if_neg c2] at h
      cases h
  · rw [if_neg c1] at h
    refine .cond' (.tmp 7) false [c_ 14, c_ 15] (bF (qF c1)) ?_
    refine .reg' [4] [] ⟨[(4, (I 1))], [], [], []⟩ [c_ 15] aln nocal ?_
    have h := Option.some.inj h
    subst h
    exact .fin0 [] (I 1) [] aln (.z .s)
/-! impl_SinglesOk: function 16 -/
mutual
def impl_SinglesOk.l0 : Nat → (List Int) → (List S44) → Int → Option Bool
 | 0, _, _, _ => none
 | k + 1, a0, a1, x2 => (if x2 < (a0.length : Int) then (if 0 ≤ x2 then ((impl_between.f (at_ a0 x2) 1 4).bind fun x3 => (if x3 = true then (impl_SinglesOk.l0 k a0 a1 (wrap64 (x2 + 1))) else (some false))) else none) else (impl_SinglesOk.l1 k a0 a1 (List.replicate 9 (0 : Int)) 0))
def impl_SinglesOk.l1 : Nat → (List Int) → (List S44) → (List Int) → Int → Option Bool
 | 0, _, _, _, _ => none
 | k + 1, a0, a1, x4, x5 => (if x5 < (a1.length : Int) then (if 0 ≤ x5 then ((impl_between.f ((at_ a1 x5).f0) 0 (wrap64 ((wrap64 (2 * (a0.length : Int))) - 2))).bind fun x6 => (if x6 = true then ((impl_between.f ((at_ a1 x5).f1) 0 (wrap64 ((wrap64 (2 * (a0.length : Int))) - 2))).bind fun x7 => (if x7 = true then (if ((at_ a1 x5).f1.tmod (2 : Int)) = 0 then (if 0 ≤ (at_ a1 x5).f0 then (if (at_ a1 x5).f0 < 9 then (if (at_ a1 x5).f0 < (x4.length : Int) then ((impl_fits.f a0 ((at_ a1 x5).f0)).bind fun x8 => (if (wrap64 ((at_ x4 (at_ a1 x5).f0) + 1)) > x8 then (some false) else (impl_SinglesOk.l1 k a0 a1 (x4.set (at_ a1 x5).f0.toNat (wrap64 ((at_ x4 (at_ a1 x5).f0) + 1))) (wrap64 (x5 + 1))))) else none) else none) else none) else (some false)) else (some false))) else (some false))) else none) else (some true))
end
def impl_SinglesOk.f (k : Nat) (a0 : (List Int)) (a1 : (List S44)) : Option Bool := ((impl_between.f (a0.length : Int) 2 5).bind fun x1 => (if x1 = true then (if (a1.length : Int) > 4 then (some false) else (impl_SinglesOk.l0 k a0 a1 0)) else (some false)))
theorem impl_SinglesOk.lab : ∀ k, (∀ (a0 : (List Int)) (a1 : (List S44)) (x2 : Int) (r : Bool), impl_SinglesOk.l0 k a0 a1 x2 = some r → J prog (.run 16 [] [l_ 58, b_ 0, c_ 15] [(0, (.sl true a0.length 1 (a0.flatMap encI))), (1, (.sl true a1.length 2 (a1.flatMap e44))), (19, (.sl true a0.length 1 (a0.flatMap encI))), (20, (I (a0.length : Int))), (21, (I x2))] [] (B r) [])) ∧ (∀ (a0 : (List Int)) (a1 : (List S44)) (x4 : (List Int)) (x5 : Int) (r : Bool), impl_SinglesOk.l1 k a0 a1 x4 x5 = some r → J prog (.run 16 [] [l_ 250, b_ 2, c_ 63] [(0, (.sl true a0.length 1 (a0.flatMap encI))), (7, (.pt 2560 0 (x4.length * 1))), (29, (.sl true a1.length 2 (a1.flatMap e44))), (30, (I (a1.length : Int))), (31, (I x5))] [(2560, (x4.flatMap encI))] (B r) []))
 | 0 => ⟨(by intro a0 a1 x2 r h; unfold impl_SinglesOk.l0 at h; cases h), (by intro a0 a1 x4 x5 r h; unfold impl_SinglesOk.l1 at h; cases h)⟩
 | k + 1 => by
  obtain ⟨ih0, ih1⟩ := impl_SinglesOk.lab k
  refine ⟨?_, ?_⟩
  · intro a0 a1 x2 r h
    unfold impl_SinglesOk.l0 at h
    refine .loop' [c_ 232, c_ 233, l_ 58, b_ 0, c_ 15] ?_
    refine .reg' [0, 1, 19, 20, 21, 22] [] ⟨[(0, (.sl true a0.length 1 (a0.flatMap encI))), (1, (.sl true a1.length 2 (a1.flatMap e44))), (19, (.sl true a0.length 1 (a0.flatMap encI))), (20, (I (a0.length : Int))), (21, (I x2)), (22, (B (decide (x2 < (a0.length : Int)))))], [], [], []⟩ [c_ 466, c_ 467, l_ 58, b_ 0, c_ 15] aln nocal ?_
    by_cases c3 : x2 < (a0.length : Int)
    · rw [if_pos c3] at h
      refine .cond' (.tmp 22) true [c_ 3736, c_ 3737, b_ 1, c_ 935, l_ 58, b_ 0, c_ 15] (bT (dT c3)) ?_
      by_cases c4 : 0 ≤ x2
      · rw [if_pos c4] at h
        refine .reg' [0, 1, 6, 19, 20, 21] [.no, .v (I (at_ a0 x2))] ⟨[(0, (.sl true a0.length 1 (a0.flatMap encI))), (1, (.sl true a1.length 2 (a1.flatMap e44))), (6, (I (at_ a0 x2))), (19, (.sl true a0.length 1 (a0.flatMap encI))), (20, (I (a0.length : Int))), (21, (I x2))], [], [(0 : Int) ≤ x2 ∧ x2 < (a0.length : Int), rdC prog 3 ((a0.flatMap encI).drop (x2.toNat * 1)) = (I (at_ a0 x2)), 1 ≤ ((a0.flatMap encI).drop (x2.toNat * 1)).length], []⟩ [c_ 7474, c_ 7475, b_ 1, c_ 935, l_ 58, b_ 0, c_ 15] (alc ⟨c4, c3⟩ (alc (ldC1 encI_ok rfl c4 c3) (alc (okI encI_ok c4 c3 (by decide)) aln))) nocal ?_
        obtain ⟨x3, hx3, h⟩ := Option.bind_eq_some_iff.mp h
        refine .reg' [0, 1, 19, 20, 21, 27] [.no, .c ⟨42, [(I (at_ a0 x2)), (I 1), (I 4)], [], (B x3), [], [], [], [], (B x3), []⟩] ⟨[(0, (.sl true a0.length 1 (a0.flatMap encI))), (1, (.sl true a1.length 2 (a1.flatMap e44))), (19, (.sl true a0.length 1 (a0.flatMap encI))), (20, (I (a0.length : Int))), (21, (I x2)), (27, (B (!x3)))], [], [COK (hget []) [(I (at_ a0 x2)), (I 1), (I 4)] ⟨42, [(I (at_ a0 x2)), (I 1), (I 4)], [], (B x3), [], [], [], [], (B x3), []⟩], [⟨42, [(I (at_ a0 x2)), (I 1), (I 4)], [], (B x3), [], [], [], [], (B x3), []⟩]⟩ [c_ 7475, b_ 1, c_ 935, l_ 58, b_ 0, c_ 15] (alc (cok0 false (a2c (.z .s) (a2c (.z .s) (a2c (.z .s) a2n))) (.z .s) (fun h => absurd h (by decide))) aln) (acal (impl_between.J (at_ a0 x2) 1 4 _ hx3) nocal) ?_
        by_cases c5 : x3 = true
        · rw [if_pos c5] at h
          refine .cond' (.tmp 27) false [c_ 935, l_ 58, b_ 0, c_ 15] (bF (nF c5)) ?_
          refine .reg' [0, 1, 19, 20, 21] [] ⟨[(0, (.sl true a0.length 1 (a0.flatMap encI))), (1, (.sl true a1.length 2 (a1.flatMap e44))), (19, (.sl true a0.length 1 (a0.flatMap encI))), (20, (I (a0.length : Int))), (21, (I (wrap64 (x2 + 1))))], [], [], []⟩ [l_ 58, b_ 0, c_ 15] aln nocal ?_
          exact ih0 a0 a1 (wrap64 (x2 + 1)) _ h
        · rw [if_neg c5] at h
          refine .cond' (.tmp 27) true [c_ 29900, c_ 29901, b_ 1, c_ 935, l_ 58, b_ 0, c_ 15] (bT (nT (vF c5))) ?_
          refine .reg' [4] [] ⟨[(4, (B false))], [], [], []⟩ [c_ 29901, b_ 1, c_ 935, l_ 58, b_ 0, c_ 15] aln nocal ?_
          have h := Option.some.inj h
          subst h
          exact .fin0 [] (B false) [] aln (.z .s)
      · rw [if_neg c4] at h
        cases h
    · rw [if_neg c3] at h
      refine .cond' (.tmp 22) false [c_ 30, c_ 31] (bF (dF c3)) ?_
      refine .reg' [0, 1, 7] [] ⟨[(0, (.sl true a0.length 1 (a0.flatMap encI))), (1, (.sl true a1.length 2 (a1.flatMap e44))), (7, (.pt 2560 0 9))], [(2560, ((List.replicate 9 (0 : Int)).flatMap encI))], [], []⟩ [c_ 124, c_ 125, c_ 63] aln nocal ?_
      refine .eqs (env2 := [(0, (.sl true a0.length 1 (a0.flatMap encI))), (1, (.sl true a1.length 2 (a1.flatMap e44))), (7, (.pt 2560 0 ((List.replicate 9 (0 : Int)).length * 1)))]) (H2 := [(2560, ((List.replicate 9 (0 : Int)).flatMap encI))]) (by first | (simp only [List.length_set]; done) | simp) (by first | rfl | (simp only [List.length_set]; done) | simp) ?_
      refine .reg' [0, 7, 29, 30, 31] [] ⟨[(0, (.sl true a0.length 1 (a0.flatMap encI))), (7, (.pt 2560 0 ((List.replicate 9 (0 : Int)).length * 1))), (29, (.sl true a1.length 2 (a1.flatMap e44))), (30, (I (a1.length : Int))), (31, (I 0))], [(2560, ((List.replicate 9 (0 : Int)).flatMap encI))], [], []⟩ [l_ 250, b_ 2, c_ 63] aln nocal ?_
      exact ih1 a0 a1 (List.replicate 9 (0 : Int)) 0 _ h
  · intro a0 a1 x4 x5 r h
    unfold impl_SinglesOk.l1 at h
    refine .loop' [c_ 1000, c_ 1001, l_ 250, b_ 2, c_ 63] ?_
    refine .reg' [0, 7, 29, 30, 31, 32] [] ⟨[(0, (.sl true a0.length 1 (a0.flatMap encI))), (7, (.pt 2560 0 (x4.length * 1))), (29, (.sl true a1.length 2 (a1.flatMap e44))), (30, (I (a1.length : Int))), (31, (I x5)), (32, (B (decide (x5 < (a1.length : Int)))))], [(2560, (x4.flatMap encI))], [], []⟩ [c_ 2002, c_ 2003, l_ 250, b_ 2, c_ 63] aln nocal ?_
    by_cases c6 : x5 < (a1.length : Int)
    · rw [if_pos c6] at h
      refine .cond' (.tmp 32) true [c_ 16024, c_ 16025, b_ 3, c_ 4007, l_ 250, b_ 2, c_ 63] (bT (dT c6)) ?_
      by_cases c7 : 0 ≤ x5
      · rw [if_pos c7] at h
        refine .reg' [0, 7, 9, 29, 30, 31] [.no, .v (.ag [(I (at_ a1 x5).f0), (I (at_ a1 x5).f1)])] ⟨[(0, (.sl true a0.length 1 (a0.flatMap encI))), (7, (.pt 2560 0 (x4.length * 1))), (9, (.pt 3330 0 2)), (29, (.sl true a1.length 2 (a1.flatMap e44))), (30, (I (a1.length : Int))), (31, (I x5))], [(2560, (x4.flatMap encI)), (3330, [(I (at_ a1 x5).f0), (I (at_ a1 x5).f1)])], [(0 : Int) ≤ x5 ∧ x5 < (a1.length : Int), rdC prog 45 ((a1.flatMap e44).drop (x5.toNat * 2)) = (.ag [(I (at_ a1 x5).f0), (I (at_ a1 x5).f1)]), 2 ≤ ((a1.flatMap e44).drop (x5.toNat * 2)).length, 2 = 2 ∧ 0 + 2 ≤ 2], []⟩ [c_ 64100, c_ 64101, c_ 32051, b_ 3, c_ 4007, l_ 250, b_ 2, c_ 63] (alc ⟨c7, c6⟩ (alc (ldA e44_ok rfl rfl c7 c6) (alc (okI e44_ok c7 c6 (by decide)) (alc ⟨rfl, by decide⟩ aln)))) nocal ?_
        obtain ⟨x6, hx6, h⟩ := Option.bind_eq_some_iff.mp h
        by_cases c8 : x6 = true
        · rw [if_pos c8] at h
          obtain ⟨x7, hx7, h⟩ := Option.bind_eq_some_iff.mp h
          by_cases c9 : x7 = true
          · rw [if_pos c9] at h
            refine .reg' [0, 7, 9, 29, 30, 31, 58] [.no, .no, .no, .no, .no, .no, .c ⟨42, [(I (at_ a1 x5).f0), (I 0), (I (wrap64 ((wrap64 (2 * (a0.length : Int))) - 2)))], [], (B x6), [], [], [], [], (B x6), []⟩, .no, .v (B false), .no, .no, .no, .no, .no, .no, .c ⟨42, [(I (at_ a1 x5).f1), (I 0), (I (wrap64 ((wrap64 (2 * (a0.length : Int))) - 2)))], [], (B x7), [], [], [], [], (B x7), []⟩, .no, .no, .v (B false)] ⟨[(0, (.sl true a0.length 1 (a0.flatMap encI))), (7, (.pt 2560 0 (x4.length * 1))), (9, (.pt 3330 0 2)), (29, (.sl true a1.length 2 (a1.flatMap e44))), (30, (I (a1.length : Int))), (31, (I x5)), (58, (B (!(((at_ a1 x5).f1.tmod (2 : Int)) == 0))))], [(2560, (x4.flatMap encI)), (3330, [(I (at_ a1 x5).f0), (I (at_ a1 x5).f1)])], [2 = 2 ∧ 0 + 1 ≤ 2, COK (hget [(2560, (x4.flatMap encI)), (3330, [(I (at_ a1 x5).f0), (I (at_ a1 x5).f1)])]) [(I (at_ a1 x5).f0), (I 0), (I (wrap64 ((wrap64 (2 * (a0.length : Int))) - 2)))] ⟨42, [(I (at_ a1 x5).f0), (I 0), (I (wrap64 ((wrap64 (2 * (a0.length : Int))) - 2)))], [], (B x6), [], [], [], [], (B x6), []⟩, (B (!x6) : V) = B false, 2 = 2 ∧ 1 + 1 ≤ 2, COK (hget [(2560, (x4.flatMap encI)), (3330, [(I (at_ a1 x5).f0), (I (at_ a1 x5).f1)])]) [(I (at_ a1 x5).f1), (I 0), (I (wrap64 ((wrap64 (2 * (a0.length : Int))) - 2)))] ⟨42, [(I (at_ a1 x5).f1), (I 0), (I (wrap64 ((wrap64 (2 * (a0.length : Int))) - 2)))], [], (B x7), [], [], [], [], (B x7), []⟩, (B (!x7) : V) = B false, 2 = 2 ∧ 1 + 1 ≤ 2, (2 : Int) ≠ 0], [⟨42, [(I (at_ a1 x5).f0), (I 0), (I (wrap64 ((wrap64 (2 * (a0.length : Int))) - 2)))], [], (B x6), [], [], [], [], (B x6), []⟩, ⟨42, [(I (at_ a1 x5).f1), (I 0), (I (wrap64 ((wrap64 (2 * (a0.length : Int))) - 2)))], [], (B x7), [], [], [], [], (B x7), []⟩]⟩ [c_ 64101, c_ 32051, b_ 3, c_ 4007, l_ 250, b_ 2, c_ 63] (alc ⟨rfl, by decide⟩ (alc (cok0 false (a2c (.z .s) (a2c (.z .s) (a2c (.z .s) a2n))) (.z .s) (fun h => absurd h (by decide))) (alc (bF (nF c8)) (alc ⟨rfl, by decide⟩ (alc (cok0 false (a2c (.z .s) (a2c (.z .s) (a2c (.z .s) a2n))) (.z .s) (fun h => absurd h (by decide))) (alc (bF (nF c9)) (alc ⟨rfl, by decide⟩ (alc (by decide) aln)))))))) (acal (impl_between.J ((at_ a1 x5).f0) 0 (wrap64 ((wrap64 (2 * (a0.length : Int))) - 2)) _ hx6) (acal (impl_between.J ((at_ a1 x5).f1) 0 (wrap64 ((wrap64 (2 * (a0.length : Int))) - 2)) _ hx7) nocal)) ?_
            by_cases c10 : ((at_ a1 x5).f1.tmod (2 : Int)) = 0
            · rw [if_pos c10] at h
              refine .cond' (.tmp 58) false [c_ 64102, c_ 64103, b_ 3, c_ 4007, l_ 250, b_ 2, c_ 63] (bF (nF (qT c10))) ?_
              by_cases c11 : 0 ≤ (at_ a1 x5).f0
              · rw [if_pos c11] at h
                by_cases c12 : (at_ a1 x5).f0 < 9
                · rw [if_pos c12] at h
                  by_cases c13 : (at_ a1 x5).f0 < (x4.length : Int)
                  · rw [if_pos c13] at h
                    refine .reg' [0, 7, 9, 29, 30, 31] [.no, .no, .no, .v (I (at_ x4 (at_ a1 x5).f0)), .no, .no, .w .un ((x4.set (at_ a1 x5).f0.toNat (wrap64 ((at_ x4 (at_ a1 x5).f0) + 1))).flatMap encI)] ⟨[(0, (.sl true a0.length 1 (a0.flatMap encI))), (7, (.pt 2560 0 (x4.length * 1))), (9, (.pt 3330 0 2)), (29, (.sl true a1.length 2 (a1.flatMap e44))), (30, (I (a1.length : Int))), (31, (I x5))], [(2560, ((x4.set (at_ a1 x5).f0.toNat (wrap64 ((at_ x4 (at_ a1 x5).f0) + 1))).flatMap encI)), (3330, [(I (at_ a1 x5).f0), (I (at_ a1 x5).f1)])], [2 = 2 ∧ 0 + 1 ≤ 2, (0 : Int) ≤ (at_ a1 x5).f0 ∧ (at_ a1 x5).f0 < 9, rdC prog 3 ((x4.flatMap encI).drop (0 + (at_ a1 x5).f0.toNat * 1)) = (I (at_ x4 (at_ a1 x5).f0)), x4.length * 1 = (x4.flatMap encI).length ∧ 0 + (at_ a1 x5).f0.toNat * 1 + 1 ≤ (x4.flatMap encI).length, (0 : Int) ≤ (at_ a1 x5).f0 ∧ (at_ a1 x5).f0 < 9, V.un = V.un, spl (x4.flatMap encI) (0 + (at_ a1 x5).f0.toNat * 1) [(I (wrap64 ((at_ x4 (at_ a1 x5).f0) + 1)))] = ((x4.set (at_ a1 x5).f0.toNat (wrap64 ((at_ x4 (at_ a1 x5).f0) + 1))).flatMap encI), x4.length * 1 = (x4.flatMap encI).length ∧ 0 + (at_ a1 x5).f0.toNat * 1 + 1 ≤ (x4.flatMap encI).length], []⟩ [c_ 128206, c_ 128207, b_ 3, c_ 4007, l_ 250, b_ 2, c_ 63] (alc ⟨rfl, by decide⟩ (alc ⟨c11, c12⟩ (alc (ldC01 encI_ok rfl c11 c13) (alc (okA0 encI_ok c11 c13 (by decide)) (alc ⟨c11, c12⟩ (alc rfl (alc (st_row1 encI_ok c11 c13 (I (wrap64 ((at_ x4 (at_ a1 x5).f0) + 1))) rfl) (alc (okA0 encI_ok c11 c13 (by decide)) aln)))))))) nocal ?_
                    refine .eqs (env2 := [(0, (.sl true a0.length 1 (a0.flatMap encI))), (7, (.pt 2560 0 ((x4.set (at_ a1 x5).f0.toNat (wrap64 ((at_ x4 (at_ a1 x5).f0) + 1))).length * 1))), (9, (.pt 3330 0 2)), (29, (.sl true a1.length 2 (a1.flatMap e44))), (30, (I (a1.length : Int))), (31, (I x5))]) (H2 := [(2560, ((x4.set (at_ a1 x5).f0.toNat (wrap64 ((at_ x4 (at_ a1 x5).f0) + 1))).flatMap encI)), (3330, [(I (at_ a1 x5).f0), (I (at_ a1 x5).f1)])]) (by first | (simp only [List.length_set]; done) | simp) (by first | rfl | (simp only [List.length_set]; done) | simp) ?_
                    obtain ⟨x8, hx8, h⟩ := Option.bind_eq_some_iff.mp h
                    refine .reg' [0, 7, 29, 30, 31, 73] [.no, .no, .no, .v (I (wrap64 ((at_ x4 (at_ a1 x5).f0) + 1))), .no, .no, .no, .c ⟨43, [(.sl true a0.length 1 (a0.flatMap encI)), (I (at_ a1 x5).f0)], [], (I x8), [], [], [], [], (I x8), []⟩] ⟨[(0, (.sl true a0.length 1 (a0.flatMap encI))), (7, (.pt 2560 0 ((x4.set (at_ a1 x5).f0.toNat (wrap64 ((at_ x4 (at_ a1 x5).f0) + 1))).length * 1))), (29, (.sl true a1.length 2 (a1.flatMap e44))), (30, (I (a1.length : Int))), (31, (I x5)), (73, (B (decide ((wrap64 ((at_ x4 (at_ a1 x5).f0) + 1)) > x8))))], [(2560, ((x4.set (at_ a1 x5).f0.toNat (wrap64 ((at_ x4 (at_ a1 x5).f0) + 1))).flatMap encI)), (3330, [(I (at_ a1 x5).f0), (I (at_ a1 x5).f1)])], [2 = 2 ∧ 0 + 1 ≤ 2, (0 : Int) ≤ (at_ a1 x5).f0 ∧ (at_ a1 x5).f0 < 9, rdC prog 3 (((x4.set (at_ a1 x5).f0.toNat (wrap64 ((at_ x4 (at_ a1 x5).f0) + 1))).flatMap encI).drop (0 + (at_ a1 x5).f0.toNat * 1)) = (I (wrap64 ((at_ x4 (at_ a1 x5).f0) + 1))), (x4.set (at_ a1 x5).f0.toNat (wrap64 ((at_ x4 (at_ a1 x5).f0) + 1))).length * 1 = ((x4.set (at_ a1 x5).f0.toNat (wrap64 ((at_ x4 (at_ a1 x5).f0) + 1))).flatMap encI).length ∧ 0 + (at_ a1 x5).f0.toNat * 1 + 1 ≤ ((x4.set (at_ a1 x5).f0.toNat (wrap64 ((at_ x4 (at_ a1 x5).f0) + 1))).flatMap encI).length, 2 = 2 ∧ 0 + 1 ≤ 2, COK (hget [(2560, ((x4.set (at_ a1 x5).f0.toNat (wrap64 ((at_ x4 (at_ a1 x5).f0) + 1))).flatMap encI)), (3330, [(I (at_ a1 x5).f0), (I (at_ a1 x5).f1)])]) [(.sl true a0.length 1 (a0.flatMap encI)), (I (at_ a1 x5).f0)] ⟨43, [(.sl true a0.length 1 (a0.flatMap encI)), (I (at_ a1 x5).f0)], [], (I x8), [], [], [], [], (I x8), []⟩], [⟨43, [(.sl true a0.length 1 (a0.flatMap encI)), (I (at_ a1 x5).f0)], [], (I x8), [], [], [], [], (I x8), []⟩]⟩ [c_ 128207, b_ 3, c_ 4007, l_ 250, b_ 2, c_ 63] (alc ⟨rfl, by decide⟩ (alc ⟨c11, c12⟩ (alc (ldC01s encI_ok rfl c11 c13) (alc (okA0 encI_ok c11 (ls c13) (by decide)) (alc ⟨rfl, by decide⟩ (alc (cok0 false (a2c (.z (frz_sl encI_ok (fun h => h))) (a2c (.z .s) a2n)) (.z .s) (fun h => absurd h (by decide))) aln)))))) (acal (impl_fits.J a0 ((at_ a1 x5).f0) _ hx8) nocal) ?_
                    by_cases c14 : (wrap64 ((at_ x4 (at_ a1 x5).f0) + 1)) > x8
                    · rw [if_pos c14] at h
                      refine .cond' (.tmp 73) true [c_ 512828, c_ 512829, b_ 3, c_ 4007, l_ 250, b_ 2, c_ 63] (bT (dT c14)) ?_
                      refine .reg' [4] [] ⟨[(4, (B false))], [(2560, ((x4.set (at_ a1 x5).f0.toNat (wrap64 ((at_ x4 (at_ a1 x5).f0) + 1))).flatMap encI)), (3330, [(I (at_ a1 x5).f0), (I (at_ a1 x5).f1)])], [], []⟩ [c_ 512829, b_ 3, c_ 4007, l_ 250, b_ 2, c_ 63] aln nocal ?_
                      have h := Option.some.inj h
                      subst h
                      exact .fin0 [] (B false) [] aln (.z .s)
                    · rw [if_neg c14] at h
                      refine .cond' (.tmp 73) false [c_ 4007, l_ 250, b_ 2, c_ 63] (bF (dF c14)) ?_
                      refine .reg' [0, 7, 29, 30, 31] [] ⟨[(0, (.sl true a0.length 1 (a0.flatMap encI))), (7, (.pt 2560 0 ((x4.set (at_ a1 x5).f0.toNat (wrap64 ((at_ x4 (at_ a1 x5).f0) + 1))).length * 1))), (29, (.sl true a1.length 2 (a1.flatMap e44))), (30, (I (a1.length : Int))), (31, (I (wrap64 (x5 + 1))))], [(2560, ((x4.set (at_ a1 x5).f0.toNat (wrap64 ((at_ x4 (at_ a1 x5).f0) + 1))).flatMap encI)), (3330, [(I (at_ a1 x5).f0), (I (at_ a1 x5).f1)])], [], []⟩ [l_ 250, b_ 2, c_ 63] aln nocal ?_
                      refine .wk' [] [(2560, 2560)] [(0, (.sl true a0.length 1 (a0.flatMap encI))), (7, (.pt 2560 0 ((x4.set (at_ a1 x5).f0.toNat (wrap64 ((at_ x4 (at_ a1 x5).f0) + 1))).length * 1))), (29, (.sl true a1.length 2 (a1.flatMap e44))), (30, (I (a1.length : Int))), (31, (I (wrap64 (x5 + 1))))] [(2560, ((x4.set (at_ a1 x5).f0.toNat (wrap64 ((at_ x4 (at_ a1 x5).f0) + 1))).flatMap encI))] (shc 2560 (rowF encI_ok _) shn) (enc_ (.z (frz_sl encI_ok (fun h => h))) (enc_ (.pt (memP_mem (p := (2560, 2560)) rfl)) (enc_ (.z (frz_sl e44_ok (fun h => h))) (enc_ (.z .s) (enc_ (.z .s) enn))))) ?_
                      exact ih1 a0 a1 (x4.set (at_ a1 x5).f0.toNat (wrap64 ((at_ x4 (at_ a1 x5).f0) + 1))) (wrap64 (x5 + 1)) _ h
                  · rw [if_neg c13] at h
                    cases h
                · rw [if_neg c12] at h
                  cases h
              · rw [if_neg c11] at h
                cases h
            · rw [if_neg c10] at h
              refine .cond' (.tmp 58) true [c_ 256404, c_ 256405, c_ 32051, b_ 3, c_ 4007, l_ 250, b_ 2, c_ 63] (bT (nT (qF c10))) ?_
              refine .reg' [4] [] ⟨[(4, (B false))], [(2560, (x4.flatMap encI)), (3330, [(I (at_ a1 x5).f0), (I (at_ a1 x5).f1)])], [], []⟩ [c_ 256405, c_ 32051, b_ 3, c_ 4007, l_ 250, b_ 2, c_ 63] aln nocal ?_
              have h := Option.some.inj h
              subst h
              exact .fin0 [] (B false) [] aln (.z .s)
          · rw [if_neg c9] at h
            refine .reg' [0, 7, 9, 29, 30, 31, 58] [.no, .no, .no, .no, .no, .no, .c ⟨42, [(I (at_ a1 x5).f0), (I 0), (I (wrap64 ((wrap64 (2 * (a0.length : Int))) - 2)))], [], (B x6), [], [], [], [], (B x6), []⟩, .no, .v (B false), .no, .no, .no, .no, .no, .no, .c ⟨42, [(I (at_ a1 x5).f1), (I 0), (I (wrap64 ((wrap64 (2 * (a0.length : Int))) - 2)))], [], (B x7), [], [], [], [], (B x7), []⟩, .no, .no, .v (B true)] ⟨[(0, (.sl true a0.length 1 (a0.flatMap encI))), (7, (.pt 2560 0 (x4.length * 1))), (9, (.pt 3330 0 2)), (29, (.sl true a1.length 2 (a1.flatMap e44))), (30, (I (a1.length : Int))), (31, (I x5)), (58, (B true))], [(2560, (x4.flatMap encI)), (3330, [(I (at_ a1 x5).f0), (I (at_ a1 x5).f1)])], [2 = 2 ∧ 0 + 1 ≤ 2, COK (hget [(2560, (x4.flatMap encI)), (3330, [(I (at_ a1 x5).f0), (I (at_ a1 x5).f1)])]) [(I (at_ a1 x5).f0), (I 0), (I (wrap64 ((wrap64 (2 * (a0.length : Int))) - 2)))] ⟨42, [(I (at_ a1 x5).f0), (I 0), (I (wrap64 ((wrap64 (2 * (a0.length : Int))) - 2)))], [], (B x6), [], [], [], [], (B x6), []⟩, (B (!x6) : V) = B false, 2 = 2 ∧ 1 + 1 ≤ 2, COK (hget [(2560, (x4.flatMap encI)), (3330, [(I (at_ a1 x5).f0), (I (at_ a1 x5).f1)])]) [(I (at_ a1 x5).f1), (I 0), (I (wrap64 ((wrap64 (2 * (a0.length : Int))) - 2)))] ⟨42, [(I (at_ a1 x5).f1), (I 0), (I (wrap64 ((wrap64 (2 * (a0.length : Int))) - 2)))], [], (B x7), [], [], [], [], (B x7), []⟩, (B (!x7) : V) = B true], [⟨42, [(I (at_ a1 x5).f0), (I 0), (I (wrap64 ((wrap64 (2 * (a0.length : Int))) - 2)))], [], (B x6), [], [], [], [], (B x6), []⟩, ⟨42, [(I (at_ a1 x5).f1), (I 0), (I (wrap64 ((wrap64 (2 * (a0.length : Int))) - 2)))], [], (B x7), [], [], [], [], (B x7), []⟩]⟩ [c_ 64101, c_ 32051, b_ 3, c_ 4007, l_ 250, b_ 2, c_ 63] (alc ⟨rfl, by decide⟩ (alc (cok0 false (a2c (.z .s) (a2c (.z .s) (a2c (.z .s) a2n))) (.z .s) (fun h => absurd h (by decide))) (alc (bF (nF c8)) (alc ⟨rfl, by decide⟩ (alc (cok0 false (a2c (.z .s) (a2c (.z .s) (a2c (.z .s) a2n))) (.z .s) (fun h => absurd h (by decide))) (alc (bT (nT (vF c9))) aln)))))) (acal (impl_between.J ((at_ a1 x5).f0) 0 (wrap64 ((wrap64 (2 * (a0.length : Int))) - 2)) _ hx6) (acal (impl_between.J ((at_ a1 x5).f1) 0 (wrap64 ((wrap64 (2 * (a0.length : Int))) - 2)) _ hx7) nocal)) ?_
            refine .cond' (.tmp 58) true [c_ 256404, c_ 256405, c_ 32051, b_ 3, c_ 4007, l_ 250, b_ 2, c_ 63] (rfl) ?_
            refine .reg' [4] [] ⟨[(4, (B false))], [(2560, (x4.flatMap encI)), (3330, [(I (at_ a1 x5).f0), (I (at_ a1 x5).f1)])], [], []⟩ [c_ 256405, c_ 32051, b_ 3, c_ 4007, l_ 250, b_ 2, c_ 63] aln nocal ?_
            have h := Option.some.inj h
            subst h
            exact .fin0 [] (B false) [] aln (.z .s)
        · rw [if_neg c8] at h
          refine .reg' [0, 7, 9, 29, 30, 31, 58] [.no, .no, .no, .no, .no, .no, .c ⟨42, [(I (at_ a1 x5).f0), (I 0), (I (wrap64 ((wrap64 (2 * (a0.length : Int))) - 2)))], [], (B x6), [], [], [], [], (B x6), []⟩, .no, .v (B true)] ⟨[(0, (.sl true a0.length 1 (a0.flatMap encI))), (7, (.pt 2560 0 (x4.length * 1))), (9, (.pt 3330 0 2)), (29, (.sl true a1.length 2 (a1.flatMap e44))), (30, (I (a1.length : Int))), (31, (I x5)), (58, (B true))], [(2560, (x4.flatMap encI)), (3330, [(I (at_ a1 x5).f0), (I (at_ a1 x5).f1)])], [2 = 2 ∧ 0 + 1 ≤ 2, COK (hget [(2560, (x4.flatMap encI)), (3330, [(I (at_ a1 x5).f0), (I (at_ a1 x5).f1)])]) [(I (at_ a1 x5).f0), (I 0), (I (wrap64 ((wrap64 (2 * (a0.length : Int))) - 2)))] ⟨42, [(I (at_ a1 x5).f0), (I 0), (I (wrap64 ((wrap64 (2 * (a0.length : Int))) - 2)))], [], (B x6), [], [], [], [], (B x6), []⟩, (B (!x6) : V) = B true], [⟨42, [(I (at_ a1 x5).f0), (I 0), (I (wrap64 ((wrap64 (2 * (a0.length : Int))) - 2)))], [], (B x6), [], [], [], [], (B x6), []⟩]⟩ [c_ 64101, c_ 32051, b_ 3, c_ 4007, l_ 250, b_ 2, c_ 63] (alc ⟨rfl, by decide⟩ (alc (cok0 false (a2c (.z .s) (a2c (.z .s) (a2c (.z .s) a2n))) (.z .s) (fun h => absurd h (by decide))) (alc (bT (nT (vF c8))) aln))) (acal (impl_between.J ((at_ a1 x5).f0) 0 (wrap64 ((wrap64 (2 * (a0.length : Int))) - 2)) _ hx6) nocal) ?_
          refine .cond' (.tmp 58) true [c_ 256404, c_ 256405, c_ 32051, b_ 3, c_ 4007, l_ 250, b_ 2, c_ 63] (rfl) ?_
          refine .reg' [4] [] ⟨[(4, (B false))], [(2560, (x4.flatMap encI)), (3330, [(I (at_ a1 x5).f0), (I (at_ a1 x5).f1)])], [], []⟩ [c_ 256405, c_ 32051, b_ 3, c_ 4007, l_ 250, b_ 2, c_ 63] aln nocal ?_
          have h := Option.some.inj h
          subst h
          exact .fin0 [] (B false) [] aln (.z .s)
      · rw [if_neg c7] at h
        cases h
    · rw [if_neg c6] at h
      refine .cond' (.tmp 32) false [c_ 126, c_ 127] (bF (dF c6)) ?_
      refine .reg' [4] [] ⟨[(4, (B true))], [(2560, (x4.flatMap encI))], [], []⟩ [c_ 127] aln nocal ?_
      have h := Option.some.inj h
      subst h
      exact .fin0 [] (B true) [] aln (.z .s)
theorem impl_SinglesOk.J (k : Nat) (a0 : (List Int)) (a1 : (List S44)) (r : Bool) (h : impl_SinglesOk.f k a0 a1 = some r) : J prog (.call 16 [(.sl true a0.length 1 (a0.flatMap encI)), (.sl true a1.length 2 (a1.flatMap e44))] [] (B r) []) := by
  unfold impl_SinglesOk.f at h
  obtain ⟨ih0, ih1⟩ := impl_SinglesOk.lab k
  refine .call' [c_ 2, c_ 3] ?_
  refine .reg' [0, 1] [] ⟨[(0, (.sl true a0.length 1 (a0.flatMap encI))), (1, (.sl true a1.length 2 (a1.flatMap e44)))], [], [], []⟩ [c_ 12, c_ 13, c_ 7] aln nocal ?_
  obtain ⟨x1, hx1, h⟩ := Option.bind_eq_some_iff.mp h
  by_cases c1 : x1 = true
  · rw [if_pos c1] at h
    refine .reg' [0, 1, 18] [.no, .no, .c ⟨42, [(I (a0.length : Int)), (I 2), (I 5)], [], (B x1), [], [], [], [], (B x1), []⟩, .no, .v (B false)] ⟨[(0, (.sl true a0.length 1 (a0.flatMap encI))), (1, (.sl true a1.length 2 (a1.flatMap e44))), (18, (B (decide ((a1.length : Int) > 4))))], [], [COK (hget []) [(I (a0.length : Int)), (I 2), (I 5)] ⟨42, [(I (a0.length : Int)), (I 2), (I 5)], [], (B x1), [], [], [], [], (B x1), []⟩, (B (!x1) : V) = B false], [⟨42, [(I (a0.length : Int)), (I 2), (I 5)], [], (B x1), [], [], [], [], (B x1), []⟩]⟩ [c_ 13, c_ 7] (alc (cok0 false (a2c (.z .s) (a2c (.z .s) (a2c (.z .s) a2n))) (.z .s) (fun h => absurd h (by decide))) (alc (bF (nF c1)) aln)) (acal (impl_between.J (a0.length : Int) 2 5 _ hx1) nocal) ?_
    by_cases c2 : (a1.length : Int) > 4
    · rw [if_pos c2] at h
      refine .cond' (.tmp 18) true [c_ 52, c_ 53, c_ 7] (bT (dT c2)) ?_
      refine .reg' [4] [] ⟨[(4, (B false))], [], [], []⟩ [c_ 53, c_ 7] aln nocal ?_
      have h := Option.some.inj h
      subst h
      exact .fin0 [] (B false) [] aln (.z .s)
    · rw [if_neg c2] at h
      refine .cond' (.tmp 18) false [c_ 28, c_ 29, c_ 15] (bF (dF c2)) ?_
      refine .reg' [0, 1, 19, 20, 21] [] ⟨[(0, (.sl true a0.length 1 (a0.flatMap encI))), (1, (.sl true a1.length 2 (a1.flatMap e44))), (19, (.sl true a0.length 1 (a0.flatMap encI))), (20, (I (a0.length : Int))), (21, (I 0))], [], [], []⟩ [l_ 58, b_ 0, c_ 15] aln nocal ?_
      exact ih0 a0 a1 0 _ h
  · rw [if_neg c1] at h
    refine .reg' [0, 1, 18] [.no, .no, .c ⟨42, [(I (a0.length : Int)), (I 2), (I 5)], [], (B x1), [], [], [], [], (B x1), []⟩, .no, .v (B true)] ⟨[(0, (.sl true a0.length 1 (a0.flatMap encI))), (1, (.sl true a1.length 2 (a1.flatMap e44))), (18, (B true))], [], [COK (hget []) [(I (a0.length : Int)), (I 2), (I 5)] ⟨42, [(I (a0.length : Int)), (I 2), (I 5)], [], (B x1), [], [], [], [], (B x1), []⟩, (B (!x1) : V) = B true], [⟨42, [(I (a0.length : Int)), (I 2), (I 5)], [], (B x1), [], [], [], [], (B x1), []⟩]⟩ [c_ 13, c_ 7] (alc (cok0 false (a2c (.z .s) (a2c (.z .s) (a2c (.z .s) a2n))) (.z .s) (fun h => absurd h (by decide))) (alc (bT (nT (vF c1))) aln)) (acal (impl_between.J (a0.length : Int) 2 5 _ hx1) nocal) ?_
    refine .cond' (.tmp 18) true [c_ 52, c_ 53, c_ 7] (rfl) ?_
    refine .reg' [4] [] ⟨[(4, (B false))], [], [], []⟩ [c_ 53, c_ 7] aln nocal ?_
    have h := Option.some.inj h
    subst h
    exact .fin0 [] (B false) [] aln (.z .s)
/-! impl_newSearch: function 51 -/
def impl_newSearch.f (a0 : (List Int)) : Option S65 := (some (⟨a0, ([] : List (List Int))⟩ : S65))
theorem impl_newSearch.J (a0 : (List Int)) (r : S65) (h : impl_newSearch.f a0 = some r) : J prog (.call 51 [(.sl true a0.length 1 (a0.flatMap encI))] [] (.pt 515 0 2) [(515, [(.sl true r.f0.length 1 (r.f0.flatMap encI)), (.pt 2000000515 0 1)]), (2000000515, (mrow r.f1))]) := by
  unfold impl_newSearch.f at h
  refine .call' [c_ 2, c_ 3] ?_
  refine .reg' [0] [] ⟨[(0, (.sl true a0.length 1 (a0.flatMap encI)))], [], [], []⟩ [c_ 6, c_ 7] aln nocal ?_
  refine .reg' [2] [.no, .w (.pt 2000000513 0 1) (mrow ([] : List (List Int)))] ⟨[(2, (.pt 515 0 2))], [(2000000513, (mrow ([] : List (List Int)))), (515, [(.sl true a0.length 1 (a0.flatMap encI)), (.pt 2000000513 0 1)])], [(V.pt 2000000513 0 1) = (.pt 2000000513 0 1), [V.fn (.func 0) [] []] = mrow ([] : List (List Int))], []⟩ [c_ 7] (alc rfl (alc rfl aln)) nocal ?_
  have h := Option.some.inj h
  subst h
  exact .fin' [] [(515, 515), (2000000513, 2000000515)] (.pt 515 0 2) [] aln (shc 515 (a2c (.z (frz_sl encI_ok (fun h => h))) (a2c (.pt (memP_mem (p := (2000000513, 2000000515)) rfl)) a2n)) (shc 2000000513 (mrowC _) shn)) (.pt (memP_mem (p := (515, 515)) rfl))
/-! impl_home: function 48 -/
def impl_home.l0 : Nat → (List S44) → Int → Option Bool
 | 0, _, _ => none
 | k + 1, a0, x1 => (if x1 < (a0.length : Int) then (if 0 ≤ x1 then (if (at_ a0 x1).f0 = (at_ a0 x1).f1 then (impl_home.l0 k a0 (wrap64 (x1 + 1))) else (some false)) else none) else (some true))
def impl_home.f (k : Nat) (a0 : (List S44)) : Option Bool := (impl_home.l0 k a0 0)
theorem impl_home.lab : ∀ k, (∀ (a0 : (List S44)) (x1 : Int) (r : Bool), impl_home.l0 k a0 x1 = some r → J prog (.run 48 [] [l_ 26, b_ 0, c_ 7] [(5, (.sl true a0.length 2 (a0.flatMap e44))), (6, (I (a0.length : Int))), (7, (I x1))] [] (B r) []))
 | 0 => (by intro a0 x1 r h; unfold impl_home.l0 at h; cases h)
 | k + 1 => by
  have ih0 := impl_home.lab k
  · intro a0 x1 r h
    unfold impl_home.l0 at h
    refine .loop' [c_ 104, c_ 105, l_ 26, b_ 0, c_ 7] ?_
    refine .reg' [5, 6, 7, 8] [] ⟨[(5, (.sl true a0.length 2 (a0.flatMap e44))), (6, (I (a0.length : Int))), (7, (I x1)), (8, (B (decide (x1 < (a0.length : Int)))))], [], [], []⟩ [c_ 210, c_ 211, l_ 26, b_ 0, c_ 7] aln nocal ?_
    by_cases c1 : x1 < (a0.length : Int)
    · rw [if_pos c1] at h
      refine .cond' (.tmp 8) true [c_ 1688, c_ 1689, b_ 1, c_ 423, l_ 26, b_ 0, c_ 7] (bT (dT c1)) ?_
      by_cases c2 : 0 ≤ x1
      · rw [if_pos c2] at h
        refine .reg' [4, 5, 6, 7] [.no, .v (.ag [(I (at_ a0 x1).f0), (I (at_ a0 x1).f1)])] ⟨[(4, (.pt 1026 0 2)), (5, (.sl true a0.length 2 (a0.flatMap e44))), (6, (I (a0.length : Int))), (7, (I x1))], [(1026, [(I (at_ a0 x1).f0), (I (at_ a0 x1).f1)])], [(0 : Int) ≤ x1 ∧ x1 < (a0.length : Int), rdC prog 45 ((a0.flatMap e44).drop (x1.toNat * 2)) = (.ag [(I (at_ a0 x1).f0), (I (at_ a0 x1).f1)]), 2 ≤ ((a0.flatMap e44).drop (x1.toNat * 2)).length, 2 = 2 ∧ 0 + 2 ≤ 2], []⟩ [c_ 3378, c_ 3379, b_ 1, c_ 423, l_ 26, b_ 0, c_ 7] (alc ⟨c2, c1⟩ (alc (ldA e44_ok rfl rfl c2 c1) (alc (okI e44_ok c2 c1 (by decide)) (alc ⟨rfl, by decide⟩ aln)))) nocal ?_
        refine .reg' [5, 6, 7, 15] [] ⟨[(5, (.sl true a0.length 2 (a0.flatMap e44))), (6, (I (a0.length : Int))), (7, (I x1)), (15, (B (!((at_ a0 x1).f0 == (at_ a0 x1).f1))))], [(1026, [(I (at_ a0 x1).f0), (I (at_ a0 x1).f1)])], [2 = 2 ∧ 0 + 1 ≤ 2, 2 = 2 ∧ 1 + 1 ≤ 2], []⟩ [c_ 3379, b_ 1, c_ 423, l_ 26, b_ 0, c_ 7] (alc ⟨rfl, by decide⟩ (alc ⟨rfl, by decide⟩ aln)) nocal ?_
        by_cases c3 : (at_ a0 x1).f0 = (at_ a0 x1).f1
        · rw [if_pos c3] at h
          refine .cond' (.tmp 15) false [c_ 423, l_ 26, b_ 0, c_ 7] (bF (nF (qT c3))) ?_
          refine .reg' [5, 6, 7] [] ⟨[(5, (.sl true a0.length 2 (a0.flatMap e44))), (6, (I (a0.length : Int))), (7, (I (wrap64 (x1 + 1))))], [(1026, [(I (at_ a0 x1).f0), (I (at_ a0 x1).f1)])], [], []⟩ [l_ 26, b_ 0, c_ 7] aln nocal ?_
          refine .wk' [] [] [(5, (.sl true a0.length 2 (a0.flatMap e44))), (6, (I (a0.length : Int))), (7, (I (wrap64 (x1 + 1))))] [] shn (enc_ (.z (frz_sl e44_ok (fun h => h))) (enc_ (.z .s) (enc_ (.z .s) enn))) ?_
          exact ih0 a0 (wrap64 (x1 + 1)) _ h
        · rw [if_neg c3] at h
          refine .cond' (.tmp 15) true [c_ 13516, c_ 13517, b_ 1, c_ 423, l_ 26, b_ 0, c_ 7] (bT (nT (qF c3))) ?_
          refine .reg' [2] [] ⟨[(2, (B false))], [(1026, [(I (at_ a0 x1).f0), (I (at_ a0 x1).f1)])], [], []⟩ [c_ 13517, b_ 1, c_ 423, l_ 26, b_ 0, c_ 7] aln nocal ?_
          have h := Option.some.inj h
          subst h
          exact .fin0 [] (B false) [] aln (.z .s)
      · rw [if_neg c2] at h
        cases h
    · rw [if_neg c1] at h
      refine .cond' (.tmp 8) false [c_ 14, c_ 15] (bF (dF c1)) ?_
      refine .reg' [2] [] ⟨[(2, (B true))], [], [], []⟩ [c_ 15] aln nocal ?_
      have h := Option.some.inj h
      subst h
      exact .fin0 [] (B true) [] aln (.z .s)
theorem impl_home.J (k : Nat) (a0 : (List S44)) (r : Bool) (h : impl_home.f k a0 = some r) : J prog (.call 48 [(.sl true a0.length 2 (a0.flatMap e44))] [] (B r) []) := by
  unfold impl_home.f at h
  have ih0 := impl_home.lab k
  refine .call' [c_ 2, c_ 3] ?_
  refine .reg' [0] [] ⟨[(0, (.sl true a0.length 2 (a0.flatMap e44)))], [], [], []⟩ [c_ 12, c_ 13, c_ 7] aln nocal ?_
  refine .reg' [5, 6, 7] [] ⟨[(5, (.sl true a0.length 2 (a0.flatMap e44))), (6, (I (a0.length : Int))), (7, (I 0))], [], [], []⟩ [l_ 26, b_ 0, c_ 7] aln nocal ?_
  exact ih0 a0 0 _ h
/-! impl_nextSpot: function 57 -/
def impl_nextSpot.f (a0 : S44) : Option Int := (if a0.f0 < a0.f1 then (some (wrap64 (a0.f0 + 1))) else (some (wrap64 (a0.f0 - 1))))
theorem impl_nextSpot.J (a0 : S44) (r : Int) (h : impl_nextSpot.f a0 = some r) : J prog (.call 57 [(.ag [(I a0.f0), (I a0.f1)])] [] (I r) []) := by
  unfold impl_nextSpot.f at h
  refine .call' [c_ 2, c_ 3] ?_
  refine .reg' [1] [] ⟨[(1, (.pt 256 0 2))], [(256, [(I a0.f0), (I a0.f1)])], [], []⟩ [c_ 12, c_ 13, c_ 7] aln nocal ?_
  refine .reg' [1, 7] [] ⟨[(1, (.pt 256 0 2)), (7, (B (decide (a0.f0 < a0.f1))))], [(256, [(I a0.f0), (I a0.f1)])], [2 = 2 ∧ 0 + 1 ≤ 2, 2 = 2 ∧ 1 + 1 ≤ 2], []⟩ [c_ 13, c_ 7] (alc ⟨rfl, by decide⟩ (alc ⟨rfl, by decide⟩ aln)) nocal ?_
  by_cases c1 : a0.f0 < a0.f1
  · rw [if_pos c1] at h
    refine .cond' (.tmp 7) true [c_ 52, c_ 53, c_ 7] (bT (dT c1)) ?_
    refine .reg' [2] [] ⟨[(2, (I (wrap64 (a0.f0 + 1))))], [(256, [(I a0.f0), (I a0.f1)])], [2 = 2 ∧ 0 + 1 ≤ 2], []⟩ [c_ 53, c_ 7] (alc ⟨rfl, by decide⟩ aln) nocal ?_
    have h := Option.some.inj h
    subst h
    exact .fin0 [] (I (wrap64 (a0.f0 + 1))) [] aln (.z .s)
  · rw [if_neg c1] at h
    refine .cond' (.tmp 7) false [c_ 14, c_ 15] (bF (dF c1)) ?_
    refine .reg' [2] [] ⟨[(2, (I (wrap64 (a0.f0 - 1))))], [(256, [(I a0.f0), (I a0.f1)])], [2 = 2 ∧ 0 + 1 ≤ 2], []⟩ [c_ 15] (alc ⟨rfl, by decide⟩ aln) nocal ?_
    have h := Option.some.inj h
    subst h
    exact .fin0 [] (I (wrap64 (a0.f0 - 1))) [] aln (.z .s)
/-! impl_mayMove: function 46 -/
def impl_mayMove.l0 : Nat → (List Int) → (List S44) → Int → Int → Int → Option Bool
 | 0, _, _, _, _, _ => none
 | k + 1, a0, a1, x1, x2, x3 => (if x3 < (a1.length : Int) then (if 0 ≤ x3 then (if (at_ a1 x3).f0 = x1 then (impl_mayMove.l0 k a0 a1 x1 (wrap64 (x2 + 1)) (wrap64 (x3 + 1))) else (impl_mayMove.l0 k a0 a1 x1 x2 (wrap64 (x3 + 1)))) else none) else ((impl_fits.f a0 x1).bind fun x4 => (some (decide (x2 < x4)))))
def impl_mayMove.f (k : Nat) (a0 : (List Int)) (a1 : (List S44)) (a2 : Int) : Option Bool := (if 0 ≤ a2 then (if a2 < (a1.length : Int) then (if (at_ a1 a2).f0 = (at_ a1 a2).f1 then (some false) else ((impl_nextSpot.f (at_ a1 a2)).bind fun x1 => (impl_mayMove.l0 k a0 a1 x1 0 0))) else none) else none)
theorem impl_mayMove.lab : ∀ k, (∀ (a0 : (List Int)) (a1 : (List S44)) (x1 : Int) (x2 : Int) (x3 : Int) (r : Bool), impl_mayMove.l0 k a0 a1 x1 x2 x3 = some r → J prog (.run 46 [] [l_ 122, b_ 0, c_ 31] [(0, (.sl true a0.length 1 (a0.flatMap encI))), (7, (I x1)), (8, (I x2)), (27, (.sl true a1.length 2 (a1.flatMap e44))), (28, (I (a1.length : Int))), (29, (I x3))] [] (B r) []))
 | 0 => (by intro a0 a1 x1 x2 x3 r h; unfold impl_mayMove.l0 at h; cases h)
 | k + 1 => by
  have ih0 := impl_mayMove.lab k
  · intro a0 a1 x1 x2 x3 r h
    unfold impl_mayMove.l0 at h
    refine .loop' [c_ 488, c_ 489, l_ 122, b_ 0, c_ 31] ?_
    refine .reg' [0, 7, 8, 27, 28, 29, 30] [] ⟨[(0, (.sl true a0.length 1 (a0.flatMap encI))), (7, (I x1)), (8, (I x2)), (27, (.sl true a1.length 2 (a1.flatMap e44))), (28, (I (a1.length : Int))), (29, (I x3)), (30, (B (decide (x3 < (a1.length : Int)))))], [], [], []⟩ [c_ 978, c_ 979, l_ 122, b_ 0, c_ 31] aln nocal ?_
    by_cases c4 : x3 < (a1.length : Int)
    · rw [if_pos c4] at h
      refine .cond' (.tmp 30) true [c_ 7832, c_ 7833, b_ 1, c_ 1959, l_ 122, b_ 0, c_ 31] (bT (dT c4)) ?_
      by_cases c5 : 0 ≤ x3
      · rw [if_pos c5] at h
        refine .reg' [0, 7, 8, 10, 27, 28, 29] [.no, .v (.ag [(I (at_ a1 x3).f0), (I (at_ a1 x3).f1)])] ⟨[(0, (.sl true a0.length 1 (a0.flatMap encI))), (7, (I x1)), (8, (I x2)), (10, (.pt 1794 0 2)), (27, (.sl true a1.length 2 (a1.flatMap e44))), (28, (I (a1.length : Int))), (29, (I x3))], [(1794, [(I (at_ a1 x3).f0), (I (at_ a1 x3).f1)])], [(0 : Int) ≤ x3 ∧ x3 < (a1.length : Int), rdC prog 45 ((a1.flatMap e44).drop (x3.toNat * 2)) = (.ag [(I (at_ a1 x3).f0), (I (at_ a1 x3).f1)]), 2 ≤ ((a1.flatMap e44).drop (x3.toNat * 2)).length, 2 = 2 ∧ 0 + 2 ≤ 2], []⟩ [c_ 15666, c_ 15667, b_ 1, c_ 1959, l_ 122, b_ 0, c_ 31] (alc ⟨c5, c4⟩ (alc (ldA e44_ok rfl rfl c5 c4) (alc (okI e44_ok c5 c4 (by decide)) (alc ⟨rfl, by decide⟩ aln)))) nocal ?_
        refine .reg' [0, 7, 8, 27, 28, 29, 36] [] ⟨[(0, (.sl true a0.length 1 (a0.flatMap encI))), (7, (I x1)), (8, (I x2)), (27, (.sl true a1.length 2 (a1.flatMap e44))), (28, (I (a1.length : Int))), (29, (I x3)), (36, (B ((at_ a1 x3).f0 == x1)))], [(1794, [(I (at_ a1 x3).f0), (I (at_ a1 x3).f1)])], [2 = 2 ∧ 0 + 1 ≤ 2], []⟩ [c_ 15667, b_ 1, c_ 1959, l_ 122, b_ 0, c_ 31] (alc ⟨rfl, by decide⟩ aln) nocal ?_
        by_cases c6 : (at_ a1 x3).f0 = x1
        · rw [if_pos c6] at h
          refine .cond' (.tmp 36) true [c_ 31334, b_ 1, c_ 1959, l_ 122, b_ 0, c_ 31] (bT (qT c6)) ?_
          refine .reg' [0, 7, 8, 27, 28, 29] [] ⟨[(0, (.sl true a0.length 1 (a0.flatMap encI))), (7, (I x1)), (8, (I (wrap64 (x2 + 1)))), (27, (.sl true a1.length 2 (a1.flatMap e44))), (28, (I (a1.length : Int))), (29, (I x3))], [(1794, [(I (at_ a1 x3).f0), (I (at_ a1 x3).f1)])], [], []⟩ [c_ 1959, l_ 122, b_ 0, c_ 31] aln nocal ?_
          refine .reg' [0, 7, 8, 27, 28, 29] [] ⟨[(0, (.sl true a0.length 1 (a0.flatMap encI))), (7, (I x1)), (8, (I (wrap64 (x2 + 1)))), (27, (.sl true a1.length 2 (a1.flatMap e44))), (28, (I (a1.length : Int))), (29, (I (wrap64 (x3 + 1))))], [(1794, [(I (at_ a1 x3).f0), (I (at_ a1 x3).f1)])], [], []⟩ [l_ 122, b_ 0, c_ 31] aln nocal ?_
          refine .wk' [] [] [(0, (.sl true a0.length 1 (a0.flatMap encI))), (7, (I x1)), (8, (I (wrap64 (x2 + 1)))), (27, (.sl true a1.length 2 (a1.flatMap e44))), (28, (I (a1.length : Int))), (29, (I (wrap64 (x3 + 1))))] [] shn (enc_ (.z (frz_sl encI_ok (fun h => h))) (enc_ (.z .s) (enc_ (.z .s) (enc_ (.z (frz_sl e44_ok (fun h => h))) (enc_ (.z .s) (enc_ (.z .s) enn)))))) ?_
          exact ih0 a0 a1 x1 (wrap64 (x2 + 1)) (wrap64 (x3 + 1)) _ h
        · rw [if_neg c6] at h
          refine .cond' (.tmp 36) false [c_ 1959, l_ 122, b_ 0, c_ 31] (bF (qF c6)) ?_
          refine .reg' [0, 7, 8, 27, 28, 29] [] ⟨[(0, (.sl true a0.length 1 (a0.flatMap encI))), (7, (I x1)), (8, (I x2)), (27, (.sl true a1.length 2 (a1.flatMap e44))), (28, (I (a1.length : Int))), (29, (I (wrap64 (x3 + 1))))], [(1794, [(I (at_ a1 x3).f0), (I (at_ a1 x3).f1)])], [], []⟩ [l_ 122, b_ 0, c_ 31] aln nocal ?_
          refine .wk' [] [] [(0, (.sl true a0.length 1 (a0.flatMap encI))), (7, (I x1)), (8, (I x2)), (27, (.sl true a1.length 2 (a1.flatMap e44))), (28, (I (a1.length : Int))), (29, (I (wrap64 (x3 + 1))))] [] shn (enc_ (.z (frz_sl encI_ok (fun h => h))) (enc_ (.z .s) (enc_ (.z .s) (enc_ (.z (frz_sl e44_ok (fun h => h))) (enc_ (.z .s) (enc_ (.z .s) enn)))))) ?_
          exact ih0 a0 a1 x1 x2 (wrap64 (x3 + 1)) _ h
      · rw [if_neg c5] at h
        cases h
    · rw [if_neg c4] at h
      refine .cond' (.tmp 30) false [c_ 62, c_ 63] (bF (dF c4)) ?_
      obtain ⟨x4, hx4, h⟩ := Option.bind_eq_some_iff.mp h
      refine .reg' [6] [.no, .no, .no, .c ⟨43, [(.sl true a0.length 1 (a0.flatMap encI)), (I x1)], [], (I x4), [], [], [], [], (I x4), []⟩] ⟨[(6, (B (decide (x2 < x4))))], [], [COK (hget []) [(.sl true a0.length 1 (a0.flatMap encI)), (I x1)] ⟨43, [(.sl true a0.length 1 (a0.flatMap encI)), (I x1)], [], (I x4), [], [], [], [], (I x4), []⟩], [⟨43, [(.sl true a0.length 1 (a0.flatMap encI)), (I x1)], [], (I x4), [], [], [], [], (I x4), []⟩]⟩ [c_ 63] (alc (cok0 false (a2c (.z (frz_sl encI_ok (fun h => h))) (a2c (.z .s) a2n)) (.z .s) (fun h => absurd h (by decide))) aln) (acal (impl_fits.J a0 x1 _ hx4) nocal) ?_
      have h := Option.some.inj h
      subst h
      exact .fin0 [] (B (decide (x2 < x4))) [] aln (.z .s)
end Go.Proofs.Ytpjmefdpjlhkhaa.Fns
