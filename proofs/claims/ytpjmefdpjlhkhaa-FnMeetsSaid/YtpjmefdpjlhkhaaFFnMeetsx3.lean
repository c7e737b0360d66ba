/- The functions that the law FnMeets reaches, by the engine. Printed by a program of this seat. -/
import Derived.Test.YtpjmefdpjlhkhaaE5
import Derived.Test.YtpjmefdpjlhkhaaProg
import Derived.Test.YtpjmefdpjlhkhaaFFnMeetsx2
namespace Go.Proofs.Ytpjmefdpjlhkhaa.Fns
open Go.Proofs.Try Go.Proofs.Ytpjmefdpjlhkhaa.Eng Go.RowKit
set_option maxRecDepth 100000
set_option linter.unusedVariables false
set_option linter.unusedSimpArgs false
theorem spec_l07Search.lab : ∀ k, (∀ (a0 : (List Int)) (a1 : (List S44)) (a2 : (List Bool)) (r : (Bool × (List Bool))), spec_l07Search.f k a0 a1 a2 = some r → J prog (.call 50 [(.sl true a0.length 1 (a0.flatMap encI)), (.sl true a1.length 2 (a1.flatMap e44)), (.rf 32 0 a2.length 1 (a2.length * 1))] [(32, (a2.flatMap encB))] (B r.1) [(32, (r.2.flatMap encB))])) ∧ (∀ (a0 : (List Int)) (a1 : (List S44)) (x3 : (List Bool)) (x4 : Int) (r : (Bool × (List Bool))), spec_l07Search.l0 k a0 a1 x3 x4 = some r → J prog (.run 50 [32] [l_ 122, b_ 0, c_ 31] [(0, (.sl true a0.length 1 (a0.flatMap encI))), (1, (.sl true a1.length 2 (a1.flatMap e44))), (2, (.rf 32 0 x3.length 1 (x3.length * 1))), (7, (I x4))] [(32, (x3.flatMap encB))] (B r.1) [(32, (r.2.flatMap encB))]))
 | 0 => ⟨(by intro a0 a1 a2 r h; unfold spec_l07Search.f at h; cases h), (by intro a0 a1 x3 x4 r h; unfold spec_l07Search.l0 at h; cases h)⟩
 | k + 1 => by
  obtain ⟨ihf, ih0⟩ := spec_l07Search.lab k
  have lenf := spec_l07Search.len k
  refine ⟨?_, ?_⟩
  · intro a0 a1 a2 r h
    unfold spec_l07Search.f at h
    refine .call' [c_ 2, c_ 3] ?_
    refine .reg' [0, 1, 2] [] ⟨[(0, (.sl true a0.length 1 (a0.flatMap encI))), (1, (.sl true a1.length 2 (a1.flatMap e44))), (2, (.rf 32 0 a2.length 1 (a2.length * 1)))], [(32, (a2.flatMap encB))], [], []⟩ [c_ 12, c_ 13, c_ 7] aln nocal ?_
    obtain ⟨x1, hx1, h⟩ := Option.bind_eq_some_iff.mp h
    refine .reg' [0, 1, 2, 11] [.no, .c ⟨47, [(.sl true a1.length 2 (a1.flatMap e44))], [], (B x1), [], [], [], [], (B x1), []⟩] ⟨[(0, (.sl true a0.length 1 (a0.flatMap encI))), (1, (.sl true a1.length 2 (a1.flatMap e44))), (2, (.rf 32 0 a2.length 1 (a2.length * 1))), (11, (B x1))], [(32, (a2.flatMap encB))], [COK (hget [(32, (a2.flatMap encB))]) [(.sl true a1.length 2 (a1.flatMap e44))] ⟨47, [(.sl true a1.length 2 (a1.flatMap e44))], [], (B x1), [], [], [], [], (B x1), []⟩], [⟨47, [(.sl true a1.length 2 (a1.flatMap e44))], [], (B x1), [], [], [], [], (B x1), []⟩]⟩ [c_ 13, c_ 7] (alc (cok0 false (a2c (.z (frz_sl e44_ok (fun h => h))) a2n) (.z .s) (fun h => absurd h (by decide))) aln) (acal (spec_l07Done.J k a1 _ hx1) nocal) ?_
    by_cases c1 : x1 = true
    · rw [if_pos c1] at h
      refine .cond' (.tmp 11) true [c_ 52, c_ 53, c_ 7] (bT c1) ?_
      refine .reg' [6] [] ⟨[(6, (B true))], [(32, (a2.flatMap encB))], [], []⟩ [c_ 53, c_ 7] aln nocal ?_
      have h := Option.some.inj h
      subst h
      exact .fin' [] [(32, 32)] (B true) [] aln (shc 32 (rowF encB_ok _) shn) (.z .s)
    · rw [if_neg c1] at h
      refine .cond' (.tmp 11) false [c_ 14, c_ 15] (bF (vF c1)) ?_
      obtain ⟨x2, hx2, h⟩ := Option.bind_eq_some_iff.mp h
      by_cases c2 : 0 ≤ x2
      · rw [if_pos c2] at h
        by_cases c3 : x2 < (a2.length : Int)
        · rw [if_pos c3] at h
          refine .reg' [0, 1, 2] [.no, .no, .no, .c ⟨58, [(.sl true a0.length 1 (a0.flatMap encI)), (.sl true a1.length 2 (a1.flatMap e44))], [], (I x2), [], [], [], [], (I x2), []⟩, .no, .w .un ((a2.set x2.toNat true).flatMap encB)] ⟨[(0, (.sl true a0.length 1 (a0.flatMap encI))), (1, (.sl true a1.length 2 (a1.flatMap e44))), (2, (.rf 32 0 a2.length 1 (a2.length * 1)))], [(32, ((a2.set x2.toNat true).flatMap encB))], [COK (hget [(32, (a2.flatMap encB))]) [(.sl true a0.length 1 (a0.flatMap encI)), (.sl true a1.length 2 (a1.flatMap e44))] ⟨58, [(.sl true a0.length 1 (a0.flatMap encI)), (.sl true a1.length 2 (a1.flatMap e44))], [], (I x2), [], [], [], [], (I x2), []⟩, (0 : Int) ≤ x2 ∧ x2 < (a2.length : Int), V.un = V.un, spl (a2.flatMap encB) (0 + x2.toNat * 1) [(B true)] = ((a2.set x2.toNat true).flatMap encB), a2.length * 1 = (a2.flatMap encB).length ∧ 0 + x2.toNat * 1 + 1 ≤ (a2.flatMap encB).length], [⟨58, [(.sl true a0.length 1 (a0.flatMap encI)), (.sl true a1.length 2 (a1.flatMap e44))], [], (I x2), [], [], [], [], (I x2), []⟩]⟩ [c_ 60, c_ 61, c_ 31] (alc (cok0 false (a2c (.z (frz_sl encI_ok (fun h => h))) (a2c (.z (frz_sl e44_ok (fun h => h))) a2n)) (.z .s) (fun h => absurd h (by decide))) (alc ⟨c2, c3⟩ (alc rfl (alc (st_row1 encB_ok c2 c3 (B true) rfl) (alc (okA0 encB_ok c2 c3 (by decide)) aln))))) (acal (spec_l07Key.J k a0 a1 _ hx2) nocal) ?_
          refine .eqs (env2 := [(0, (.sl true a0.length 1 (a0.flatMap encI))), (1, (.sl true a1.length 2 (a1.flatMap e44))), (2, (.rf 32 0 ((a2.set x2.toNat true).length) 1 ((a2.set x2.toNat true).length * 1)))]) (H2 := [(32, ((a2.set x2.toNat true).flatMap encB))]) (by first | (simp only [List.length_set]; done) | simp) (by first | rfl | (simp only [List.length_set]; done) | simp) ?_
          refine .reg' [0, 1, 2, 7] [] ⟨[(0, (.sl true a0.length 1 (a0.flatMap encI))), (1, (.sl true a1.length 2 (a1.flatMap e44))), (2, (.rf 32 0 ((a2.set x2.toNat true).length) 1 ((a2.set x2.toNat true).length * 1))), (7, (I 0))], [(32, ((a2.set x2.toNat true).flatMap encB))], [], []⟩ [l_ 122, b_ 0, c_ 31] aln nocal ?_
          exact ih0 a0 a1 (a2.set x2.toNat true) 0 _ h
        · rw [if_neg c3] at h
          cases h
      · rw [if_neg c2] at h
        cases h
  · intro a0 a1 x3 x4 r h
    unfold spec_l07Search.l0 at h
    refine .loop' [c_ 976, c_ 977, c_ 489, l_ 122, b_ 0, c_ 31] ?_
    refine .reg' [0, 1, 2, 7, 20] [] ⟨[(0, (.sl true a0.length 1 (a0.flatMap encI))), (1, (.sl true a1.length 2 (a1.flatMap e44))), (2, (.rf 32 0 x3.length 1 (x3.length * 1))), (7, (I x4)), (20, (B (decide (x4 < (a1.length : Int)))))], [(32, (x3.flatMap encB))], [], []⟩ [c_ 977, c_ 489, l_ 122, b_ 0, c_ 31] aln nocal ?_
    by_cases c4 : x4 < (a1.length : Int)
    · rw [if_pos c4] at h
      refine .cond' (.tmp 20) true [c_ 3912, c_ 3913, b_ 1, c_ 979, l_ 122, b_ 0, c_ 31] (bT (dT c4)) ?_
      obtain ⟨x5, hx5, h⟩ := Option.bind_eq_some_iff.mp h
      refine .reg' [0, 1, 2, 7, 8, 9] [.no, .no, .no, .c ⟨23, [(.sl true a0.length 1 (a0.flatMap encI)), (.sl true a1.length 2 (a1.flatMap e44)), (I x4)], [], (.tp [(.rf 1024 0 x5.1.length 2 (x5.1.length * 2)), (B x5.2)]), [(1024, (x5.1.flatMap e44))], [], [], [(1002051, 1024)], (.tp [(.rf 1002051 0 x5.1.length 2 (x5.1.length * 2)), (B x5.2)]), [(1002051, (x5.1.flatMap e44))]⟩] ⟨[(0, (.sl true a0.length 1 (a0.flatMap encI))), (1, (.sl true a1.length 2 (a1.flatMap e44))), (2, (.rf 32 0 x3.length 1 (x3.length * 1))), (7, (I x4)), (8, (.rf 1002051 0 x5.1.length 2 (x5.1.length * 2))), (9, (B x5.2))], [(32, (x3.flatMap encB)), (1002051, (x5.1.flatMap e44))], [COK (hget [(32, (x3.flatMap encB))]) [(.sl true a0.length 1 (a0.flatMap encI)), (.sl true a1.length 2 (a1.flatMap e44)), (I x4)] ⟨23, [(.sl true a0.length 1 (a0.flatMap encI)), (.sl true a1.length 2 (a1.flatMap e44)), (I x4)], [], (.tp [(.rf 1024 0 x5.1.length 2 (x5.1.length * 2)), (B x5.2)]), [(1024, (x5.1.flatMap e44))], [], [], [(1002051, 1024)], (.tp [(.rf 1002051 0 x5.1.length 2 (x5.1.length * 2)), (B x5.2)]), [(1002051, (x5.1.flatMap e44))]⟩], [⟨23, [(.sl true a0.length 1 (a0.flatMap encI)), (.sl true a1.length 2 (a1.flatMap e44)), (I x4)], [], (.tp [(.rf 1024 0 x5.1.length 2 (x5.1.length * 2)), (B x5.2)]), [(1024, (x5.1.flatMap e44))], [], [], [(1002051, 1024)], (.tp [(.rf 1002051 0 x5.1.length 2 (x5.1.length * 2)), (B x5.2)]), [(1002051, (x5.1.flatMap e44))]⟩]⟩ [c_ 7826, c_ 7827, b_ 1, c_ 979, l_ 122, b_ 0, c_ 31] (alc (cokW false (a2c (.z (frz_sl encI_ok (fun h => h))) (a2c (.z (frz_sl e44_ok (fun h => h))) (a2c (.z .s) a2n))) akn (akc (.inr rfl) akn) (bck_tp (a2c (.rf (memP_mem (p := (1002051, 1024)) rfl)) (a2c (.z .s) a2n))) (akc ⟨_, _, rfl, rfl, rowB e44_c _⟩ akn) (fun h => absurd h (by decide))) aln) (acal (spec_MoveOn.J k a0 a1 x4 _ hx5) nocal) ?_
      by_cases c5 : x5.2 = true
      · rw [if_pos c5] at h
        obtain ⟨x6, hx6, h⟩ := Option.bind_eq_some_iff.mp h
        by_cases c6 : 0 ≤ x6
        · rw [if_pos c6] at h
          by_cases c7 : x6 < (x3.length : Int)
          · rw [if_pos c7] at h
            by_cases c8 : (at_ x3 x6) = true
            · rw [if_pos c8] at h
              refine .reg' [0, 1, 2, 7, 45] [.no, .v (B true), .no, .no, .no, .c ⟨58, [(.sl true a0.length 1 (a0.flatMap encI)), (.sl true x5.1.length 2 (x5.1.flatMap e44))], [], (I x6), [], [1002051], [], [], (I x6), []⟩, .no, .v (B (at_ x3 x6)), .no, .no, .v (B false)] ⟨[(0, (.sl true a0.length 1 (a0.flatMap encI))), (1, (.sl true a1.length 2 (a1.flatMap e44))), (2, (.rf 32 0 x3.length 1 (x3.length * 1))), (7, (I x4)), (45, (B false))], [(32, (x3.flatMap encB)), (1002051, (x5.1.flatMap e44))], [(B x5.2 : V) = B true, COK (hget [(32, (x3.flatMap encB)), (1002051, (x5.1.flatMap e44))]) [(.sl true a0.length 1 (a0.flatMap encI)), (.rf 1002051 0 x5.1.length 2 (x5.1.length * 2))] ⟨58, [(.sl true a0.length 1 (a0.flatMap encI)), (.sl true x5.1.length 2 (x5.1.flatMap e44))], [], (I x6), [], [1002051], [], [], (I x6), []⟩, (0 : Int) ≤ x6 ∧ x6 < (x3.length : Int), rdC prog 4 ((x3.flatMap encB).drop (0 + x6.toNat * 1)) = (B (at_ x3 x6)), x3.length * 1 = (x3.flatMap encB).length ∧ 0 + x6.toNat * 1 + 1 ≤ (x3.flatMap encB).length, (B (!(at_ x3 x6)) : V) = B false], [⟨58, [(.sl true a0.length 1 (a0.flatMap encI)), (.sl true x5.1.length 2 (x5.1.flatMap e44))], [], (I x6), [], [1002051], [], [], (I x6), []⟩]⟩ [c_ 7827, b_ 1, c_ 979, l_ 122, b_ 0, c_ 31] (alc (bT c5) (alc (cok0 false (a2c (.z (frz_sl encI_ok (fun h => h))) (a2c (.z (frz_rf (k := 1002051) e44_ok (by simp) rfl rfl (row_len e44_ok _).symm)) a2n)) (.z .s) (fun h => absurd h (by decide))) (alc ⟨c6, c7⟩ (alc (ldC01 encB_ok rfl c6 c7) (alc (okA0 encB_ok c6 c7 (by decide)) (alc (bF (nF c8)) aln)))))) (acal (spec_l07Key.J k a0 x5.1 _ hx6) nocal) ?_
              refine .cond' (.tmp 45) false [c_ 979, l_ 122, b_ 0, c_ 31] (rfl) ?_
              refine .reg' [0, 1, 2, 7] [] ⟨[(0, (.sl true a0.length 1 (a0.flatMap encI))), (1, (.sl true a1.length 2 (a1.flatMap e44))), (2, (.rf 32 0 x3.length 1 (x3.length * 1))), (7, (I (wrap64 (x4 + 1))))], [(32, (x3.flatMap encB)), (1002051, (x5.1.flatMap e44))], [], []⟩ [l_ 122, b_ 0, c_ 31] aln nocal ?_
              refine .wk' [] [(32, 32)] [(0, (.sl true a0.length 1 (a0.flatMap encI))), (1, (.sl true a1.length 2 (a1.flatMap e44))), (2, (.rf 32 0 x3.length 1 (x3.length * 1))), (7, (I (wrap64 (x4 + 1))))] [(32, (x3.flatMap encB))] (shc 32 (rowF encB_ok _) shn) (enc_ (.z (frz_sl encI_ok (fun h => h))) (enc_ (.z (frz_sl e44_ok (fun h => h))) (enc_ (.rf (memP_mem (p := (32, 32)) rfl)) (enc_ (.z .s) enn)))) ?_
              exact ih0 a0 a1 x3 (wrap64 (x4 + 1)) _ h
            · rw [if_neg c8] at h
              obtain ⟨x7, hx7, h⟩ := Option.bind_eq_some_iff.mp h
              refine .reg' [0, 1, 2, 7, 45] [.no, .v (B true), .no, .no, .no, .c ⟨58, [(.sl true a0.length 1 (a0.flatMap encI)), (.sl true x5.1.length 2 (x5.1.flatMap e44))], [], (I x6), [], [1002051], [], [], (I x6), []⟩, .no, .v (B (at_ x3 x6)), .no, .no, .v (B true), .no, .no, .no, .c ⟨50, [(.sl true a0.length 1 (a0.flatMap encI)), (.sl true x5.1.length 2 (x5.1.flatMap e44)), (.rf 32 0 x3.length 1 (x3.length * 1))], [(32, (x3.flatMap encB))], (B x7.1), [(32, (x7.2.flatMap encB))], [1002051], [(32, 32)], [(32, 32)], (B x7.1), [(32, (x7.2.flatMap encB))]⟩] ⟨[(0, (.sl true a0.length 1 (a0.flatMap encI))), (1, (.sl true a1.length 2 (a1.flatMap e44))), (2, (.rf 32 0 x3.length 1 (x3.length * 1))), (7, (I x4)), (45, (B x7.1))], [(32, (x7.2.flatMap encB)), (1002051, (x5.1.flatMap e44))], [(B x5.2 : V) = B true, COK (hget [(32, (x3.flatMap encB)), (1002051, (x5.1.flatMap e44))]) [(.sl true a0.length 1 (a0.flatMap encI)), (.rf 1002051 0 x5.1.length 2 (x5.1.length * 2))] ⟨58, [(.sl true a0.length 1 (a0.flatMap encI)), (.sl true x5.1.length 2 (x5.1.flatMap e44))], [], (I x6), [], [1002051], [], [], (I x6), []⟩, (0 : Int) ≤ x6 ∧ x6 < (x3.length : Int), rdC prog 4 ((x3.flatMap encB).drop (0 + x6.toNat * 1)) = (B (at_ x3 x6)), x3.length * 1 = (x3.flatMap encB).length ∧ 0 + x6.toNat * 1 + 1 ≤ (x3.flatMap encB).length, (B (!(at_ x3 x6)) : V) = B true, COK (hget [(32, (x3.flatMap encB)), (1002051, (x5.1.flatMap e44))]) [(.sl true a0.length 1 (a0.flatMap encI)), (.rf 1002051 0 x5.1.length 2 (x5.1.length * 2)), (.rf 32 0 x3.length 1 (x3.length * 1))] ⟨50, [(.sl true a0.length 1 (a0.flatMap encI)), (.sl true x5.1.length 2 (x5.1.flatMap e44)), (.rf 32 0 x3.length 1 (x3.length * 1))], [(32, (x3.flatMap encB))], (B x7.1), [(32, (x7.2.flatMap encB))], [1002051], [(32, 32)], [(32, 32)], (B x7.1), [(32, (x7.2.flatMap encB))]⟩], [⟨58, [(.sl true a0.length 1 (a0.flatMap encI)), (.sl true x5.1.length 2 (x5.1.flatMap e44))], [], (I x6), [], [1002051], [], [], (I x6), []⟩, ⟨50, [(.sl true a0.length 1 (a0.flatMap encI)), (.sl true x5.1.length 2 (x5.1.flatMap e44)), (.rf 32 0 x3.length 1 (x3.length * 1))], [(32, (x3.flatMap encB))], (B x7.1), [(32, (x7.2.flatMap encB))], [1002051], [(32, 32)], [(32, 32)], (B x7.1), [(32, (x7.2.flatMap encB))]⟩]⟩ [c_ 7827, b_ 1, c_ 979, l_ 122, b_ 0, c_ 31] (alc (bT c5) (alc (cok0 false (a2c (.z (frz_sl encI_ok (fun h => h))) (a2c (.z (frz_rf (k := 1002051) e44_ok (by simp) rfl rfl (row_len e44_ok _).symm)) a2n)) (.z .s) (fun h => absurd h (by decide))) (alc ⟨c6, c7⟩ (alc (ldC01 encB_ok rfl c6 c7) (alc (okA0 encB_ok c6 c7 (by decide)) (alc (bT (nT (vF c8))) (alc (cokW false (a2c (.z (frz_sl encI_ok (fun h => h))) (a2c (.z (frz_rf (k := 1002051) e44_ok (by simp) rfl rfl (row_len e44_ok _).symm)) (a2c (.rf (memP_mem (p := (32, 32)) rfl)) a2n))) (akc ⟨_, _, rfl, rfl, (rowF encB_ok _)⟩ akn) (akc (.inl rfl) akn) (.z .s) (akc ⟨_, _, rfl, rfl, rowB encB_c _⟩ akn) (fun h => absurd h (by decide))) aln))))))) (acal (spec_l07Key.J k a0 x5.1 _ hx6) (acal (ihf a0 x5.1 x3 _ hx7) nocal)) ?_
              refine .eqs (env2 := [(0, (.sl true a0.length 1 (a0.flatMap encI))), (1, (.sl true a1.length 2 (a1.flatMap e44))), (2, (.rf 32 0 x7.2.length 1 (x7.2.length * 1))), (7, (I x4)), (45, (B x7.1))]) (H2 := [(32, (x7.2.flatMap encB)), (1002051, (x5.1.flatMap e44))]) (by first | (simp only [List.length_set, (lenf a0 x5.1 x3 _ hx7)]; done) | simp) (by first | rfl | (simp only [List.length_set, (lenf a0 x5.1 x3 _ hx7)]; done) | simp) ?_
              by_cases c9 : x7.1 = true
              · rw [if_pos c9] at h
                refine .cond' (.tmp 45) true [c_ 31308, c_ 31309, b_ 1, c_ 979, l_ 122, b_ 0, c_ 31] (bT c9) ?_
                refine .reg' [6] [] ⟨[(6, (B true))], [(32, (x7.2.flatMap encB)), (1002051, (x5.1.flatMap e44))], [], []⟩ [c_ 31309, b_ 1, c_ 979, l_ 122, b_ 0, c_ 31] aln nocal ?_
                have h := Option.some.inj h
                subst h
                exact .fin' [] [(32, 32)] (B true) [] aln (shc 32 (rowF encB_ok _) shn) (.z .s)
              · rw [if_neg c9] at h
                refine .cond' (.tmp 45) false [c_ 979, l_ 122, b_ 0, c_ 31] (bF (vF c9)) ?_
                refine .reg' [0, 1, 2, 7] [] ⟨[(0, (.sl true a0.length 1 (a0.flatMap encI))), (1, (.sl true a1.length 2 (a1.flatMap e44))), (2, (.rf 32 0 x7.2.length 1 (x7.2.length * 1))), (7, (I (wrap64 (x4 + 1))))], [(32, (x7.2.flatMap encB)), (1002051, (x5.1.flatMap e44))], [], []⟩ [l_ 122, b_ 0, c_ 31] aln nocal ?_
                refine .wk' [] [(32, 32)] [(0, (.sl true a0.length 1 (a0.flatMap encI))), (1, (.sl true a1.length 2 (a1.flatMap e44))), (2, (.rf 32 0 x7.2.length 1 (x7.2.length * 1))), (7, (I (wrap64 (x4 + 1))))] [(32, (x7.2.flatMap encB))] (shc 32 (rowF encB_ok _) shn) (enc_ (.z (frz_sl encI_ok (fun h => h))) (enc_ (.z (frz_sl e44_ok (fun h => h))) (enc_ (.rf (memP_mem (p := (32, 32)) rfl)) (enc_ (.z .s) enn)))) ?_
                exact ih0 a0 a1 x7.2 (wrap64 (x4 + 1)) _ h
          · rw [if_neg c7] at h
            cases h
        · rw [if_neg c6] at h
          cases h
      · rw [if_neg c5] at h
        refine .reg' [0, 1, 2, 7, 45] [.no, .v (B false)] ⟨[(0, (.sl true a0.length 1 (a0.flatMap encI))), (1, (.sl true a1.length 2 (a1.flatMap e44))), (2, (.rf 32 0 x3.length 1 (x3.length * 1))), (7, (I x4)), (45, (B false))], [(32, (x3.flatMap encB)), (1002051, (x5.1.flatMap e44))], [(B x5.2 : V) = B false], []⟩ [c_ 7827, b_ 1, c_ 979, l_ 122, b_ 0, c_ 31] (alc (bF (vF c5)) aln) nocal ?_
        refine .cond' (.tmp 45) false [c_ 979, l_ 122, b_ 0, c_ 31] (rfl) ?_
        refine .reg' [0, 1, 2, 7] [] ⟨[(0, (.sl true a0.length 1 (a0.flatMap encI))), (1, (.sl true a1.length 2 (a1.flatMap e44))), (2, (.rf 32 0 x3.length 1 (x3.length * 1))), (7, (I (wrap64 (x4 + 1))))], [(32, (x3.flatMap encB)), (1002051, (x5.1.flatMap e44))], [], []⟩ [l_ 122, b_ 0, c_ 31] aln nocal ?_
        refine .wk' [] [(32, 32)] [(0, (.sl true a0.length 1 (a0.flatMap encI))), (1, (.sl true a1.length 2 (a1.flatMap e44))), (2, (.rf 32 0 x3.length 1 (x3.length * 1))), (7, (I (wrap64 (x4 + 1))))] [(32, (x3.flatMap encB))] (shc 32 (rowF encB_ok _) shn) (enc_ (.z (frz_sl encI_ok (fun h => h))) (enc_ (.z (frz_sl e44_ok (fun h => h))) (enc_ (.rf (memP_mem (p := (32, 32)) rfl)) (enc_ (.z .s) enn)))) ?_
        exact ih0 a0 a1 x3 (wrap64 (x4 + 1)) _ h
    · rw [if_neg c4] at h
      refine .cond' (.tmp 20) false [c_ 62, c_ 63] (bF (dF c4)) ?_
      refine .reg' [6] [] ⟨[(6, (B false))], [(32, (x3.flatMap encB))], [], []⟩ [c_ 63] aln nocal ?_
      have h := Option.some.inj h
      subst h
      exact .fin' [] [(32, 32)] (B false) [] aln (shc 32 (rowF encB_ok _) shn) (.z .s)
theorem spec_l07Search.J (k : Nat) (a0 : (List Int)) (a1 : (List S44)) (a2 : (List Bool)) (r : (Bool × (List Bool))) (h : spec_l07Search.f k a0 a1 a2 = some r) : J prog (.call 50 [(.sl true a0.length 1 (a0.flatMap encI)), (.sl true a1.length 2 (a1.flatMap e44)), (.rf 32 0 a2.length 1 (a2.length * 1))] [(32, (a2.flatMap encB))] (B r.1) [(32, (r.2.flatMap encB))]) := by
  exact (spec_l07Search.lab k).1 a0 a1 a2 r h
/-! spec_CanFinish: function 28 -/
def spec_CanFinish.l0 : Nat → (List Int) → (List S44) → Int → Int → Option Bool
 | 0, _, _, _, _ => none
 | k + 1, a0, a1, x2, x3 => (if x3 < (a1.length : Int) then (spec_CanFinish.l0 k a0 a1 (wrap64 (x2 * (wrap64 ((wrap64 (2 * (a0.length : Int))) - 1)))) (wrap64 (x3 + 1))) else (if 0 ≤ x2 then (if x2 * 1 ≤ 281474976710656 then ((spec_l07Search.f k a0 a1 (List.replicate x2.toNat (false : Bool))).bind fun x4 => (some x4.1)) else none) else none))
def spec_CanFinish.f (k : Nat) (a0 : (List Int)) (a1 : (List S44)) : Option Bool := ((spec_SinglesOk.f k a0 a1).bind fun x1 => (if x1 = true then (spec_CanFinish.l0 k a0 a1 1 0) else (some false)))
theorem spec_CanFinish.lab : ∀ k, (∀ (a0 : (List Int)) (a1 : (List S44)) (x2 : Int) (x3 : Int) (r : Bool), spec_CanFinish.l0 k a0 a1 x2 x3 = some r → J prog (.run 28 [] [l_ 122, b_ 0, c_ 31] [(0, (.sl true a0.length 1 (a0.flatMap encI))), (1, (.sl true a1.length 2 (a1.flatMap e44))), (5, (I x2)), (6, (I x3))] [] (B r) []))
 | 0 => (by intro a0 a1 x2 x3 r h; unfold spec_CanFinish.l0 at h; cases h)
 | k + 1 => by
  have ih0 := spec_CanFinish.lab k
  · intro a0 a1 x2 x3 r h
    unfold spec_CanFinish.l0 at h
    refine .loop' [c_ 976, c_ 977, c_ 489, l_ 122, b_ 0, c_ 31] ?_
    refine .reg' [0, 1, 5, 6, 14] [] ⟨[(0, (.sl true a0.length 1 (a0.flatMap encI))), (1, (.sl true a1.length 2 (a1.flatMap e44))), (5, (I x2)), (6, (I x3)), (14, (B (decide (x3 < (a1.length : Int)))))], [], [], []⟩ [c_ 977, c_ 489, l_ 122, b_ 0, c_ 31] aln nocal ?_
    by_cases c2 : x3 < (a1.length : Int)
    · rw [if_pos c2] at h
      refine .cond' (.tmp 14) true [c_ 1956, b_ 1, c_ 979, l_ 122, b_ 0, c_ 31] (bT (dT c2)) ?_
      refine .reg' [0, 1, 5, 6] [] ⟨[(0, (.sl true a0.length 1 (a0.flatMap encI))), (1, (.sl true a1.length 2 (a1.flatMap e44))), (5, (I (wrap64 (x2 * (wrap64 ((wrap64 (2 * (a0.length : Int))) - 1)))))), (6, (I x3))], [], [], []⟩ [c_ 979, l_ 122, b_ 0, c_ 31] aln nocal ?_
      refine .reg' [0, 1, 5, 6] [] ⟨[(0, (.sl true a0.length 1 (a0.flatMap encI))), (1, (.sl true a1.length 2 (a1.flatMap e44))), (5, (I (wrap64 (x2 * (wrap64 ((wrap64 (2 * (a0.length : Int))) - 1)))))), (6, (I (wrap64 (x3 + 1))))], [], [], []⟩ [l_ 122, b_ 0, c_ 31] aln nocal ?_
      exact ih0 a0 a1 (wrap64 (x2 * (wrap64 ((wrap64 (2 * (a0.length : Int))) - 1)))) (wrap64 (x3 + 1)) _ h
    · rw [if_neg c2] at h
      refine .cond' (.tmp 14) false [c_ 62, c_ 63] (bF (dF c2)) ?_
      by_cases c3 : 0 ≤ x2
      · rw [if_pos c3] at h
        by_cases c4 : x2 * 1 ≤ 281474976710656
        · rw [if_pos c4] at h
          obtain ⟨x4, hx4, h⟩ := Option.bind_eq_some_iff.mp h
          refine .reg' [4] [.no, .no, .no, .w (.rf 2307 0 ((List.replicate x2.toNat (false : Bool)).length) 1 ((List.replicate x2.toNat (false : Bool)).length * 1)) ((List.replicate x2.toNat (false : Bool)).flatMap encB), .c ⟨50, [(.sl true a0.length 1 (a0.flatMap encI)), (.sl true a1.length 2 (a1.flatMap e44)), (.rf 32 0 ((List.replicate x2.toNat (false : Bool)).length) 1 ((List.replicate x2.toNat (false : Bool)).length * 1))], [(32, ((List.replicate x2.toNat (false : Bool)).flatMap encB))], (B x4.1), [(32, (x4.2.flatMap encB))], [], [(2307, 32)], [(2307, 32)], (B x4.1), [(2307, (x4.2.flatMap encB))]⟩] ⟨[(4, (B x4.1))], [(2307, (x4.2.flatMap encB))], [V.rf 2307 0 x2.toNat 1 (x2.toNat * 1) = (.rf 2307 0 ((List.replicate x2.toNat (false : Bool)).length) 1 ((List.replicate x2.toNat (false : Bool)).length * 1)), rept x2.toNat [(B false)] = (List.replicate x2.toNat (false : Bool)).flatMap encB, x2 = x2 ∧ 0 ≤ x2 ∧ x2 * 1 ≤ 281474976710656 ∧ x2 ≤ 9223372036854775807, COK (hget [(2307, ((List.replicate x2.toNat (false : Bool)).flatMap encB))]) [(.sl true a0.length 1 (a0.flatMap encI)), (.sl true a1.length 2 (a1.flatMap e44)), (.rf 2307 0 ((List.replicate x2.toNat (false : Bool)).length) 1 ((List.replicate x2.toNat (false : Bool)).length * 1))] ⟨50, [(.sl true a0.length 1 (a0.flatMap encI)), (.sl true a1.length 2 (a1.flatMap e44)), (.rf 32 0 ((List.replicate x2.toNat (false : Bool)).length) 1 ((List.replicate x2.toNat (false : Bool)).length * 1))], [(32, ((List.replicate x2.toNat (false : Bool)).flatMap encB))], (B x4.1), [(32, (x4.2.flatMap encB))], [], [(2307, 32)], [(2307, 32)], (B x4.1), [(2307, (x4.2.flatMap encB))]⟩], [⟨50, [(.sl true a0.length 1 (a0.flatMap encI)), (.sl true a1.length 2 (a1.flatMap e44)), (.rf 32 0 ((List.replicate x2.toNat (false : Bool)).length) 1 ((List.replicate x2.toNat (false : Bool)).length * 1))], [(32, ((List.replicate x2.toNat (false : Bool)).flatMap encB))], (B x4.1), [(32, (x4.2.flatMap encB))], [], [(2307, 32)], [(2307, 32)], (B x4.1), [(2307, (x4.2.flatMap encB))]⟩]⟩ [c_ 63] (alc mkV (alc (row_rept1 (enc := encB) (x := false) (v := (B false)) rfl _) (alc ⟨rfl, c3, c4, by omega⟩ (alc (cokW false (a2c (.z (frz_sl encI_ok (fun h => h))) (a2c (.z (frz_sl e44_ok (fun h => h))) (a2c (.rf (memP_mem (p := (2307, 32)) rfl)) a2n))) (akc ⟨_, _, rfl, rfl, (rowF encB_ok _)⟩ akn) (akc (.inl rfl) akn) (.z .s) (akc ⟨_, _, rfl, rfl, rowB encB_c _⟩ akn) (fun h => absurd h (by decide))) aln)))) (acal (spec_l07Search.J k a0 a1 (List.replicate x2.toNat (false : Bool)) _ hx4) nocal) ?_
          have h := Option.some.inj h
          subst h
          exact .fin0 [] (B x4.1) [] aln (.z .s)
        · rw [if_neg c4] at h
          cases h
      · rw [if_neg c3] at h
        cases h
theorem spec_CanFinish.J (k : Nat) (a0 : (List Int)) (a1 : (List S44)) (r : Bool) (h : spec_CanFinish.f k a0 a1 = some r) : J prog (.call 28 [(.sl true a0.length 1 (a0.flatMap encI)), (.sl true a1.length 2 (a1.flatMap e44))] [] (B r) []) := by
  unfold spec_CanFinish.f at h
  have ih0 := spec_CanFinish.lab k
  refine .call' [c_ 2, c_ 3] ?_
  refine .reg' [0, 1] [] ⟨[(0, (.sl true a0.length 1 (a0.flatMap encI))), (1, (.sl true a1.length 2 (a1.flatMap e44)))], [], [], []⟩ [c_ 12, c_ 13, c_ 7] aln nocal ?_
  obtain ⟨x1, hx1, h⟩ := Option.bind_eq_some_iff.mp h
  refine .reg' [0, 1, 10] [.no, .no, .c ⟨13, [(.sl true a0.length 1 (a0.flatMap encI)), (.sl true a1.length 2 (a1.flatMap e44))], [], (B x1), [], [], [], [], (B x1), []⟩] ⟨[(0, (.sl true a0.length 1 (a0.flatMap encI))), (1, (.sl true a1.length 2 (a1.flatMap e44))), (10, (B (!x1)))], [], [COK (hget []) [(.sl true a0.length 1 (a0.flatMap encI)), (.sl true a1.length 2 (a1.flatMap e44))] ⟨13, [(.sl true a0.length 1 (a0.flatMap encI)), (.sl true a1.length 2 (a1.flatMap e44))], [], (B x1), [], [], [], [], (B x1), []⟩], [⟨13, [(.sl true a0.length 1 (a0.flatMap encI)), (.sl true a1.length 2 (a1.flatMap e44))], [], (B x1), [], [], [], [], (B x1), []⟩]⟩ [c_ 13, c_ 7] (alc (cok0 false (a2c (.z (frz_sl encI_ok (fun h => h))) (a2c (.z (frz_sl e44_ok (fun h => h))) a2n)) (.z .s) (fun h => absurd h (by decide))) aln) (acal (spec_SinglesOk.J k a0 a1 _ hx1) nocal) ?_
  by_cases c1 : x1 = true
  · rw [if_pos c1] at h
    refine .cond' (.tmp 10) false [c_ 14, c_ 15] (bF (nF c1)) ?_
    refine .reg' [0, 1, 5] [] ⟨[(0, (.sl true a0.length 1 (a0.flatMap encI))), (1, (.sl true a1.length 2 (a1.flatMap e44))), (5, (I 1))], [], [], []⟩ [c_ 60, c_ 61, c_ 31] aln nocal ?_
    refine .reg' [0, 1, 5, 6] [] ⟨[(0, (.sl true a0.length 1 (a0.flatMap encI))), (1, (.sl true a1.length 2 (a1.flatMap e44))), (5, (I 1)), (6, (I 0))], [], [], []⟩ [l_ 122, b_ 0, c_ 31] aln nocal ?_
    exact ih0 a0 a1 1 0 _ h
  · rw [if_neg c1] at h
    refine .cond' (.tmp 10) true [c_ 52, c_ 53, c_ 7] (bT (nT (vF c1))) ?_
    refine .reg' [4] [] ⟨[(4, (B false))], [], [], []⟩ [c_ 53, c_ 7] aln nocal ?_
    have h := Option.some.inj h
    subst h
    exact .fin0 [] (B false) [] aln (.z .s)
/-! impl_Stuck: function 22 -/
def impl_Stuck.l0 : Nat → (List Int) → (List S44) → Int → Option Bool
 | 0, _, _, _ => none
 | k + 1, a0, a1, x3 => (if x3 < (a1.length : Int) then ((impl_mayMove.f k a0 a1 x3).bind fun x4 => (if x4 = true then (some false) else (impl_Stuck.l0 k a0 a1 (wrap64 (x3 + 1))))) else (some true))
def impl_Stuck.f (k : Nat) (a0 : (List Int)) (a1 : (List S44)) : Option Bool := ((impl_SinglesOk.f k a0 a1).bind fun x1 => (if x1 = true then ((impl_home.f k a1).bind fun x2 => (if x2 = true then (some false) else (impl_Stuck.l0 k a0 a1 0))) else (some false)))
theorem impl_Stuck.lab : ∀ k, (∀ (a0 : (List Int)) (a1 : (List S44)) (x3 : Int) (r : Bool), impl_Stuck.l0 k a0 a1 x3 = some r → J prog (.run 22 [] [l_ 58, b_ 0, c_ 15] [(0, (.sl true a0.length 1 (a0.flatMap encI))), (1, (.sl true a1.length 2 (a1.flatMap e44))), (15, (I (a1.length : Int))), (16, (I x3))] [] (B r) []))
 | 0 => (by intro a0 a1 x3 r h; unfold impl_Stuck.l0 at h; cases h)
 | k + 1 => by
  have ih0 := impl_Stuck.lab k
  · intro a0 a1 x3 r h
    unfold impl_Stuck.l0 at h
    refine .loop' [c_ 232, c_ 233, l_ 58, b_ 0, c_ 15] ?_
    refine .reg' [0, 1, 15, 16, 17] [] ⟨[(0, (.sl true a0.length 1 (a0.flatMap encI))), (1, (.sl true a1.length 2 (a1.flatMap e44))), (15, (I (a1.length : Int))), (16, (I x3)), (17, (B (decide (x3 < (a1.length : Int)))))], [], [], []⟩ [c_ 466, c_ 467, l_ 58, b_ 0, c_ 15] aln nocal ?_
    by_cases c3 : x3 < (a1.length : Int)
    · rw [if_pos c3] at h
      refine .cond' (.tmp 17) true [c_ 3736, c_ 3737, b_ 1, c_ 935, l_ 58, b_ 0, c_ 15] (bT (dT c3)) ?_
      refine .reg' [0, 1, 5, 15, 16] [] ⟨[(0, (.sl true a0.length 1 (a0.flatMap encI))), (1, (.sl true a1.length 2 (a1.flatMap e44))), (5, (I x3)), (15, (I (a1.length : Int))), (16, (I x3))], [], [], []⟩ [c_ 7474, c_ 7475, b_ 1, c_ 935, l_ 58, b_ 0, c_ 15] aln nocal ?_
      obtain ⟨x4, hx4, h⟩ := Option.bind_eq_some_iff.mp h
      refine .reg' [0, 1, 15, 16, 22] [.no, .no, .no, .c ⟨46, [(.sl true a0.length 1 (a0.flatMap encI)), (.sl true a1.length 2 (a1.flatMap e44)), (I x3)], [], (B x4), [], [], [], [], (B x4), []⟩] ⟨[(0, (.sl true a0.length 1 (a0.flatMap encI))), (1, (.sl true a1.length 2 (a1.flatMap e44))), (15, (I (a1.length : Int))), (16, (I x3)), (22, (B x4))], [], [COK (hget []) [(.sl true a0.length 1 (a0.flatMap encI)), (.sl true a1.length 2 (a1.flatMap e44)), (I x3)] ⟨46, [(.sl true a0.length 1 (a0.flatMap encI)), (.sl true a1.length 2 (a1.flatMap e44)), (I x3)], [], (B x4), [], [], [], [], (B x4), []⟩], [⟨46, [(.sl true a0.length 1 (a0.flatMap encI)), (.sl true a1.length 2 (a1.flatMap e44)), (I x3)], [], (B x4), [], [], [], [], (B x4), []⟩]⟩ [c_ 7475, b_ 1, c_ 935, l_ 58, b_ 0, c_ 15] (alc (cok0 false (a2c (.z (frz_sl encI_ok (fun h => h))) (a2c (.z (frz_sl e44_ok (fun h => h))) (a2c (.z .s) a2n))) (.z .s) (fun h => absurd h (by decide))) aln) (acal (impl_mayMove.J k a0 a1 x3 _ hx4) nocal) ?_
      by_cases c4 : x4 = true
      · rw [if_pos c4] at h
        refine .cond' (.tmp 22) true [c_ 29900, c_ 29901, b_ 1, c_ 935, l_ 58, b_ 0, c_ 15] (bT c4) ?_
        refine .reg' [4] [] ⟨[(4, (B false))], [], [], []⟩ [c_ 29901, b_ 1, c_ 935, l_ 58, b_ 0, c_ 15] aln nocal ?_
        have h := Option.some.inj h
        subst h
        exact .fin0 [] (B false) [] aln (.z .s)
      · rw [if_neg c4] at h
        refine .cond' (.tmp 22) false [c_ 935, l_ 58, b_ 0, c_ 15] (bF (vF c4)) ?_
        refine .reg' [0, 1, 15, 16] [] ⟨[(0, (.sl true a0.length 1 (a0.flatMap encI))), (1, (.sl true a1.length 2 (a1.flatMap e44))), (15, (I (a1.length : Int))), (16, (I (wrap64 (x3 + 1))))], [], [], []⟩ [l_ 58, b_ 0, c_ 15] aln nocal ?_
        exact ih0 a0 a1 (wrap64 (x3 + 1)) _ h
    · rw [if_neg c3] at h
      refine .cond' (.tmp 17) false [c_ 30, c_ 31] (bF (dF c3)) ?_
      refine .reg' [4] [] ⟨[(4, (B true))], [], [], []⟩ [c_ 31] aln nocal ?_
      have h := Option.some.inj h
      subst h
      exact .fin0 [] (B true) [] aln (.z .s)
theorem impl_Stuck.J (k : Nat) (a0 : (List Int)) (a1 : (List S44)) (r : Bool) (h : impl_Stuck.f k a0 a1 = some r) : J prog (.call 22 [(.sl true a0.length 1 (a0.flatMap encI)), (.sl true a1.length 2 (a1.flatMap e44))] [] (B r) []) := by
  unfold impl_Stuck.f at h
  have ih0 := impl_Stuck.lab k
  refine .call' [c_ 2, c_ 3] ?_
  refine .reg' [0, 1] [] ⟨[(0, (.sl true a0.length 1 (a0.flatMap encI))), (1, (.sl true a1.length 2 (a1.flatMap e44)))], [], [], []⟩ [c_ 12, c_ 13, c_ 7] aln nocal ?_
  obtain ⟨x1, hx1, h⟩ := Option.bind_eq_some_iff.mp h
  by_cases c1 : x1 = true
  · rw [if_pos c1] at h
    obtain ⟨x2, hx2, h⟩ := Option.bind_eq_some_iff.mp h
    refine .reg' [0, 1, 13] [.no, .no, .c ⟨16, [(.sl true a0.length 1 (a0.flatMap encI)), (.sl true a1.length 2 (a1.flatMap e44))], [], (B x1), [], [], [], [], (B x1), []⟩, .no, .v (B false), .no, .c ⟨48, [(.sl true a1.length 2 (a1.flatMap e44))], [], (B x2), [], [], [], [], (B x2), []⟩] ⟨[(0, (.sl true a0.length 1 (a0.flatMap encI))), (1, (.sl true a1.length 2 (a1.flatMap e44))), (13, (B x2))], [], [COK (hget []) [(.sl true a0.length 1 (a0.flatMap encI)), (.sl true a1.length 2 (a1.flatMap e44))] ⟨16, [(.sl true a0.length 1 (a0.flatMap encI)), (.sl true a1.length 2 (a1.flatMap e44))], [], (B x1), [], [], [], [], (B x1), []⟩, (B (!x1) : V) = B false, COK (hget []) [(.sl true a1.length 2 (a1.flatMap e44))] ⟨48, [(.sl true a1.length 2 (a1.flatMap e44))], [], (B x2), [], [], [], [], (B x2), []⟩], [⟨16, [(.sl true a0.length 1 (a0.flatMap encI)), (.sl true a1.length 2 (a1.flatMap e44))], [], (B x1), [], [], [], [], (B x1), []⟩, ⟨48, [(.sl true a1.length 2 (a1.flatMap e44))], [], (B x2), [], [], [], [], (B x2), []⟩]⟩ [c_ 13, c_ 7] (alc (cok0 false (a2c (.z (frz_sl encI_ok (fun h => h))) (a2c (.z (frz_sl e44_ok (fun h => h))) a2n)) (.z .s) (fun h => absurd h (by decide))) (alc (bF (nF c1)) (alc (cok0 false (a2c (.z (frz_sl e44_ok (fun h => h))) a2n) (.z .s) (fun h => absurd h (by decide))) aln))) (acal (impl_SinglesOk.J k a0 a1 _ hx1) (acal (impl_home.J k a1 _ hx2) nocal)) ?_
    by_cases c2 : x2 = true
    · rw [if_pos c2] at h
      refine .cond' (.tmp 13) true [c_ 52, c_ 53, c_ 7] (bT c2) ?_
      refine .reg' [4] [] ⟨[(4, (B false))], [], [], []⟩ [c_ 53, c_ 7] aln nocal ?_
      have h := Option.some.inj h
      subst h
      exact .fin0 [] (B false) [] aln (.z .s)
    · rw [if_neg c2] at h
      refine .cond' (.tmp 13) false [c_ 28, c_ 29, c_ 15] (bF (vF c2)) ?_
      refine .reg' [0, 1, 15, 16] [] ⟨[(0, (.sl true a0.length 1 (a0.flatMap encI))), (1, (.sl true a1.length 2 (a1.flatMap e44))), (15, (I (a1.length : Int))), (16, (I 0))], [], [], []⟩ [l_ 58, b_ 0, c_ 15] aln nocal ?_
      exact ih0 a0 a1 0 _ h
  · rw [if_neg c1] at h
    refine .reg' [0, 1, 13] [.no, .no, .c ⟨16, [(.sl true a0.length 1 (a0.flatMap encI)), (.sl true a1.length 2 (a1.flatMap e44))], [], (B x1), [], [], [], [], (B x1), []⟩, .no, .v (B true)] ⟨[(0, (.sl true a0.length 1 (a0.flatMap encI))), (1, (.sl true a1.length 2 (a1.flatMap e44))), (13, (B true))], [], [COK (hget []) [(.sl true a0.length 1 (a0.flatMap encI)), (.sl true a1.length 2 (a1.flatMap e44))] ⟨16, [(.sl true a0.length 1 (a0.flatMap encI)), (.sl true a1.length 2 (a1.flatMap e44))], [], (B x1), [], [], [], [], (B x1), []⟩, (B (!x1) : V) = B true], [⟨16, [(.sl true a0.length 1 (a0.flatMap encI)), (.sl true a1.length 2 (a1.flatMap e44))], [], (B x1), [], [], [], [], (B x1), []⟩]⟩ [c_ 13, c_ 7] (alc (cok0 false (a2c (.z (frz_sl encI_ok (fun h => h))) (a2c (.z (frz_sl e44_ok (fun h => h))) a2n)) (.z .s) (fun h => absurd h (by decide))) (alc (bT (nT (vF c1))) aln)) (acal (impl_SinglesOk.J k a0 a1 _ hx1) nocal) ?_
    refine .cond' (.tmp 13) true [c_ 52, c_ 53, c_ 7] (rfl) ?_
    refine .reg' [4] [] ⟨[(4, (B false))], [], [], []⟩ [c_ 53, c_ 7] aln nocal ?_
    have h := Option.some.inj h
    subst h
    exact .fin0 [] (B false) [] aln (.z .s)
/-! impl_FirstMove: function 31 -/
def impl_FirstMove.f (k : Nat) (a0 : (List Int)) (a1 : (List S44)) : Option Int := ((impl_SinglesOk.f k a0 a1).bind fun x1 => (if x1 = true then ((impl_newSearch.f a0).bind fun x2 => ((impl_search_first.f k x2 a1).bind fun x3 => (some x3.1))) else (some (-1))))
theorem impl_FirstMove.J (k : Nat) (a0 : (List Int)) (a1 : (List S44)) (r : Int) (h : impl_FirstMove.f k a0 a1 = some r) : J prog (.call 31 [(.sl true a0.length 1 (a0.flatMap encI)), (.sl true a1.length 2 (a1.flatMap e44))] [] (I r) []) := by
  unfold impl_FirstMove.f at h
  refine .call' [c_ 2, c_ 3] ?_
  refine .reg' [0, 1] [] ⟨[(0, (.sl true a0.length 1 (a0.flatMap encI))), (1, (.sl true a1.length 2 (a1.flatMap e44)))], [], [], []⟩ [c_ 12, c_ 13, c_ 7] aln nocal ?_
  obtain ⟨x1, hx1, h⟩ := Option.bind_eq_some_iff.mp h
  refine .reg' [0, 1, 8] [.no, .no, .c ⟨16, [(.sl true a0.length 1 (a0.flatMap encI)), (.sl true a1.length 2 (a1.flatMap e44))], [], (B x1), [], [], [], [], (B x1), []⟩] ⟨[(0, (.sl true a0.length 1 (a0.flatMap encI))), (1, (.sl true a1.length 2 (a1.flatMap e44))), (8, (B (!x1)))], [], [COK (hget []) [(.sl true a0.length 1 (a0.flatMap encI)), (.sl true a1.length 2 (a1.flatMap e44))] ⟨16, [(.sl true a0.length 1 (a0.flatMap encI)), (.sl true a1.length 2 (a1.flatMap e44))], [], (B x1), [], [], [], [], (B x1), []⟩], [⟨16, [(.sl true a0.length 1 (a0.flatMap encI)), (.sl true a1.length 2 (a1.flatMap e44))], [], (B x1), [], [], [], [], (B x1), []⟩]⟩ [c_ 13, c_ 7] (alc (cok0 false (a2c (.z (frz_sl encI_ok (fun h => h))) (a2c (.z (frz_sl e44_ok (fun h => h))) a2n)) (.z .s) (fun h => absurd h (by decide))) aln) (acal (impl_SinglesOk.J k a0 a1 _ hx1) nocal) ?_
  by_cases c1 : x1 = true
  · rw [if_pos c1] at h
    refine .cond' (.tmp 8) false [c_ 14, c_ 15] (bF (nF c1)) ?_
    obtain ⟨x2, hx2, h⟩ := Option.bind_eq_some_iff.mp h
    obtain ⟨x3, hx3, h⟩ := Option.bind_eq_some_iff.mp h
    refine .reg' [4] [.no, .c ⟨51, [(.sl true a0.length 1 (a0.flatMap encI))], [], (.pt 515 0 2), [(515, [(.sl true x2.f0.length 1 (x2.f0.flatMap encI)), (.pt 2000000515 0 1)]), (2000000515, (mrow x2.f1))], [], [], [(1001025, 515), (2002001025, 2000000515)], (.pt 1001025 0 2), [(1001025, [(.sl true x2.f0.length 1 (x2.f0.flatMap encI)), (.pt 2002001025 0 1)]), (2002001025, (mrow x2.f1))]⟩, .no, .c ⟨53, [(.pt 0 0 2), (.sl true a1.length 2 (a1.flatMap e44))], [(0, [(.sl true x2.f0.length 1 (x2.f0.flatMap encI)), (.pt 2000000001 0 1)]), (2000000001, (mrow x2.f1))], (I x3.1), [(0, [(.sl true x3.2.1.f0.length 1 (x3.2.1.f0.flatMap encI)), (.pt 2000000001 0 1)]), (2000000001, (mrow x3.2.2))], [], [(1001025, 0), (2002001025, 2000000001)], [(1001025, 0), (2002001025, 2000000001)], (I x3.1), [(1001025, [(.sl true x3.2.1.f0.length 1 (x3.2.1.f0.flatMap encI)), (.pt 2002001025 0 1)]), (2002001025, (mrow x3.2.2))]⟩] ⟨[(4, (I x3.1))], [(2002001025, (mrow x3.2.2)), (1001025, [(.sl true x3.2.1.f0.length 1 (x3.2.1.f0.flatMap encI)), (.pt 2002001025 0 1)])], [COK (hget []) [(.sl true a0.length 1 (a0.flatMap encI))] ⟨51, [(.sl true a0.length 1 (a0.flatMap encI))], [], (.pt 515 0 2), [(515, [(.sl true x2.f0.length 1 (x2.f0.flatMap encI)), (.pt 2000000515 0 1)]), (2000000515, (mrow x2.f1))], [], [], [(1001025, 515), (2002001025, 2000000515)], (.pt 1001025 0 2), [(1001025, [(.sl true x2.f0.length 1 (x2.f0.flatMap encI)), (.pt 2002001025 0 1)]), (2002001025, (mrow x2.f1))]⟩, COK (hget [(2002001025, (mrow x2.f1)), (1001025, [(.sl true x2.f0.length 1 (x2.f0.flatMap encI)), (.pt 2002001025 0 1)])]) [(.pt 1001025 0 2), (.sl true a1.length 2 (a1.flatMap e44))] ⟨53, [(.pt 0 0 2), (.sl true a1.length 2 (a1.flatMap e44))], [(0, [(.sl true x2.f0.length 1 (x2.f0.flatMap encI)), (.pt 2000000001 0 1)]), (2000000001, (mrow x2.f1))], (I x3.1), [(0, [(.sl true x3.2.1.f0.length 1 (x3.2.1.f0.flatMap encI)), (.pt 2000000001 0 1)]), (2000000001, (mrow x3.2.2))], [], [(1001025, 0), (2002001025, 2000000001)], [(1001025, 0), (2002001025, 2000000001)], (I x3.1), [(1001025, [(.sl true x3.2.1.f0.length 1 (x3.2.1.f0.flatMap encI)), (.pt 2002001025 0 1)]), (2002001025, (mrow x3.2.2))]⟩], [⟨51, [(.sl true a0.length 1 (a0.flatMap encI))], [], (.pt 515 0 2), [(515, [(.sl true x2.f0.length 1 (x2.f0.flatMap encI)), (.pt 2000000515 0 1)]), (2000000515, (mrow x2.f1))], [], [], [(1001025, 515), (2002001025, 2000000515)], (.pt 1001025 0 2), [(1001025, [(.sl true x2.f0.length 1 (x2.f0.flatMap encI)), (.pt 2002001025 0 1)]), (2002001025, (mrow x2.f1))]⟩, ⟨53, [(.pt 0 0 2), (.sl true a1.length 2 (a1.flatMap e44))], [(0, [(.sl true x2.f0.length 1 (x2.f0.flatMap encI)), (.pt 2000000001 0 1)]), (2000000001, (mrow x2.f1))], (I x3.1), [(0, [(.sl true x3.2.1.f0.length 1 (x3.2.1.f0.flatMap encI)), (.pt 2000000001 0 1)]), (2000000001, (mrow x3.2.2))], [], [(1001025, 0), (2002001025, 2000000001)], [(1001025, 0), (2002001025, 2000000001)], (I x3.1), [(1001025, [(.sl true x3.2.1.f0.length 1 (x3.2.1.f0.flatMap encI)), (.pt 2002001025 0 1)]), (2002001025, (mrow x3.2.2))]⟩]⟩ [c_ 15] (alc (cokW true (a2c (.z (frz_sl encI_ok (fun h => h))) a2n) akn (akc (.inr rfl) (akc (.inr rfl) akn)) (.pt (memP_mem (p := (1001025, 515)) rfl)) (akc ⟨_, _, rfl, rfl, (a2c (.z (clnS encI_c (fun h => rfl))) (a2c (.pt (memP_mem (p := (2002001025, 2000000515)) rfl)) a2n))⟩ (akc ⟨_, _, rfl, rfl, mrowB _⟩ akn)) (fun h => rfl)) (alc (cokW true (a2c (.pt (memP_mem (p := (1001025, 0)) rfl)) (a2c (.z (frz_sl e44_ok (fun h => h))) a2n)) (akc ⟨_, _, rfl, rfl, (a2c (.z (frz_sl encI_ok (fun h => h))) (a2c (.pt (memP_mem (p := (2002001025, 2000000001)) rfl)) a2n))⟩ (akc ⟨_, _, rfl, rfl, (mrowC _)⟩ akn)) (akc (.inl rfl) (akc (.inl rfl) akn)) (.z .s) (akc ⟨_, _, rfl, rfl, (a2c (.z (clnS encI_c (fun h => rfl))) (a2c (.pt (memP_mem (p := (2002001025, 2000000001)) rfl)) a2n))⟩ (akc ⟨_, _, rfl, rfl, mrowB _⟩ akn)) (fun h => rfl)) aln)) (acal (impl_newSearch.J a0 _ hx2) (acal (impl_search_first.J k x2 a1 _ hx3) nocal)) ?_
    have h := Option.some.inj h
    subst h
    exact .fin0 [] (I x3.1) [] aln (.z .s)
  · rw [if_neg c1] at h
    refine .cond' (.tmp 8) true [c_ 52, c_ 53, c_ 7] (bT (nT (vF c1))) ?_
    refine .reg' [4] [] ⟨[(4, (I (-1)))], [], [], []⟩ [c_ 53, c_ 7] aln nocal ?_
    have h := Option.some.inj h
    subst h
    exact .fin0 [] (I (-1)) [] aln (.z .s)
/-! impl_MayMove: function 20 -/
def impl_MayMove.f (k : Nat) (a0 : (List Int)) (a1 : (List S44)) (a2 : Int) : Option Bool := ((impl_SinglesOk.f k a0 a1).bind fun x1 => (if x1 = true then ((impl_between.f a2 0 (wrap64 ((a1.length : Int) - 1))).bind fun x2 => (if x2 = true then ((impl_mayMove.f k a0 a1 a2).bind fun x3 => (some x3)) else (some false))) else (some false)))
theorem impl_MayMove.J (k : Nat) (a0 : (List Int)) (a1 : (List S44)) (a2 : Int) (r : Bool) (h : impl_MayMove.f k a0 a1 a2 = some r) : J prog (.call 20 [(.sl true a0.length 1 (a0.flatMap encI)), (.sl true a1.length 2 (a1.flatMap e44)), (I a2)] [] (B r) []) := by
  unfold impl_MayMove.f at h
  refine .call' [c_ 2, c_ 3] ?_
  refine .reg' [0, 1, 2] [] ⟨[(0, (.sl true a0.length 1 (a0.flatMap encI))), (1, (.sl true a1.length 2 (a1.flatMap e44))), (2, (I a2))], [], [], []⟩ [c_ 6, c_ 7] aln nocal ?_
  obtain ⟨x1, hx1, h⟩ := Option.bind_eq_some_iff.mp h
  by_cases c1 : x1 = true
  · rw [if_pos c1] at h
    obtain ⟨x2, hx2, h⟩ := Option.bind_eq_some_iff.mp h
    by_cases c2 : x2 = true
    · rw [if_pos c2] at h
      obtain ⟨x3, hx3, h⟩ := Option.bind_eq_some_iff.mp h
      refine .reg' [6] [.no, .no, .c ⟨16, [(.sl true a0.length 1 (a0.flatMap encI)), (.sl true a1.length 2 (a1.flatMap e44))], [], (B x1), [], [], [], [], (B x1), []⟩, .v (B true), .no, .no, .no, .no, .c ⟨42, [(I a2), (I 0), (I (wrap64 ((a1.length : Int) - 1)))], [], (B x2), [], [], [], [], (B x2), []⟩, .no, .v (B true), .no, .no, .no, .c ⟨46, [(.sl true a0.length 1 (a0.flatMap encI)), (.sl true a1.length 2 (a1.flatMap e44)), (I a2)], [], (B x3), [], [], [], [], (B x3), []⟩] ⟨[(6, (B x3))], [], [COK (hget []) [(.sl true a0.length 1 (a0.flatMap encI)), (.sl true a1.length 2 (a1.flatMap e44))] ⟨16, [(.sl true a0.length 1 (a0.flatMap encI)), (.sl true a1.length 2 (a1.flatMap e44))], [], (B x1), [], [], [], [], (B x1), []⟩, (B x1 : V) = B true, COK (hget []) [(I a2), (I 0), (I (wrap64 ((a1.length : Int) - 1)))] ⟨42, [(I a2), (I 0), (I (wrap64 ((a1.length : Int) - 1)))], [], (B x2), [], [], [], [], (B x2), []⟩, (B x2 : V) = B true, COK (hget []) [(.sl true a0.length 1 (a0.flatMap encI)), (.sl true a1.length 2 (a1.flatMap e44)), (I a2)] ⟨46, [(.sl true a0.length 1 (a0.flatMap encI)), (.sl true a1.length 2 (a1.flatMap e44)), (I a2)], [], (B x3), [], [], [], [], (B x3), []⟩], [⟨16, [(.sl true a0.length 1 (a0.flatMap encI)), (.sl true a1.length 2 (a1.flatMap e44))], [], (B x1), [], [], [], [], (B x1), []⟩, ⟨42, [(I a2), (I 0), (I (wrap64 ((a1.length : Int) - 1)))], [], (B x2), [], [], [], [], (B x2), []⟩, ⟨46, [(.sl true a0.length 1 (a0.flatMap encI)), (.sl true a1.length 2 (a1.flatMap e44)), (I a2)], [], (B x3), [], [], [], [], (B x3), []⟩]⟩ [c_ 7] (alc (cok0 false (a2c (.z (frz_sl encI_ok (fun h => h))) (a2c (.z (frz_sl e44_ok (fun h => h))) a2n)) (.z .s) (fun h => absurd h (by decide))) (alc (bT c1) (alc (cok0 false (a2c (.z .s) (a2c (.z .s) (a2c (.z .s) a2n))) (.z .s) (fun h => absurd h (by decide))) (alc (bT c2) (alc (cok0 false (a2c (.z (frz_sl encI_ok (fun h => h))) (a2c (.z (frz_sl e44_ok (fun h => h))) (a2c (.z .s) a2n))) (.z .s) (fun h => absurd h (by decide))) aln))))) (acal (impl_SinglesOk.J k a0 a1 _ hx1) (acal (impl_between.J a2 0 (wrap64 ((a1.length : Int) - 1)) _ hx2) (acal (impl_mayMove.J k a0 a1 a2 _ hx3) nocal))) ?_
      have h := Option.some.inj h
      subst h
      exact .fin0 [] (B x3) [] aln (.z .s)
    · rw [if_neg c2] at h
      refine .reg' [6] [.no, .no, .c ⟨16, [(.sl true a0.length 1 (a0.flatMap encI)), (.sl true a1.length 2 (a1.flatMap e44))], [], (B x1), [], [], [], [], (B x1), []⟩, .v (B true), .no, .no, .no, .no, .c ⟨42, [(I a2), (I 0), (I (wrap64 ((a1.length : Int) - 1)))], [], (B x2), [], [], [], [], (B x2), []⟩, .no, .v (B false)] ⟨[(6, (B false))], [], [COK (hget []) [(.sl true a0.length 1 (a0.flatMap encI)), (.sl true a1.length 2 (a1.flatMap e44))] ⟨16, [(.sl true a0.length 1 (a0.flatMap encI)), (.sl true a1.length 2 (a1.flatMap e44))], [], (B x1), [], [], [], [], (B x1), []⟩, (B x1 : V) = B true, COK (hget []) [(I a2), (I 0), (I (wrap64 ((a1.length : Int) - 1)))] ⟨42, [(I a2), (I 0), (I (wrap64 ((a1.length : Int) - 1)))], [], (B x2), [], [], [], [], (B x2), []⟩, (B x2 : V) = B false], [⟨16, [(.sl true a0.length 1 (a0.flatMap encI)), (.sl true a1.length 2 (a1.flatMap e44))], [], (B x1), [], [], [], [], (B x1), []⟩, ⟨42, [(I a2), (I 0), (I (wrap64 ((a1.length : Int) - 1)))], [], (B x2), [], [], [], [], (B x2), []⟩]⟩ [c_ 7] (alc (cok0 false (a2c (.z (frz_sl encI_ok (fun h => h))) (a2c (.z (frz_sl e44_ok (fun h => h))) a2n)) (.z .s) (fun h => absurd h (by decide))) (alc (bT c1) (alc (cok0 false (a2c (.z .s) (a2c (.z .s) (a2c (.z .s) a2n))) (.z .s) (fun h => absurd h (by decide))) (alc (bF (vF c2)) aln)))) (acal (impl_SinglesOk.J k a0 a1 _ hx1) (acal (impl_between.J a2 0 (wrap64 ((a1.length : Int) - 1)) _ hx2) nocal)) ?_
      have h := Option.some.inj h
      subst h
      exact .fin0 [] (B false) [] aln (.z .s)
  · rw [if_neg c1] at h
    refine .reg' [6] [.no, .no, .c ⟨16, [(.sl true a0.length 1 (a0.flatMap encI)), (.sl true a1.length 2 (a1.flatMap e44))], [], (B x1), [], [], [], [], (B x1), []⟩, .v (B false)] ⟨[(6, (B false))], [], [COK (hget []) [(.sl true a0.length 1 (a0.flatMap encI)), (.sl true a1.length 2 (a1.flatMap e44))] ⟨16, [(.sl true a0.length 1 (a0.flatMap encI)), (.sl true a1.length 2 (a1.flatMap e44))], [], (B x1), [], [], [], [], (B x1), []⟩, (B x1 : V) = B false], [⟨16, [(.sl true a0.length 1 (a0.flatMap encI)), (.sl true a1.length 2 (a1.flatMap e44))], [], (B x1), [], [], [], [], (B x1), []⟩]⟩ [c_ 7] (alc (cok0 false (a2c (.z (frz_sl encI_ok (fun h => h))) (a2c (.z (frz_sl e44_ok (fun h => h))) a2n)) (.z .s) (fun h => absurd h (by decide))) (alc (bF (vF c1)) aln)) (acal (impl_SinglesOk.J k a0 a1 _ hx1) nocal) ?_
    have h := Option.some.inj h
    subst h
    exact .fin0 [] (B false) [] aln (.z .s)
/-! impl_MoveOn: function 24 -/
def impl_MoveOn.f (k : Nat) (a0 : (List Int)) (a1 : (List S44)) (a2 : Int) : Option ((List S44) × Bool) := ((impl_MayMove.f k a0 a1 a2).bind fun x1 => (if x1 = true then ((impl_moved.f a1 a2).bind fun x2 => (some (x2, true))) else (some (([] : List S44), false))))
theorem impl_MoveOn.J (k : Nat) (a0 : (List Int)) (a1 : (List S44)) (a2 : Int) (r : ((List S44) × Bool)) (h : impl_MoveOn.f k a0 a1 a2 = some r) : J prog (.call 24 [(.sl true a0.length 1 (a0.flatMap encI)), (.sl true a1.length 2 (a1.flatMap e44)), (I a2)] [] (.tp [(.rf 1001026 0 r.1.length 2 (r.1.length * 2)), (B r.2)]) [(1001026, (r.1.flatMap e44))]) := by
  unfold impl_MoveOn.f at h
  refine .call' [c_ 2, c_ 3] ?_
  refine .reg' [0, 1, 2] [] ⟨[(0, (.sl true a0.length 1 (a0.flatMap encI))), (1, (.sl true a1.length 2 (a1.flatMap e44))), (2, (I a2))], [], [], []⟩ [c_ 12, c_ 13, c_ 7] aln nocal ?_
  obtain ⟨x1, hx1, h⟩ := Option.bind_eq_some_iff.mp h
  refine .reg' [1, 2, 12] [.no, .no, .no, .c ⟨20, [(.sl true a0.length 1 (a0.flatMap encI)), (.sl true a1.length 2 (a1.flatMap e44)), (I a2)], [], (B x1), [], [], [], [], (B x1), []⟩] ⟨[(1, (.sl true a1.length 2 (a1.flatMap e44))), (2, (I a2)), (12, (B (!x1)))], [], [COK (hget []) [(.sl true a0.length 1 (a0.flatMap encI)), (.sl true a1.length 2 (a1.flatMap e44)), (I a2)] ⟨20, [(.sl true a0.length 1 (a0.flatMap encI)), (.sl true a1.length 2 (a1.flatMap e44)), (I a2)], [], (B x1), [], [], [], [], (B x1), []⟩], [⟨20, [(.sl true a0.length 1 (a0.flatMap encI)), (.sl true a1.length 2 (a1.flatMap e44)), (I a2)], [], (B x1), [], [], [], [], (B x1), []⟩]⟩ [c_ 13, c_ 7] (alc (cok0 false (a2c (.z (frz_sl encI_ok (fun h => h))) (a2c (.z (frz_sl e44_ok (fun h => h))) (a2c (.z .s) a2n))) (.z .s) (fun h => absurd h (by decide))) aln) (acal (impl_MayMove.J k a0 a1 a2 _ hx1) nocal) ?_
  by_cases c1 : x1 = true
  · rw [if_pos c1] at h
    refine .cond' (.tmp 12) false [c_ 14, c_ 15] (bF (nF c1)) ?_
    obtain ⟨x2, hx2, h⟩ := Option.bind_eq_some_iff.mp h
    refine .reg' [6, 7] [.no, .no, .c ⟨49, [(.sl true a1.length 2 (a1.flatMap e44)), (I a2)], [], (.rf 512 0 x2.length 2 (x2.length * 2)), [(512, (x2.flatMap e44))], [], [], [(1001026, 512)], (.rf 1001026 0 x2.length 2 (x2.length * 2)), [(1001026, (x2.flatMap e44))]⟩] ⟨[(6, (.rf 1001026 0 x2.length 2 (x2.length * 2))), (7, (B true))], [(1001026, (x2.flatMap e44))], [COK (hget []) [(.sl true a1.length 2 (a1.flatMap e44)), (I a2)] ⟨49, [(.sl true a1.length 2 (a1.flatMap e44)), (I a2)], [], (.rf 512 0 x2.length 2 (x2.length * 2)), [(512, (x2.flatMap e44))], [], [], [(1001026, 512)], (.rf 1001026 0 x2.length 2 (x2.length * 2)), [(1001026, (x2.flatMap e44))]⟩], [⟨49, [(.sl true a1.length 2 (a1.flatMap e44)), (I a2)], [], (.rf 512 0 x2.length 2 (x2.length * 2)), [(512, (x2.flatMap e44))], [], [], [(1001026, 512)], (.rf 1001026 0 x2.length 2 (x2.length * 2)), [(1001026, (x2.flatMap e44))]⟩]⟩ [c_ 15] (alc (cokW false (a2c (.z (frz_sl e44_ok (fun h => h))) (a2c (.z .s) a2n)) akn (akc (.inr rfl) akn) (.rf (memP_mem (p := (1001026, 512)) rfl)) (akc ⟨_, _, rfl, rfl, rowB e44_c _⟩ akn) (fun h => absurd h (by decide))) aln) (acal (impl_moved.J a1 a2 _ hx2) nocal) ?_
    have h := Option.some.inj h
    subst h
    exact .fin' [] [(1001026, 1001026)] (.tp [(.rf 1001026 0 x2.length 2 (x2.length * 2)), (B true)]) [] aln (shc 1001026 (rowF e44_ok _) shn) (cnv_tp (a2c (.rf (memP_mem (p := (1001026, 1001026)) rfl)) (a2c (.z .s) a2n)))
  · rw [if_neg c1] at h
    refine .cond' (.tmp 12) true [c_ 52, c_ 53, c_ 7] (bT (nT (vF c1))) ?_
    refine .reg' [6, 7] [] ⟨[(6, nilS), (7, (B false))], [], [], []⟩ [c_ 53, c_ 7] aln nocal ?_
    have h := Option.some.inj h
    subst h
    refine .nl' 1001026 ?_
    exact .fin' [] [(1001026, 1001026)] (.tp [nilS, (B false)]) [] aln (shc 1001026 (rowF e44_ok _) shn) (cnv_tp (a2c (.nl (memP_mem (p := (1001026, 1001026)) rfl) rfl) (a2c (.z .s) a2n)))
/-! laws_FnMeets: function 10 -/
mutual
def laws_FnMeets.l0 : Nat → ((List Int) × (List S44)) → (List Int) → Bool → Int → Int → Option Bool
 | 0, _, _, _, _, _ => none
 | k + 1, x2, x3, x4, x7, x8 => (if x8 < (x2.2.length : Int) then (if 0 ≤ x8 then (if (wrap64 ((at_ x2.2 x8).f0 - (at_ x2.2 x8).f1)) < 0 then (laws_FnMeets.l0 k x2 x3 x4 (wrap64 (x7 + (wrap64 (-(wrap64 ((at_ x2.2 x8).f0 - (at_ x2.2 x8).f1)))))) (wrap64 (x8 + 1))) else (laws_FnMeets.l0 k x2 x3 x4 (wrap64 (x7 + (wrap64 ((at_ x2.2 x8).f0 - (at_ x2.2 x8).f1)))) (wrap64 (x8 + 1)))) else none) else (if x4 = true then (if (x3.length : Int) = x7 then (laws_FnMeets.l1 k x2 x3 x2.2 0) else (some false)) else (if (x3.length : Int) = 0 then (if x7 > 0 then ((impl_FirstMove.f k x2.1 x2.2).bind fun x17 => (some (x17 == (-1)))) else (some false)) else (some false))))
def laws_FnMeets.l1 : Nat → ((List Int) × (List S44)) → (List Int) → (List S44) → Int → Option Bool
 | 0, _, _, _, _ => none
 | k + 1, x2, x3, x9, x10 => (if x10 < (x3.length : Int) then ((impl_Stuck.f k x2.1 x9).bind fun x11 => (if x11 = true then (some false) else ((impl_FirstMove.f k x2.1 x9).bind fun x12 => (if 0 ≤ x10 then (if x12 = (at_ x3 x10) then ((impl_MoveOn.f k x2.1 x9 (at_ x3 x10)).bind fun x13 => (if x13.2 = true then (if (x13.1.length : Int) = (x9.length : Int) then ((impl_SinglesOk.f k x2.1 x13.1).bind fun x14 => (if x14 = true then (laws_FnMeets.l1 k x2 x3 x13.1 (wrap64 (x10 + 1))) else (some false))) else (some false)) else (some false))) else (some false)) else none)))) else (laws_FnMeets.l2 k x2 x9 0))
def laws_FnMeets.l2 : Nat → ((List Int) × (List S44)) → (List S44) → Int → Option Bool
 | 0, _, _, _ => none
 | k + 1, x2, x9, x15 => (if x15 < (x9.length : Int) then (if 0 ≤ x15 then (if (at_ x9 x15).f0 = (at_ x9 x15).f1 then (if x15 < (x2.2.length : Int) then (if (at_ x9 x15).f1 = (at_ x2.2 x15).f1 then (laws_FnMeets.l2 k x2 x9 (wrap64 (x15 + 1))) else (some false)) else none) else (some false)) else none) else ((impl_Stuck.f k x2.1 x9).bind fun x16 => (some (!x16))))
end
def laws_FnMeets.f (k : Nat) (a0 : (List Int)) : Option Bool := ((laws_big.f a0).bind fun x1 => (if x1 = true then (some true) else ((spec_DrawRightSingles.f k a0).bind fun x2 => ((impl_Finish.f k x2.1 x2.2).bind fun x3 => ((impl_CanFinish.f k x2.1 x2.2).bind fun x4 => ((impl_SinglesOk.f k x2.1 x2.2).bind fun x5 => (if x5 = true then ((spec_CanFinish.f k x2.1 x2.2).bind fun x6 => (if (x4 == x6) = true then (laws_FnMeets.l0 k x2 x3 x4 0 0) else (some false))) else (some false))))))))
theorem laws_FnMeets.lab : ∀ k, (∀ (x2 : ((List Int) × (List S44))) (x3 : (List Int)) (x4 : Bool) (x7 : Int) (x8 : Int) (r : Bool), laws_FnMeets.l0 k x2 x3 x4 x7 x8 = some r → J prog (.run 10 [] [l_ 2042, b_ 0, c_ 511] [(3, (.rf 1001025 0 x2.1.length 1 (x2.1.length * 1))), (4, (.rf 2001025 0 x2.2.length 2 (x2.2.length * 2))), (5, (.rf 1001282 0 x3.length 1 (x3.length * 1))), (6, (B x4)), (7, (I x7)), (8, (I x8))] [(2001025, (x2.2.flatMap e44)), (1001025, (x2.1.flatMap encI)), (1001282, (x3.flatMap encI))] (B r) [])) ∧ (∀ (x2 : ((List Int) × (List S44))) (x3 : (List Int)) (x9 : (List S44)) (x10 : Int) (r : Bool), laws_FnMeets.l1 k x2 x3 x9 x10 = some r → J prog (.run 10 [] [l_ 32762, b_ 2, c_ 8191] [(3, (.rf 1001025 0 x2.1.length 1 (x2.1.length * 1))), (4, (.sl false x2.2.length 2 (x2.2.flatMap e44))), (5, (.rf 1001282 0 x3.length 1 (x3.length * 1))), (10, (.sl false x9.length 2 (x9.flatMap e44))), (11, (I x10))] [(1001025, (x2.1.flatMap encI)), (1001282, (x3.flatMap encI))] (B r) [])) ∧ (∀ (x2 : ((List Int) × (List S44))) (x9 : (List S44)) (x15 : Int) (r : Bool), laws_FnMeets.l2 k x2 x9 x15 = some r → J prog (.run 10 [] [l_ 65530, b_ 4, c_ 16383] [(3, (.rf 1001025 0 x2.1.length 1 (x2.1.length * 1))), (4, (.sl false x2.2.length 2 (x2.2.flatMap e44))), (10, (.sl false x9.length 2 (x9.flatMap e44))), (14, (I x15))] [(1001025, (x2.1.flatMap encI))] (B r) []))
 | 0 => ⟨(by intro x2 x3 x4 x7 x8 r h; unfold laws_FnMeets.l0 at h; cases h), (by intro x2 x3 x9 x10 r h; unfold laws_FnMeets.l1 at h; cases h), (by intro x2 x9 x15 r h; unfold laws_FnMeets.l2 at h; cases h)⟩
 | k + 1 => by
  obtain ⟨ih0, ih1, ih2⟩ := laws_FnMeets.lab k
  refine ⟨?_, ?_, ?_⟩
  · intro x2 x3 x4 x7 x8 r h
    unfold laws_FnMeets.l0 at h
    refine .loop' [c_ 16336, c_ 16337, c_ 8169, l_ 2042, b_ 0, c_ 511] ?_
    refine .reg' [3, 4, 5, 6, 7, 8, 42] [] ⟨[(3, (.rf 1001025 0 x2.1.length 1 (x2.1.length * 1))), (4, (.rf 2001025 0 x2.2.length 2 (x2.2.length * 2))), (5, (.rf 1001282 0 x3.length 1 (x3.length * 1))), (6, (B x4)), (7, (I x7)), (8, (I x8)), (42, (B (decide (x8 < (x2.2.length : Int)))))], [(2001025, (x2.2.flatMap e44)), (1001025, (x2.1.flatMap encI)), (1001282, (x3.flatMap encI))], [], []⟩ [c_ 16337, c_ 8169, l_ 2042, b_ 0, c_ 511] aln nocal ?_
    by_cases c4 : x8 < (x2.2.length : Int)
    · rw [if_pos c4] at h
      refine .cond' (.tmp 42) true [c_ 65352, c_ 65353, b_ 1, c_ 16339, l_ 2042, b_ 0, c_ 511] (bT (dT c4)) ?_
      by_cases c5 : 0 ≤ x8
      · rw [if_pos c5] at h
        refine .reg' [3, 4, 5, 6, 7, 8, 9] [.no, .no, .no, .no, .v (I (at_ x2.2 x8).f0), .no, .no, .no, .no, .v (I (at_ x2.2 x8).f1)] ⟨[(3, (.rf 1001025 0 x2.1.length 1 (x2.1.length * 1))), (4, (.rf 2001025 0 x2.2.length 2 (x2.2.length * 2))), (5, (.rf 1001282 0 x3.length 1 (x3.length * 1))), (6, (B x4)), (7, (I x7)), (8, (I x8)), (9, (I (wrap64 ((at_ x2.2 x8).f0 - (at_ x2.2 x8).f1))))], [(2001025, (x2.2.flatMap e44)), (1001025, (x2.1.flatMap encI)), (1001282, (x3.flatMap encI))], [(0 : Int) ≤ x8 ∧ x8 < (x2.2.length : Int), rdC prog 3 ((x2.2.flatMap e44).drop (0 + x8.toNat * 2 + 0)) = (I (at_ x2.2 x8).f0), x2.2.length * 2 = (x2.2.flatMap e44).length ∧ 0 + x8.toNat * 2 + 0 + 1 ≤ (x2.2.flatMap e44).length, (0 : Int) ≤ x8 ∧ x8 < (x2.2.length : Int), rdC prog 3 ((x2.2.flatMap e44).drop (0 + x8.toNat * 2 + 1)) = (I (at_ x2.2 x8).f1), x2.2.length * 2 = (x2.2.flatMap e44).length ∧ 0 + x8.toNat * 2 + 1 + 1 ≤ (x2.2.flatMap e44).length], []⟩ [c_ 261412, c_ 261413, c_ 130707, b_ 1, c_ 16339, l_ 2042, b_ 0, c_ 511] (alc ⟨c5, c4⟩ (alc (ldC0 e44_ok 0 (by decide) rfl c5 c4) (alc (okA e44_ok c5 c4 (by decide)) (alc ⟨c5, c4⟩ (alc (ldC0 e44_ok 1 (by decide) rfl c5 c4) (alc (okA e44_ok c5 c4 (by decide)) aln)))))) nocal ?_
        refine .reg' [3, 4, 5, 6, 7, 8, 9, 57] [] ⟨[(3, (.rf 1001025 0 x2.1.length 1 (x2.1.length * 1))), (4, (.rf 2001025 0 x2.2.length 2 (x2.2.length * 2))), (5, (.rf 1001282 0 x3.length 1 (x3.length * 1))), (6, (B x4)), (7, (I x7)), (8, (I x8)), (9, (I (wrap64 ((at_ x2.2 x8).f0 - (at_ x2.2 x8).f1)))), (57, (B (decide ((wrap64 ((at_ x2.2 x8).f0 - (at_ x2.2 x8).f1)) < 0))))], [(2001025, (x2.2.flatMap e44)), (1001025, (x2.1.flatMap encI)), (1001282, (x3.flatMap encI))], [], []⟩ [c_ 261413, c_ 130707, b_ 1, c_ 16339, l_ 2042, b_ 0, c_ 511] aln nocal ?_
        by_cases c6 : (wrap64 ((at_ x2.2 x8).f0 - (at_ x2.2 x8).f1)) < 0
        · rw [if_pos c6] at h
          refine .cond' (.tmp 57) true [c_ 522826, c_ 130707, b_ 1, c_ 16339, l_ 2042, b_ 0, c_ 511] (bT (dT c6)) ?_
          refine .reg' [3, 4, 5, 6, 7, 8, 9] [.no, .v (I (wrap64 (-(wrap64 ((at_ x2.2 x8).f0 - (at_ x2.2 x8).f1)))))] ⟨[(3, (.rf 1001025 0 x2.1.length 1 (x2.1.length * 1))), (4, (.rf 2001025 0 x2.2.length 2 (x2.2.length * 2))), (5, (.rf 1001282 0 x3.length 1 (x3.length * 1))), (6, (B x4)), (7, (I x7)), (8, (I x8)), (9, (I (wrap64 (-(wrap64 ((at_ x2.2 x8).f0 - (at_ x2.2 x8).f1))))))], [(2001025, (x2.2.flatMap e44)), (1001025, (x2.1.flatMap encI)), (1001282, (x3.flatMap encI))], [(I (IntKind.i64.wrap (0 - (wrap64 ((at_ x2.2 x8).f0 - (at_ x2.2 x8).f1)))) : V) = I (wrap64 (-(wrap64 ((at_ x2.2 x8).f0 - (at_ x2.2 x8).f1))))], []⟩ [c_ 130707, b_ 1, c_ 16339, l_ 2042, b_ 0, c_ 511] (alc (negI _) aln) nocal ?_
          refine .reg' [3, 4, 5, 6, 7, 8] [] ⟨[(3, (.rf 1001025 0 x2.1.length 1 (x2.1.length * 1))), (4, (.rf 2001025 0 x2.2.length 2 (x2.2.length * 2))), (5, (.rf 1001282 0 x3.length 1 (x3.length * 1))), (6, (B x4)), (7, (I (wrap64 (x7 + (wrap64 (-(wrap64 ((at_ x2.2 x8).f0 - (at_ x2.2 x8).f1)))))))), (8, (I x8))], [(2001025, (x2.2.flatMap e44)), (1001025, (x2.1.flatMap encI)), (1001282, (x3.flatMap encI))], [], []⟩ [c_ 16339, l_ 2042, b_ 0, c_ 511] aln nocal ?_
          refine .reg' [3, 4, 5, 6, 7, 8] [] ⟨[(3, (.rf 1001025 0 x2.1.length 1 (x2.1.length * 1))), (4, (.rf 2001025 0 x2.2.length 2 (x2.2.length * 2))), (5, (.rf 1001282 0 x3.length 1 (x3.length * 1))), (6, (B x4)), (7, (I (wrap64 (x7 + (wrap64 (-(wrap64 ((at_ x2.2 x8).f0 - (at_ x2.2 x8).f1)))))))), (8, (I (wrap64 (x8 + 1))))], [(2001025, (x2.2.flatMap e44)), (1001025, (x2.1.flatMap encI)), (1001282, (x3.flatMap encI))], [], []⟩ [l_ 2042, b_ 0, c_ 511] aln nocal ?_
          exact ih0 x2 x3 x4 (wrap64 (x7 + (wrap64 (-(wrap64 ((at_ x2.2 x8).f0 - (at_ x2.2 x8).f1)))))) (wrap64 (x8 + 1)) _ h
        · rw [if_neg c6] at h
          refine .cond' (.tmp 57) false [c_ 130707, b_ 1, c_ 16339, l_ 2042, b_ 0, c_ 511] (bF (dF c6)) ?_
          refine .reg' [3, 4, 5, 6, 7, 8] [] ⟨[(3, (.rf 1001025 0 x2.1.length 1 (x2.1.length * 1))), (4, (.rf 2001025 0 x2.2.length 2 (x2.2.length * 2))), (5, (.rf 1001282 0 x3.length 1 (x3.length * 1))), (6, (B x4)), (7, (I (wrap64 (x7 + (wrap64 ((at_ x2.2 x8).f0 - (at_ x2.2 x8).f1)))))), (8, (I x8))], [(2001025, (x2.2.flatMap e44)), (1001025, (x2.1.flatMap encI)), (1001282, (x3.flatMap encI))], [], []⟩ [c_ 16339, l_ 2042, b_ 0, c_ 511] aln nocal ?_
          refine .reg' [3, 4, 5, 6, 7, 8] [] ⟨[(3, (.rf 1001025 0 x2.1.length 1 (x2.1.length * 1))), (4, (.rf 2001025 0 x2.2.length 2 (x2.2.length * 2))), (5, (.rf 1001282 0 x3.length 1 (x3.length * 1))), (6, (B x4)), (7, (I (wrap64 (x7 + (wrap64 ((at_ x2.2 x8).f0 - (at_ x2.2 x8).f1)))))), (8, (I (wrap64 (x8 + 1))))], [(2001025, (x2.2.flatMap e44)), (1001025, (x2.1.flatMap encI)), (1001282, (x3.flatMap encI))], [], []⟩ [l_ 2042, b_ 0, c_ 511] aln nocal ?_
          exact ih0 x2 x3 x4 (wrap64 (x7 + (wrap64 ((at_ x2.2 x8).f0 - (at_ x2.2 x8).f1)))) (wrap64 (x8 + 1)) _ h
      · rw [if_neg c5] at h
        cases h
    · rw [if_neg c4] at h
      refine .cond' (.tmp 42) false [c_ 2044, c_ 2045, c_ 1023] (bF (dF c4)) ?_
      refine .reg' [3, 4, 5, 7, 64] [] ⟨[(3, (.rf 1001025 0 x2.1.length 1 (x2.1.length * 1))), (4, (.rf 2001025 0 x2.2.length 2 (x2.2.length * 2))), (5, (.rf 1001282 0 x3.length 1 (x3.length * 1))), (7, (I x7)), (64, (B (!x4)))], [(2001025, (x2.2.flatMap e44)), (1001025, (x2.1.flatMap encI)), (1001282, (x3.flatMap encI))], [], []⟩ [c_ 2045, c_ 1023] aln nocal ?_
      by_cases c7 : x4 = true
      · rw [if_pos c7] at h
        refine .cond' (.tmp 64) false [c_ 4092, c_ 4093, c_ 2047] (bF (nF c7)) ?_
        refine .reg' [3, 4, 5, 81] [] ⟨[(3, (.rf 1001025 0 x2.1.length 1 (x2.1.length * 1))), (4, (.rf 2001025 0 x2.2.length 2 (x2.2.length * 2))), (5, (.rf 1001282 0 x3.length 1 (x3.length * 1))), (81, (B (!((x3.length : Int) == x7))))], [(2001025, (x2.2.flatMap e44)), (1001025, (x2.1.flatMap encI)), (1001282, (x3.flatMap encI))], [], []⟩ [c_ 4093, c_ 2047] aln nocal ?_
        by_cases c8 : (x3.length : Int) = x7
        · rw [if_pos c8] at h
          refine .cond' (.tmp 81) false [c_ 4094, c_ 4095] (bF (nF (qT c8))) ?_
          refine .reg' [3, 4, 5, 10] [] ⟨[(3, (.rf 1001025 0 x2.1.length 1 (x2.1.length * 1))), (4, (.rf 2001025 0 x2.2.length 2 (x2.2.length * 2))), (5, (.rf 1001282 0 x3.length 1 (x3.length * 1))), (10, (.rf 2001025 0 x2.2.length 2 (x2.2.length * 2)))], [(2001025, (x2.2.flatMap e44)), (1001025, (x2.1.flatMap encI)), (1001282, (x3.flatMap encI))], [], []⟩ [c_ 16380, c_ 16381, c_ 8191] aln nocal ?_
          refine .reg' [3, 4, 5, 10, 11] [] ⟨[(3, (.rf 1001025 0 x2.1.length 1 (x2.1.length * 1))), (4, (.rf 2001025 0 x2.2.length 2 (x2.2.length * 2))), (5, (.rf 1001282 0 x3.length 1 (x3.length * 1))), (10, (.rf 2001025 0 x2.2.length 2 (x2.2.length * 2))), (11, (I 0))], [(2001025, (x2.2.flatMap e44)), (1001025, (x2.1.flatMap encI)), (1001282, (x3.flatMap encI))], [], []⟩ [l_ 32762, b_ 2, c_ 8191] aln nocal ?_
          refine .wk' [2001025] [(1001025, 1001025), (1001282, 1001282)] [(3, (.rf 1001025 0 x2.1.length 1 (x2.1.length * 1))), (4, (.sl false x2.2.length 2 (x2.2.flatMap e44))), (5, (.rf 1001282 0 x3.length 1 (x3.length * 1))), (10, (.sl false x2.2.length 2 (x2.2.flatMap e44))), (11, (I 0))] [(1001025, (x2.1.flatMap encI)), (1001282, (x3.flatMap encI))] (shc 1001025 (rowF encI_ok _) (shc 1001282 (rowF encI_ok _) shn)) (enc_ (.rf (memP_mem (p := (1001025, 1001025)) rfl)) (enc_ (.z (frz_rf (k := 2001025) e44_ok (by simp) rfl rfl (row_len e44_ok _).symm)) (enc_ (.rf (memP_mem (p := (1001282, 1001282)) rfl)) (enc_ (.z (frz_rf (k := 2001025) e44_ok (by simp) rfl rfl (row_len e44_ok _).symm)) (enc_ (.z .s) enn))))) ?_
          exact ih1 x2 x3 x2.2 0 _ h
        · rw [if_neg c8] at h
          refine .cond' (.tmp 81) true [c_ 16372, c_ 16373, c_ 2047] (bT (nT (qF c8))) ?_
          refine .reg' [2] [] ⟨[(2, (B false))], [(2001025, (x2.2.flatMap e44)), (1001025, (x2.1.flatMap encI)), (1001282, (x3.flatMap encI))], [], []⟩ [c_ 16373, c_ 2047] aln nocal ?_
          have h := Option.some.inj h
          subst h
          exact .fin0 [] (B false) [] aln (.z .s)
      · rw [if_neg c7] at h
        refine .cond' (.tmp 64) true [c_ 8180, c_ 8181, c_ 1023] (bT (nT (vF c7))) ?_
        by_cases c21 : (x3.length : Int) = 0
        · rw [if_pos c21] at h
          by_cases c22 : x7 > 0
          · rw [if_pos c22] at h
            obtain ⟨x17, hx17, h⟩ := Option.bind_eq_some_iff.mp h
            refine .reg' [2] [.no, .no, .no, .v (B true), .no, .no, .no, .v (B true), .no, .no, .c ⟨31, [(.sl true x2.1.length 1 (x2.1.flatMap encI)), (.sl true x2.2.length 2 (x2.2.flatMap e44))], [], (I x17), [], [1001025, 2001025], [], [], (I x17), []⟩] ⟨[(2, (B (x17 == (-1))))], [(2001025, (x2.2.flatMap e44)), (1001025, (x2.1.flatMap encI)), (1001282, (x3.flatMap encI))], [(B ((x3.length : Int) == 0) : V) = B true, (B (decide (x7 > 0)) : V) = B true, COK (hget [(2001025, (x2.2.flatMap e44)), (1001025, (x2.1.flatMap encI)), (1001282, (x3.flatMap encI))]) [(.rf 1001025 0 x2.1.length 1 (x2.1.length * 1)), (.rf 2001025 0 x2.2.length 2 (x2.2.length * 2))] ⟨31, [(.sl true x2.1.length 1 (x2.1.flatMap encI)), (.sl true x2.2.length 2 (x2.2.flatMap e44))], [], (I x17), [], [1001025, 2001025], [], [], (I x17), []⟩], [⟨31, [(.sl true x2.1.length 1 (x2.1.flatMap encI)), (.sl true x2.2.length 2 (x2.2.flatMap e44))], [], (I x17), [], [1001025, 2001025], [], [], (I x17), []⟩]⟩ [c_ 8181, c_ 1023] (alc (bT (qT c21)) (alc (bT (dT c22)) (alc (cok0 false (a2c (.z (frz_rf (k := 1001025) encI_ok (by simp) rfl rfl (row_len encI_ok _).symm)) (a2c (.z (frz_rf (k := 2001025) e44_ok (by simp) rfl rfl (row_len e44_ok _).symm)) a2n)) (.z .s) (fun h => absurd h (by decide))) aln))) (acal (impl_FirstMove.J k x2.1 x2.2 _ hx17) nocal) ?_
            have h := Option.some.inj h
            subst h
            exact .fin0 [] (B (x17 == (-1))) [] aln (.z .s)
          · rw [if_neg c22] at h
            refine .reg' [2] [.no, .no, .no, .v (B true), .no, .no, .no, .v (B false)] ⟨[(2, (B false))], [(2001025, (x2.2.flatMap e44)), (1001025, (x2.1.flatMap encI)), (1001282, (x3.flatMap encI))], [(B ((x3.length : Int) == 0) : V) = B true, (B (decide (x7 > 0)) : V) = B false], []⟩ [c_ 8181, c_ 1023] (alc (bT (qT c21)) (alc (bF (dF c22)) aln)) nocal ?_
            have h := Option.some.inj h
            subst h
            exact .fin0 [] (B false) [] aln (.z .s)
        · rw [if_neg c21] at h
          refine .reg' [2] [.no, .no, .no, .v (B false)] ⟨[(2, (B false))], [(2001025, (x2.2.flatMap e44)), (1001025, (x2.1.flatMap encI)), (1001282, (x3.flatMap encI))], [(B ((x3.length : Int) == 0) : V) = B false], []⟩ [c_ 8181, c_ 1023] (alc (bF (qF c21)) aln) nocal ?_
          have h := Option.some.inj h
          subst h
          exact .fin0 [] (B false) [] aln (.z .s)
  · intro x2 x3 x9 x10 r h
    unfold laws_FnMeets.l1 at h
    refine .loop' [c_ 262096, c_ 262097, c_ 131049, l_ 32762, b_ 2, c_ 8191] ?_
    refine .reg' [3, 4, 5, 10, 11, 86] [] ⟨[(3, (.rf 1001025 0 x2.1.length 1 (x2.1.length * 1))), (4, (.sl false x2.2.length 2 (x2.2.flatMap e44))), (5, (.rf 1001282 0 x3.length 1 (x3.length * 1))), (10, (.sl false x9.length 2 (x9.flatMap e44))), (11, (I x10)), (86, (B (decide (x10 < (x3.length : Int)))))], [(1001025, (x2.1.flatMap encI)), (1001282, (x3.flatMap encI))], [], []⟩ [c_ 262097, c_ 131049, l_ 32762, b_ 2, c_ 8191] aln nocal ?_
    by_cases c9 : x10 < (x3.length : Int)
    · rw [if_pos c9] at h
      refine .cond' (.tmp 86) true [c_ 2096784, c_ 2096785, c_ 1048393, b_ 3, c_ 262099, l_ 32762, b_ 2, c_ 8191] (bT (dT c9)) ?_
      obtain ⟨x11, hx11, h⟩ := Option.bind_eq_some_iff.mp h
      by_cases c10 : x11 = true
      · rw [if_pos c10] at h
        refine .reg' [3, 4, 5, 10, 11, 101] [.no, .no, .c ⟨22, [(.sl true x2.1.length 1 (x2.1.flatMap encI)), (.sl true x9.length 2 (x9.flatMap e44))], [], (B x11), [], [1001025], [], [], (B x11), []⟩, .v (B true)] ⟨[(3, (.rf 1001025 0 x2.1.length 1 (x2.1.length * 1))), (4, (.sl false x2.2.length 2 (x2.2.flatMap e44))), (5, (.rf 1001282 0 x3.length 1 (x3.length * 1))), (10, (.sl false x9.length 2 (x9.flatMap e44))), (11, (I x10)), (101, (B true))], [(1001025, (x2.1.flatMap encI)), (1001282, (x3.flatMap encI))], [COK (hget [(1001025, (x2.1.flatMap encI)), (1001282, (x3.flatMap encI))]) [(.rf 1001025 0 x2.1.length 1 (x2.1.length * 1)), (.sl false x9.length 2 (x9.flatMap e44))] ⟨22, [(.sl true x2.1.length 1 (x2.1.flatMap encI)), (.sl true x9.length 2 (x9.flatMap e44))], [], (B x11), [], [1001025], [], [], (B x11), []⟩, (B x11 : V) = B true], [⟨22, [(.sl true x2.1.length 1 (x2.1.flatMap encI)), (.sl true x9.length 2 (x9.flatMap e44))], [], (B x11), [], [1001025], [], [], (B x11), []⟩]⟩ [c_ 2096785, c_ 1048393, b_ 3, c_ 262099, l_ 32762, b_ 2, c_ 8191] (alc (cok0 false (a2c (.z (frz_rf (k := 1001025) encI_ok (by simp) rfl rfl (row_len encI_ok _).symm)) (a2c (.z (frz_sl (t := false) e44_ok (fun h => absurd h (by decide)))) a2n)) (.z .s) (fun h => absurd h (by decide))) (alc (bT c10) aln)) (acal (impl_Stuck.J k x2.1 x9 _ hx11) nocal) ?_
        refine .cond' (.tmp 101) true [c_ 8387140, c_ 8387141, c_ 1048393, b_ 3, c_ 262099, l_ 32762, b_ 2, c_ 8191] (rfl) ?_
        refine .reg' [2] [] ⟨[(2, (B false))], [(1001025, (x2.1.flatMap encI)), (1001282, (x3.flatMap encI))], [], []⟩ [c_ 8387141, c_ 1048393, b_ 3, c_ 262099, l_ 32762, b_ 2, c_ 8191] aln nocal ?_
        have h := Option.some.inj h
        subst h
        exact .fin0 [] (B false) [] aln (.z .s)
      · rw [if_neg c10] at h
        obtain ⟨x12, hx12, h⟩ := Option.bind_eq_some_iff.mp h
        by_cases c11 : 0 ≤ x10
        · rw [if_pos c11] at h
          refine .reg' [3, 4, 5, 10, 11, 101] [.no, .no, .c ⟨22, [(.sl true x2.1.length 1 (x2.1.flatMap encI)), (.sl true x9.length 2 (x9.flatMap e44))], [], (B x11), [], [1001025], [], [], (B x11), []⟩, .v (B false), .no, .no, .c ⟨31, [(.sl true x2.1.length 1 (x2.1.flatMap encI)), (.sl true x9.length 2 (x9.flatMap e44))], [], (I x12), [], [1001025], [], [], (I x12), []⟩, .no, .no, .no, .v (I (at_ x3 x10))] ⟨[(3, (.rf 1001025 0 x2.1.length 1 (x2.1.length * 1))), (4, (.sl false x2.2.length 2 (x2.2.flatMap e44))), (5, (.rf 1001282 0 x3.length 1 (x3.length * 1))), (10, (.sl false x9.length 2 (x9.flatMap e44))), (11, (I x10)), (101, (B (!(x12 == (at_ x3 x10)))))], [(1001025, (x2.1.flatMap encI)), (1001282, (x3.flatMap encI))], [COK (hget [(1001025, (x2.1.flatMap encI)), (1001282, (x3.flatMap encI))]) [(.rf 1001025 0 x2.1.length 1 (x2.1.length * 1)), (.sl false x9.length 2 (x9.flatMap e44))] ⟨22, [(.sl true x2.1.length 1 (x2.1.flatMap encI)), (.sl true x9.length 2 (x9.flatMap e44))], [], (B x11), [], [1001025], [], [], (B x11), []⟩, (B x11 : V) = B false, COK (hget [(1001025, (x2.1.flatMap encI)), (1001282, (x3.flatMap encI))]) [(.rf 1001025 0 x2.1.length 1 (x2.1.length * 1)), (.sl false x9.length 2 (x9.flatMap e44))] ⟨31, [(.sl true x2.1.length 1 (x2.1.flatMap encI)), (.sl true x9.length 2 (x9.flatMap e44))], [], (I x12), [], [1001025], [], [], (I x12), []⟩, (0 : Int) ≤ x10 ∧ x10 < (x3.length : Int), rdC prog 3 ((x3.flatMap encI).drop (0 + x10.toNat * 1)) = (I (at_ x3 x10)), x3.length * 1 = (x3.flatMap encI).length ∧ 0 + x10.toNat * 1 + 1 ≤ (x3.flatMap encI).length], [⟨22, [(.sl true x2.1.length 1 (x2.1.flatMap encI)), (.sl true x9.length 2 (x9.flatMap e44))], [], (B x11), [], [1001025], [], [], (B x11), []⟩, ⟨31, [(.sl true x2.1.length 1 (x2.1.flatMap encI)), (.sl true x9.length 2 (x9.flatMap e44))], [], (I x12), [], [1001025], [], [], (I x12), []⟩]⟩ [c_ 2096785, c_ 1048393, b_ 3, c_ 262099, l_ 32762, b_ 2, c_ 8191] (alc (cok0 false (a2c (.z (frz_rf (k := 1001025) encI_ok (by simp) rfl rfl (row_len encI_ok _).symm)) (a2c (.z (frz_sl (t := false) e44_ok (fun h => absurd h (by decide)))) a2n)) (.z .s) (fun h => absurd h (by decide))) (alc (bF (vF c10)) (alc (cok0 false (a2c (.z (frz_rf (k := 1001025) encI_ok (by simp) rfl rfl (row_len encI_ok _).symm)) (a2c (.z (frz_sl (t := false) e44_ok (fun h => absurd h (by decide)))) a2n)) (.z .s) (fun h => absurd h (by decide))) (alc ⟨c11, c9⟩ (alc (ldC01 encI_ok rfl c11 c9) (alc (okA0 encI_ok c11 c9 (by decide)) aln)))))) (acal (impl_Stuck.J k x2.1 x9 _ hx11) (acal (impl_FirstMove.J k x2.1 x9 _ hx12) nocal)) ?_
          by_cases c12 : x12 = (at_ x3 x10)
          · rw [if_pos c12] at h
            refine .cond' (.tmp 101) false [c_ 2096786, c_ 2096787, b_ 3, c_ 262099, l_ 32762, b_ 2, c_ 8191] (bF (nF (qT c12))) ?_
            obtain ⟨x13, hx13, h⟩ := Option.bind_eq_some_iff.mp h
            refine .reg' [3, 4, 5, 10, 11, 12, 13] [.no, .no, .no, .no, .no, .v (I (at_ x3 x10)), .c ⟨24, [(.sl true x2.1.length 1 (x2.1.flatMap encI)), (.sl true x9.length 2 (x9.flatMap e44)), (I (at_ x3 x10))], [], (.tp [(.rf 1001026 0 x13.1.length 2 (x13.1.length * 2)), (B x13.2)]), [(1001026, (x13.1.flatMap e44))], [1001025], [], [(1006918, 1001026)], (.tp [(.rf 1006918 0 x13.1.length 2 (x13.1.length * 2)), (B x13.2)]), [(1006918, (x13.1.flatMap e44))]⟩] ⟨[(3, (.rf 1001025 0 x2.1.length 1 (x2.1.length * 1))), (4, (.sl false x2.2.length 2 (x2.2.flatMap e44))), (5, (.rf 1001282 0 x3.length 1 (x3.length * 1))), (10, (.sl false x9.length 2 (x9.flatMap e44))), (11, (I x10)), (12, (.rf 1006918 0 x13.1.length 2 (x13.1.length * 2))), (13, (B x13.2))], [(1001025, (x2.1.flatMap encI)), (1001282, (x3.flatMap encI)), (1006918, (x13.1.flatMap e44))], [(0 : Int) ≤ x10 ∧ x10 < (x3.length : Int), rdC prog 3 ((x3.flatMap encI).drop (0 + x10.toNat * 1)) = (I (at_ x3 x10)), x3.length * 1 = (x3.flatMap encI).length ∧ 0 + x10.toNat * 1 + 1 ≤ (x3.flatMap encI).length, COK (hget [(1001025, (x2.1.flatMap encI)), (1001282, (x3.flatMap encI))]) [(.rf 1001025 0 x2.1.length 1 (x2.1.length * 1)), (.sl false x9.length 2 (x9.flatMap e44)), (I (at_ x3 x10))] ⟨24, [(.sl true x2.1.length 1 (x2.1.flatMap encI)), (.sl true x9.length 2 (x9.flatMap e44)), (I (at_ x3 x10))], [], (.tp [(.rf 1001026 0 x13.1.length 2 (x13.1.length * 2)), (B x13.2)]), [(1001026, (x13.1.flatMap e44))], [1001025], [], [(1006918, 1001026)], (.tp [(.rf 1006918 0 x13.1.length 2 (x13.1.length * 2)), (B x13.2)]), [(1006918, (x13.1.flatMap e44))]⟩], [⟨24, [(.sl true x2.1.length 1 (x2.1.flatMap encI)), (.sl true x9.length 2 (x9.flatMap e44)), (I (at_ x3 x10))], [], (.tp [(.rf 1001026 0 x13.1.length 2 (x13.1.length * 2)), (B x13.2)]), [(1001026, (x13.1.flatMap e44))], [1001025], [], [(1006918, 1001026)], (.tp [(.rf 1006918 0 x13.1.length 2 (x13.1.length * 2)), (B x13.2)]), [(1006918, (x13.1.flatMap e44))]⟩]⟩ [c_ 8387148, c_ 8387149, c_ 4193575, b_ 3, c_ 262099, l_ 32762, b_ 2, c_ 8191] (alc ⟨c11, c9⟩ (alc (ldC01 encI_ok rfl c11 c9) (alc (okA0 encI_ok c11 c9 (by decide)) (alc (cokW false (a2c (.z (frz_rf (k := 1001025) encI_ok (by simp) rfl rfl (row_len encI_ok _).symm)) (a2c (.z (frz_sl (t := false) e44_ok (fun h => absurd h (by decide)))) (a2c (.z .s) a2n))) akn (akc (.inr rfl) akn) (bck_tp (a2c (.rf (memP_mem (p := (1006918, 1001026)) rfl)) (a2c (.z .s) a2n))) (akc ⟨_, _, rfl, rfl, rowB e44_c _⟩ akn) (fun h => absurd h (by decide))) aln)))) (acal (impl_MoveOn.J k x2.1 x9 (at_ x3 x10) _ hx13) nocal) ?_
            by_cases c13 : x13.2 = true
            · rw [if_pos c13] at h
              by_cases c14 : (x13.1.length : Int) = (x9.length : Int)
              · rw [if_pos c14] at h
                obtain ⟨x14, hx14, h⟩ := Option.bind_eq_some_iff.mp h
                refine .reg' [3, 4, 5, 11, 12, 126] [.no, .no, .v (B false), .no, .no, .no, .no, .no, .no, .v (B false), .no, .no, .c ⟨16, [(.sl true x2.1.length 1 (x2.1.flatMap encI)), (.sl true x13.1.length 2 (x13.1.flatMap e44))], [], (B x14), [], [1001025, 1006918], [], [], (B x14), []⟩] ⟨[(3, (.rf 1001025 0 x2.1.length 1 (x2.1.length * 1))), (4, (.sl false x2.2.length 2 (x2.2.flatMap e44))), (5, (.rf 1001282 0 x3.length 1 (x3.length * 1))), (11, (I x10)), (12, (.rf 1006918 0 x13.1.length 2 (x13.1.length * 2))), (126, (B (!x14)))], [(1001025, (x2.1.flatMap encI)), (1001282, (x3.flatMap encI)), (1006918, (x13.1.flatMap e44))], [(B (!x13.2) : V) = B false, (B (!((x13.1.length : Int) == (x9.length : Int))) : V) = B false, COK (hget [(1001025, (x2.1.flatMap encI)), (1001282, (x3.flatMap encI)), (1006918, (x13.1.flatMap e44))]) [(.rf 1001025 0 x2.1.length 1 (x2.1.length * 1)), (.rf 1006918 0 x13.1.length 2 (x13.1.length * 2))] ⟨16, [(.sl true x2.1.length 1 (x2.1.flatMap encI)), (.sl true x13.1.length 2 (x13.1.flatMap e44))], [], (B x14), [], [1001025, 1006918], [], [], (B x14), []⟩], [⟨16, [(.sl true x2.1.length 1 (x2.1.flatMap encI)), (.sl true x13.1.length 2 (x13.1.flatMap e44))], [], (B x14), [], [1001025, 1006918], [], [], (B x14), []⟩]⟩ [c_ 8387149, c_ 4193575, b_ 3, c_ 262099, l_ 32762, b_ 2, c_ 8191] (alc (bF (nF c13)) (alc (bF (nF (qT c14))) (alc (cok0 false (a2c (.z (frz_rf (k := 1001025) encI_ok (by simp) rfl rfl (row_len encI_ok _).symm)) (a2c (.z (frz_rf (k := 1006918) e44_ok (by simp) rfl rfl (row_len e44_ok _).symm)) a2n)) (.z .s) (fun h => absurd h (by decide))) aln))) (acal (impl_SinglesOk.J k x2.1 x13.1 _ hx14) nocal) ?_
                by_cases c15 : x14 = true
                · rw [if_pos c15] at h
                  refine .cond' (.tmp 126) false [c_ 4193575, b_ 3, c_ 262099, l_ 32762, b_ 2, c_ 8191] (bF (nF c15)) ?_
                  refine .reg' [3, 4, 5, 10, 11] [] ⟨[(3, (.rf 1001025 0 x2.1.length 1 (x2.1.length * 1))), (4, (.sl false x2.2.length 2 (x2.2.flatMap e44))), (5, (.rf 1001282 0 x3.length 1 (x3.length * 1))), (10, (.rf 1006918 0 x13.1.length 2 (x13.1.length * 2))), (11, (I x10))], [(1001025, (x2.1.flatMap encI)), (1001282, (x3.flatMap encI)), (1006918, (x13.1.flatMap e44))], [], []⟩ [c_ 262099, l_ 32762, b_ 2, c_ 8191] aln nocal ?_
                  refine .reg' [3, 4, 5, 10, 11] [] ⟨[(3, (.rf 1001025 0 x2.1.length 1 (x2.1.length * 1))), (4, (.sl false x2.2.length 2 (x2.2.flatMap e44))), (5, (.rf 1001282 0 x3.length 1 (x3.length * 1))), (10, (.rf 1006918 0 x13.1.length 2 (x13.1.length * 2))), (11, (I (wrap64 (x10 + 1))))], [(1001025, (x2.1.flatMap encI)), (1001282, (x3.flatMap encI)), (1006918, (x13.1.flatMap e44))], [], []⟩ [l_ 32762, b_ 2, c_ 8191] aln nocal ?_
                  refine .wk' [1006918] [(1001025, 1001025), (1001282, 1001282)] [(3, (.rf 1001025 0 x2.1.length 1 (x2.1.length * 1))), (4, (.sl false x2.2.length 2 (x2.2.flatMap e44))), (5, (.rf 1001282 0 x3.length 1 (x3.length * 1))), (10, (.sl false x13.1.length 2 (x13.1.flatMap e44))), (11, (I (wrap64 (x10 + 1))))] [(1001025, (x2.1.flatMap encI)), (1001282, (x3.flatMap encI))] (shc 1001025 (rowF encI_ok _) (shc 1001282 (rowF encI_ok _) shn)) (enc_ (.rf (memP_mem (p := (1001025, 1001025)) rfl)) (enc_ (.z (frz_sl e44_ok (fun h => h))) (enc_ (.rf (memP_mem (p := (1001282, 1001282)) rfl)) (enc_ (.z (frz_rf (k := 1006918) e44_ok (by simp) rfl rfl (row_len e44_ok _).symm)) (enc_ (.z .s) enn))))) ?_
                  exact ih1 x2 x3 x13.1 (wrap64 (x10 + 1)) _ h
                · rw [if_neg c15] at h
                  refine .cond' (.tmp 126) true [c_ 33548596, c_ 33548597, c_ 4193575, b_ 3, c_ 262099, l_ 32762, b_ 2, c_ 8191] (bT (nT (vF c15))) ?_
                  refine .reg' [2] [] ⟨[(2, (B false))], [(1001025, (x2.1.flatMap encI)), (1001282, (x3.flatMap encI)), (1006918, (x13.1.flatMap e44))], [], []⟩ [c_ 33548597, c_ 4193575, b_ 3, c_ 262099, l_ 32762, b_ 2, c_ 8191] aln nocal ?_
                  have h := Option.some.inj h
                  subst h
                  exact .fin0 [] (B false) [] aln (.z .s)
              · rw [if_neg c14] at h
                refine .reg' [3, 4, 5, 11, 12, 126] [.no, .no, .v (B false), .no, .no, .no, .no, .no, .no, .v (B true)] ⟨[(3, (.rf 1001025 0 x2.1.length 1 (x2.1.length * 1))), (4, (.sl false x2.2.length 2 (x2.2.flatMap e44))), (5, (.rf 1001282 0 x3.length 1 (x3.length * 1))), (11, (I x10)), (12, (.rf 1006918 0 x13.1.length 2 (x13.1.length * 2))), (126, (B true))], [(1001025, (x2.1.flatMap encI)), (1001282, (x3.flatMap encI)), (1006918, (x13.1.flatMap e44))], [(B (!x13.2) : V) = B false, (B (!((x13.1.length : Int) == (x9.length : Int))) : V) = B true], []⟩ [c_ 8387149, c_ 4193575, b_ 3, c_ 262099, l_ 32762, b_ 2, c_ 8191] (alc (bF (nF c13)) (alc (bT (nT (qF c14))) aln)) nocal ?_
                refine .cond' (.tmp 126) true [c_ 33548596, c_ 33548597, c_ 4193575, b_ 3, c_ 262099, l_ 32762, b_ 2, c_ 8191] (rfl) ?_
                refine .reg' [2] [] ⟨[(2, (B false))], [(1001025, (x2.1.flatMap encI)), (1001282, (x3.flatMap encI)), (1006918, (x13.1.flatMap e44))], [], []⟩ [c_ 33548597, c_ 4193575, b_ 3, c_ 262099, l_ 32762, b_ 2, c_ 8191] aln nocal ?_
                have h := Option.some.inj h
                subst h
                exact .fin0 [] (B false) [] aln (.z .s)
            · rw [if_neg c13] at h
              refine .reg' [3, 4, 5, 11, 12, 126] [.no, .no, .v (B true)] ⟨[(3, (.rf 1001025 0 x2.1.length 1 (x2.1.length * 1))), (4, (.sl false x2.2.length 2 (x2.2.flatMap e44))), (5, (.rf 1001282 0 x3.length 1 (x3.length * 1))), (11, (I x10)), (12, (.rf 1006918 0 x13.1.length 2 (x13.1.length * 2))), (126, (B true))], [(1001025, (x2.1.flatMap encI)), (1001282, (x3.flatMap encI)), (1006918, (x13.1.flatMap e44))], [(B (!x13.2) : V) = B true], []⟩ [c_ 8387149, c_ 4193575, b_ 3, c_ 262099, l_ 32762, b_ 2, c_ 8191] (alc (bT (nT (vF c13))) aln) nocal ?_
              refine .cond' (.tmp 126) true [c_ 33548596, c_ 33548597, c_ 4193575, b_ 3, c_ 262099, l_ 32762, b_ 2, c_ 8191] (rfl) ?_
              refine .reg' [2] [] ⟨[(2, (B false))], [(1001025, (x2.1.flatMap encI)), (1001282, (x3.flatMap encI)), (1006918, (x13.1.flatMap e44))], [], []⟩ [c_ 33548597, c_ 4193575, b_ 3, c_ 262099, l_ 32762, b_ 2, c_ 8191] aln nocal ?_
              have h := Option.some.inj h
              subst h
              exact .fin0 [] (B false) [] aln (.z .s)
          · rw [if_neg c12] at h
            refine .cond' (.tmp 101) true [c_ 8387140, c_ 8387141, c_ 1048393, b_ 3, c_ 262099, l_ 32762, b_ 2, c_ 8191] (bT (nT (qF c12))) ?_
            refine .reg' [2] [] ⟨[(2, (B false))], [(1001025, (x2.1.flatMap encI)), (1001282, (x3.flatMap encI))], [], []⟩ [c_ 8387141, c_ 1048393, b_ 3, c_ 262099, l_ 32762, b_ 2, c_ 8191] aln nocal ?_
            have h := Option.some.inj h
            subst h
            exact .fin0 [] (B false) [] aln (.z .s)
        · rw [if_neg c11] at h
          cases h
    · rw [if_neg c9] at h
      refine .cond' (.tmp 86) false [c_ 32764, c_ 32765, c_ 16383] (bF (dF c9)) ?_
      refine .reg' [3, 4, 10, 14] [] ⟨[(3, (.rf 1001025 0 x2.1.length 1 (x2.1.length * 1))), (4, (.sl false x2.2.length 2 (x2.2.flatMap e44))), (10, (.sl false x9.length 2 (x9.flatMap e44))), (14, (I 0))], [(1001025, (x2.1.flatMap encI)), (1001282, (x3.flatMap encI))], [], []⟩ [l_ 65530, b_ 4, c_ 16383] aln nocal ?_
      refine .wk' [] [(1001025, 1001025)] [(3, (.rf 1001025 0 x2.1.length 1 (x2.1.length * 1))), (4, (.sl false x2.2.length 2 (x2.2.flatMap e44))), (10, (.sl false x9.length 2 (x9.flatMap e44))), (14, (I 0))] [(1001025, (x2.1.flatMap encI))] (shc 1001025 (rowF encI_ok _) shn) (enc_ (.rf (memP_mem (p := (1001025, 1001025)) rfl)) (enc_ (.z (frz_sl e44_ok (fun h => h))) (enc_ (.z (frz_sl e44_ok (fun h => h))) (enc_ (.z .s) enn)))) ?_
      exact ih2 x2 x9 0 _ h
  · intro x2 x9 x15 r h
    unfold laws_FnMeets.l2 at h
    refine .loop' [c_ 524240, c_ 524241, c_ 262121, l_ 65530, b_ 4, c_ 16383] ?_
    refine .reg' [3, 4, 10, 14, 131] [] ⟨[(3, (.rf 1001025 0 x2.1.length 1 (x2.1.length * 1))), (4, (.sl false x2.2.length 2 (x2.2.flatMap e44))), (10, (.sl false x9.length 2 (x9.flatMap e44))), (14, (I x15)), (131, (B (decide (x15 < (x9.length : Int)))))], [(1001025, (x2.1.flatMap encI))], [], []⟩ [c_ 524241, c_ 262121, l_ 65530, b_ 4, c_ 16383] aln nocal ?_
    by_cases c16 : x15 < (x9.length : Int)
    · rw [if_pos c16] at h
      refine .cond' (.tmp 131) true [c_ 2096968, c_ 2096969, b_ 5, c_ 524243, l_ 65530, b_ 4, c_ 16383] (bT (dT c16)) ?_
      by_cases c17 : 0 ≤ x15
      · rw [if_pos c17] at h
        by_cases c18 : (at_ x9 x15).f0 = (at_ x9 x15).f1
        · rw [if_pos c18] at h
          by_cases c19 : x15 < (x2.2.length : Int)
          · rw [if_pos c19] at h
            refine .reg' [3, 4, 10, 14, 157] [.no, .no, .no, .no, .v (I (at_ x9 x15).f0), .no, .no, .no, .no, .v (I (at_ x9 x15).f1), .no, .v (B false), .no, .no, .no, .no, .v (I (at_ x9 x15).f1), .no, .no, .no, .no, .v (I (at_ x2.2 x15).f1)] ⟨[(3, (.rf 1001025 0 x2.1.length 1 (x2.1.length * 1))), (4, (.sl false x2.2.length 2 (x2.2.flatMap e44))), (10, (.sl false x9.length 2 (x9.flatMap e44))), (14, (I x15)), (157, (B (!((at_ x9 x15).f1 == (at_ x2.2 x15).f1))))], [(1001025, (x2.1.flatMap encI))], [(0 : Int) ≤ x15 ∧ x15 < (x9.length : Int), rdC prog 3 (((x9.flatMap e44).drop (x15.toNat * 2)).drop 0) = (I (at_ x9 x15).f0), 1 ≤ (((x9.flatMap e44).drop (x15.toNat * 2)).drop 0).length, (0 : Int) ≤ x15 ∧ x15 < (x9.length : Int), rdC prog 3 (((x9.flatMap e44).drop (x15.toNat * 2)).drop 1) = (I (at_ x9 x15).f1), 1 ≤ (((x9.flatMap e44).drop (x15.toNat * 2)).drop 1).length, (B (!((at_ x9 x15).f0 == (at_ x9 x15).f1)) : V) = B false, (0 : Int) ≤ x15 ∧ x15 < (x9.length : Int), rdC prog 3 (((x9.flatMap e44).drop (x15.toNat * 2)).drop 1) = (I (at_ x9 x15).f1), 1 ≤ (((x9.flatMap e44).drop (x15.toNat * 2)).drop 1).length, (0 : Int) ≤ x15 ∧ x15 < (x2.2.length : Int), rdC prog 3 (((x2.2.flatMap e44).drop (x15.toNat * 2)).drop 1) = (I (at_ x2.2 x15).f1), 1 ≤ (((x2.2.flatMap e44).drop (x15.toNat * 2)).drop 1).length], []⟩ [c_ 2096969, b_ 5, c_ 524243, l_ 65530, b_ 4, c_ 16383] (alc ⟨c17, c16⟩ (alc (ldC e44_ok 0 (by decide) rfl c17 c16) (alc (okIj e44_ok c17 c16 (by decide)) (alc ⟨c17, c16⟩ (alc (ldC e44_ok 1 (by decide) rfl c17 c16) (alc (okIj e44_ok c17 c16 (by decide)) (alc (bF (nF (qT c18))) (alc ⟨c17, c16⟩ (alc (ldC e44_ok 1 (by decide) rfl c17 c16) (alc (okIj e44_ok c17 c16 (by decide)) (alc ⟨c17, c19⟩ (alc (ldC e44_ok 1 (by decide) rfl c17 c19) (alc (okIj e44_ok c17 c19 (by decide)) aln))))))))))))) nocal ?_
            by_cases c20 : (at_ x9 x15).f1 = (at_ x2.2 x15).f1
            · rw [if_pos c20] at h
              refine .cond' (.tmp 157) false [c_ 524243, l_ 65530, b_ 4, c_ 16383] (bF (nF (qT c20))) ?_
              refine .reg' [3, 4, 10, 14] [] ⟨[(3, (.rf 1001025 0 x2.1.length 1 (x2.1.length * 1))), (4, (.sl false x2.2.length 2 (x2.2.flatMap e44))), (10, (.sl false x9.length 2 (x9.flatMap e44))), (14, (I (wrap64 (x15 + 1))))], [(1001025, (x2.1.flatMap encI))], [], []⟩ [l_ 65530, b_ 4, c_ 16383] aln nocal ?_
              exact ih2 x2 x9 (wrap64 (x15 + 1)) _ h
            · rw [if_neg c20] at h
              refine .cond' (.tmp 157) true [c_ 8387876, c_ 8387877, b_ 5, c_ 524243, l_ 65530, b_ 4, c_ 16383] (bT (nT (qF c20))) ?_
              refine .reg' [2] [] ⟨[(2, (B false))], [(1001025, (x2.1.flatMap encI))], [], []⟩ [c_ 8387877, b_ 5, c_ 524243, l_ 65530, b_ 4, c_ 16383] aln nocal ?_
              have h := Option.some.inj h
              subst h
              exact .fin0 [] (B false) [] aln (.z .s)
          · rw [if_neg c19] at h
            cases h
        · rw [if_neg c18] at h
          refine .reg' [3, 4, 10, 14, 157] [.no, .no, .no, .no, .v (I (at_ x9 x15).f0), .no, .no, .no, .no, .v (I (at_ x9 x15).f1), .no, .v (B true)] ⟨[(3, (.rf 1001025 0 x2.1.length 1 (x2.1.length * 1))), (4, (.sl false x2.2.length 2 (x2.2.flatMap e44))), (10, (.sl false x9.length 2 (x9.flatMap e44))), (14, (I x15)), (157, (B true))], [(1001025, (x2.1.flatMap encI))], [(0 : Int) ≤ x15 ∧ x15 < (x9.length : Int), rdC prog 3 (((x9.flatMap e44).drop (x15.toNat * 2)).drop 0) = (I (at_ x9 x15).f0), 1 ≤ (((x9.flatMap e44).drop (x15.toNat * 2)).drop 0).length, (0 : Int) ≤ x15 ∧ x15 < (x9.length : Int), rdC prog 3 (((x9.flatMap e44).drop (x15.toNat * 2)).drop 1) = (I (at_ x9 x15).f1), 1 ≤ (((x9.flatMap e44).drop (x15.toNat * 2)).drop 1).length, (B (!((at_ x9 x15).f0 == (at_ x9 x15).f1)) : V) = B true], []⟩ [c_ 2096969, b_ 5, c_ 524243, l_ 65530, b_ 4, c_ 16383] (alc ⟨c17, c16⟩ (alc (ldC e44_ok 0 (by decide) rfl c17 c16) (alc (okIj e44_ok c17 c16 (by decide)) (alc ⟨c17, c16⟩ (alc (ldC e44_ok 1 (by decide) rfl c17 c16) (alc (okIj e44_ok c17 c16 (by decide)) (alc (bT (nT (qF c18))) aln))))))) nocal ?_
          refine .cond' (.tmp 157) true [c_ 8387876, c_ 8387877, b_ 5, c_ 524243, l_ 65530, b_ 4, c_ 16383] (rfl) ?_
          refine .reg' [2] [] ⟨[(2, (B false))], [(1001025, (x2.1.flatMap encI))], [], []⟩ [c_ 8387877, b_ 5, c_ 524243, l_ 65530, b_ 4, c_ 16383] aln nocal ?_
          have h := Option.some.inj h
          subst h
          exact .fin0 [] (B false) [] aln (.z .s)
      · rw [if_neg c17] at h
        cases h
    · rw [if_neg c16] at h
      refine .cond' (.tmp 131) false [c_ 32766, c_ 32767] (bF (dF c16)) ?_
      obtain ⟨x16, hx16, h⟩ := Option.bind_eq_some_iff.mp h
      refine .reg' [2] [.no, .no, .c ⟨22, [(.sl true x2.1.length 1 (x2.1.flatMap encI)), (.sl true x9.length 2 (x9.flatMap e44))], [], (B x16), [], [1001025], [], [], (B x16), []⟩] ⟨[(2, (B (!x16)))], [(1001025, (x2.1.flatMap encI))], [COK (hget [(1001025, (x2.1.flatMap encI))]) [(.rf 1001025 0 x2.1.length 1 (x2.1.length * 1)), (.sl false x9.length 2 (x9.flatMap e44))] ⟨22, [(.sl true x2.1.length 1 (x2.1.flatMap encI)), (.sl true x9.length 2 (x9.flatMap e44))], [], (B x16), [], [1001025], [], [], (B x16), []⟩], [⟨22, [(.sl true x2.1.length 1 (x2.1.flatMap encI)), (.sl true x9.length 2 (x9.flatMap e44))], [], (B x16), [], [1001025], [], [], (B x16), []⟩]⟩ [c_ 32767] (alc (cok0 false (a2c (.z (frz_rf (k := 1001025) encI_ok (by simp) rfl rfl (row_len encI_ok _).symm)) (a2c (.z (frz_sl (t := false) e44_ok (fun h => absurd h (by decide)))) a2n)) (.z .s) (fun h => absurd h (by decide))) aln) (acal (impl_Stuck.J k x2.1 x9 _ hx16) nocal) ?_
      have h := Option.some.inj h
      subst h
      exact .fin0 [] (B (!x16)) [] aln (.z .s)
end Go.Proofs.Ytpjmefdpjlhkhaa.Fns
