/- The functions that the law FnChain reaches, by the engine. Printed by a program of this seat. -/
import Derived.Test.YtomkglmlhoaniaaE5
import Derived.Test.YtomkglmlhoaniaaProg
import Derived.Test.YtomkglmlhoaniaaFFnChainx2
namespace Go.Proofs.Ytomkglmlhoaniaa.Fns
open Go.Proofs.Try Go.Proofs.Ytomkglmlhoaniaa.Eng Go.RowKit
set_option maxRecDepth 100000
set_option linter.unusedVariables false
set_option linter.unusedSimpArgs false
theorem impl_Chain.lab : ∀ k, (∀ (a0 : S29) (a1 : (List Int)) (x3 : ((List Int) × (List Bool))) (x4 : (List Int)) (x5 : Int) (r : (List Int)), impl_Chain.l0 k a0 a1 x3 x4 x5 = some r → J prog (.run 37 [] [l_ 124, b_ 0, c_ 63] [(1, (.sl true a1.length 1 (a1.flatMap encI))), (2, (I x5)), (3, (.pt 256 0 3)), (7, (.rf 1001026 0 x3.1.length 1 (x3.1.length * 1))), (8, (.rf 2001026 0 x3.2.length 1 (x3.2.length * 1))), (9, (.rf 1280 0 x4.length 1 (x4.length * 1)))] [(256, [(.sl true a0.f0.length 1 (a0.f0.flatMap encI)), (.sl true a0.f1.length 4 (a0.f1.flatMap e52)), (I a0.f2)]), (2001026, (x3.2.flatMap encB)), (1001026, (x3.1.flatMap encI)), (1280, (x4.flatMap encI))] (.rf 1280 0 r.length 1 (r.length * 1)) [(1280, (r.flatMap encI))]))
 | 0 => (by intro a0 a1 x3 x4 x5 r h; unfold impl_Chain.l0 at h; cases h)
 | k + 1 => by
  have ih0 := impl_Chain.lab k
  · intro a0 a1 x3 x4 x5 r h
    unfold impl_Chain.l0 at h
    refine .loop' [c_ 992, c_ 993, c_ 497, l_ 124, b_ 0, c_ 63] ?_
    refine .reg' [1, 2, 3, 7, 8, 9, 31] [] ⟨[(1, (.sl true a1.length 1 (a1.flatMap encI))), (2, (I x5)), (3, (.pt 256 0 3)), (7, (.rf 1001026 0 x3.1.length 1 (x3.1.length * 1))), (8, (.rf 2001026 0 x3.2.length 1 (x3.2.length * 1))), (9, (.rf 1280 0 x4.length 1 (x4.length * 1))), (31, (B (decide (x5 ≥ 0))))], [(256, [(.sl true a0.f0.length 1 (a0.f0.flatMap encI)), (.sl true a0.f1.length 4 (a0.f1.flatMap e52)), (I a0.f2)]), (2001026, (x3.2.flatMap encB)), (1001026, (x3.1.flatMap encI)), (1280, (x4.flatMap encI))], [], []⟩ [c_ 993, c_ 497, l_ 124, b_ 0, c_ 63] aln nocal ?_
    by_cases c3 : x5 ≥ 0
    · rw [if_pos c3] at h
      refine .cond' (.tmp 31) true [c_ 1988, c_ 1989, b_ 1, l_ 124, b_ 0, c_ 63] (bT (dT c3)) ?_
      by_cases c4 : (([x5] : List Int).length + x4.length) * 8 ≤ 70368744177664
      · rw [if_pos c4] at h
        refine .reg' [1, 2, 3, 7, 8, 9] [.no, .no, .no, .w (.rf 1793 0 ((([x5] : List Int) ++ x4).length) 1 ((([x5] : List Int) ++ x4).length * 1)) ((([x5] : List Int) ++ x4).flatMap encI)] ⟨[(1, (.sl true a1.length 1 (a1.flatMap encI))), (2, (I x5)), (3, (.pt 256 0 3)), (7, (.rf 1001026 0 x3.1.length 1 (x3.1.length * 1))), (8, (.rf 2001026 0 x3.2.length 1 (x3.2.length * 1))), (9, (.rf 1793 0 ((([x5] : List Int) ++ x4).length) 1 ((([x5] : List Int) ++ x4).length * 1)))], [(256, [(.sl true a0.f0.length 1 (a0.f0.flatMap encI)), (.sl true a0.f1.length 4 (a0.f1.flatMap e52)), (I a0.f2)]), (2001026, (x3.2.flatMap encB)), (1001026, (x3.1.flatMap encI)), (1280, (x4.flatMap encI)), (1793, ((([x5] : List Int) ++ x4).flatMap encI))], [V.rf 1793 0 (([x5] : List Int).length + x4.length) 1 (([x5] : List Int).length * 1 + x4.length * 1) = (.rf 1793 0 ((([x5] : List Int) ++ x4).length) 1 ((([x5] : List Int) ++ x4).length * 1)), ([x5] : List Int).flatMap encI ++ (((x4.flatMap encI).drop 0).take (x4.length * 1)) = ((([x5] : List Int) ++ x4).flatMap encI), (x4.length * 1 = (x4.flatMap encI).length ∧ 0 + x4.length * 1 ≤ (x4.flatMap encI).length) ∧ ([x5] : List Int).length * 1 = (([x5] : List Int).flatMap encI).length ∧ ([x5] : List Int).length * 1 = (([x5] : List Int).flatMap encI).length ∧ (([x5] : List Int).length + x4.length) * 8 ≤ 70368744177664], []⟩ [c_ 1989, b_ 1, l_ 124, b_ 0, c_ 63] (alc (apV rfl) (alc (apR encI_ok rfl) (alc (apO encI_ok rfl c4 rfl) aln))) nocal ?_
        obtain ⟨x6, hx6, h⟩ := Option.bind_eq_some_iff.mp h
        refine .reg' [1, 2, 3, 7, 8, 9] [.no, .no, .no, .no, .no, .c ⟨54, [(.ag [(.sl true a0.f0.length 1 (a0.f0.flatMap encI)), (.sl true a0.f1.length 4 (a0.f1.flatMap e52)), (I a0.f2)]), (.sl true a1.length 1 (a1.flatMap encI)), (.sl true x3.1.length 1 (x3.1.flatMap encI)), (.sl true x3.2.length 1 (x3.2.flatMap encB)), (I x5)], [], (I x6), [], [1001026, 2001026], [], [], (I x6), []⟩] ⟨[(1, (.sl true a1.length 1 (a1.flatMap encI))), (2, (I x6)), (3, (.pt 256 0 3)), (7, (.rf 1001026 0 x3.1.length 1 (x3.1.length * 1))), (8, (.rf 2001026 0 x3.2.length 1 (x3.2.length * 1))), (9, (.rf 1793 0 ((([x5] : List Int) ++ x4).length) 1 ((([x5] : List Int) ++ x4).length * 1)))], [(256, [(.sl true a0.f0.length 1 (a0.f0.flatMap encI)), (.sl true a0.f1.length 4 (a0.f1.flatMap e52)), (I a0.f2)]), (2001026, (x3.2.flatMap encB)), (1001026, (x3.1.flatMap encI)), (1280, (x4.flatMap encI)), (1793, ((([x5] : List Int) ++ x4).flatMap encI))], [3 = 3 ∧ 0 + 3 ≤ 3, COK (hget [(256, [(.sl true a0.f0.length 1 (a0.f0.flatMap encI)), (.sl true a0.f1.length 4 (a0.f1.flatMap e52)), (I a0.f2)]), (2001026, (x3.2.flatMap encB)), (1001026, (x3.1.flatMap encI)), (1280, (x4.flatMap encI)), (1793, ((([x5] : List Int) ++ x4).flatMap encI))]) [(.ag [(.sl true a0.f0.length 1 (a0.f0.flatMap encI)), (.sl true a0.f1.length 4 (a0.f1.flatMap e52)), (I a0.f2)]), (.sl true a1.length 1 (a1.flatMap encI)), (.rf 1001026 0 x3.1.length 1 (x3.1.length * 1)), (.rf 2001026 0 x3.2.length 1 (x3.2.length * 1)), (I x5)] ⟨54, [(.ag [(.sl true a0.f0.length 1 (a0.f0.flatMap encI)), (.sl true a0.f1.length 4 (a0.f1.flatMap e52)), (I a0.f2)]), (.sl true a1.length 1 (a1.flatMap encI)), (.sl true x3.1.length 1 (x3.1.flatMap encI)), (.sl true x3.2.length 1 (x3.2.flatMap encB)), (I x5)], [], (I x6), [], [1001026, 2001026], [], [], (I x6), []⟩], [⟨54, [(.ag [(.sl true a0.f0.length 1 (a0.f0.flatMap encI)), (.sl true a0.f1.length 4 (a0.f1.flatMap e52)), (I a0.f2)]), (.sl true a1.length 1 (a1.flatMap encI)), (.sl true x3.1.length 1 (x3.1.flatMap encI)), (.sl true x3.2.length 1 (x3.2.flatMap encB)), (I x5)], [], (I x6), [], [1001026, 2001026], [], [], (I x6), []⟩]⟩ [l_ 124, b_ 0, c_ 63] (alc ⟨rfl, by decide⟩ (alc (cok0 false (a2c (.z (frz_ag (a2c (frz_sl encI_ok (fun h => h)) (a2c (frz_sl e52_ok (fun h => h)) (a2c .s a2n))))) (a2c (.z (frz_sl encI_ok (fun h => h))) (a2c (.z (frz_rf (k := 1001026) encI_ok (by simp) rfl rfl (row_len encI_ok _).symm)) (a2c (.z (frz_rf (k := 2001026) encB_ok (by simp) rfl rfl (row_len encB_ok _).symm)) (a2c (.z .s) a2n))))) (.z .s) (fun h => absurd h (by decide))) aln)) (acal (impl_cause.J k a0 a1 x3.1 x3.2 x5 _ hx6) nocal) ?_
        refine .wk' [] [(256, 256), (2001026, 2001026), (1001026, 1001026), (1793, 1280)] [(1, (.sl true a1.length 1 (a1.flatMap encI))), (2, (I x6)), (3, (.pt 256 0 3)), (7, (.rf 1001026 0 x3.1.length 1 (x3.1.length * 1))), (8, (.rf 2001026 0 x3.2.length 1 (x3.2.length * 1))), (9, (.rf 1280 0 ((([x5] : List Int) ++ x4).length) 1 ((([x5] : List Int) ++ x4).length * 1)))] [(256, [(.sl true a0.f0.length 1 (a0.f0.flatMap encI)), (.sl true a0.f1.length 4 (a0.f1.flatMap e52)), (I a0.f2)]), (2001026, (x3.2.flatMap encB)), (1001026, (x3.1.flatMap encI)), (1280, ((([x5] : List Int) ++ x4).flatMap encI))] (shc 256 (a2c (.z (frz_sl encI_ok (fun h => h))) (a2c (.z (frz_sl e52_ok (fun h => h))) (a2c (.z .s) a2n))) (shc 2001026 (rowF encB_ok _) (shc 1001026 (rowF encI_ok _) (shc 1793 (rowF encI_ok _) shn)))) (enc_ (.z (frz_sl encI_ok (fun h => h))) (enc_ (.z .s) (enc_ (.pt (memP_mem (p := (256, 256)) rfl)) (enc_ (.rf (memP_mem (p := (1001026, 1001026)) rfl)) (enc_ (.rf (memP_mem (p := (2001026, 2001026)) rfl)) (enc_ (.rf (memP_mem (p := (1793, 1280)) rfl)) enn)))))) ?_
        exact ih0 a0 a1 x3 (([x5] : List Int) ++ x4) x6 _ h
      · rw [if_neg c4] at h
        cases h
    · rw [if_neg c3] at h
      refine .cond' (.tmp 31) false [c_ 126, c_ 127] (bF (dF c3)) ?_
      refine .reg' [6] [] ⟨[(6, (.rf 1280 0 x4.length 1 (x4.length * 1)))], [(256, [(.sl true a0.f0.length 1 (a0.f0.flatMap encI)), (.sl true a0.f1.length 4 (a0.f1.flatMap e52)), (I a0.f2)]), (2001026, (x3.2.flatMap encB)), (1001026, (x3.1.flatMap encI)), (1280, (x4.flatMap encI))], [], []⟩ [c_ 127] aln nocal ?_
      have h := Option.some.inj h
      subst h
      exact .fin' [] [(1280, 1280)] (.rf 1280 0 x4.length 1 (x4.length * 1)) [] aln (shc 1280 (rowF encI_ok _) shn) (.rf (memP_mem (p := (1280, 1280)) rfl))
theorem impl_Chain.J (k : Nat) (a0 : S29) (a1 : (List Int)) (a2 : Int) (r : (List Int)) (h : impl_Chain.f k a0 a1 a2 = some r) : J prog (.call 37 [(.ag [(.sl true a0.f0.length 1 (a0.f0.flatMap encI)), (.sl true a0.f1.length 4 (a0.f1.flatMap e52)), (I a0.f2)]), (.sl true a1.length 1 (a1.flatMap encI)), (I a2)] [] (.rf 1280 0 r.length 1 (r.length * 1)) [(1280, (r.flatMap encI))]) := by
  unfold impl_Chain.f at h
  have ih0 := impl_Chain.lab k
  refine .call' [c_ 2, c_ 3] ?_
  refine .reg' [1, 2, 3] [] ⟨[(1, (.sl true a1.length 1 (a1.flatMap encI))), (2, (I a2)), (3, (.pt 256 0 3))], [(256, [(.sl true a0.f0.length 1 (a0.f0.flatMap encI)), (.sl true a0.f1.length 4 (a0.f1.flatMap e52)), (I a0.f2)])], [], []⟩ [c_ 12, c_ 13, c_ 7] aln nocal ?_
  obtain ⟨x1, hx1, h⟩ := Option.bind_eq_some_iff.mp h
  by_cases c1 : x1 = true
  · rw [if_pos c1] at h
    obtain ⟨x2, hx2, h⟩ := Option.bind_eq_some_iff.mp h
    refine .reg' [1, 2, 3, 22] [.no, .no, .c ⟨51, [(.ag [(.sl true a0.f0.length 1 (a0.f0.flatMap encI)), (.sl true a0.f1.length 4 (a0.f1.flatMap e52)), (I a0.f2)]), (.sl true a1.length 1 (a1.flatMap encI))], [], (B x1), [], [], [], [], (B x1), []⟩, .no, .v (B false), .no, .no, .no, .no, .no, .c ⟨46, [(I a2), (I 0), (I (wrap64 ((a0.f0.length : Int) - 1)))], [], (B x2), [], [], [], [], (B x2), []⟩] ⟨[(1, (.sl true a1.length 1 (a1.flatMap encI))), (2, (I a2)), (3, (.pt 256 0 3)), (22, (B (!x2)))], [(256, [(.sl true a0.f0.length 1 (a0.f0.flatMap encI)), (.sl true a0.f1.length 4 (a0.f1.flatMap e52)), (I a0.f2)])], [3 = 3 ∧ 0 + 3 ≤ 3, COK (hget [(256, [(.sl true a0.f0.length 1 (a0.f0.flatMap encI)), (.sl true a0.f1.length 4 (a0.f1.flatMap e52)), (I a0.f2)])]) [(.ag [(.sl true a0.f0.length 1 (a0.f0.flatMap encI)), (.sl true a0.f1.length 4 (a0.f1.flatMap e52)), (I a0.f2)]), (.sl true a1.length 1 (a1.flatMap encI))] ⟨51, [(.ag [(.sl true a0.f0.length 1 (a0.f0.flatMap encI)), (.sl true a0.f1.length 4 (a0.f1.flatMap e52)), (I a0.f2)]), (.sl true a1.length 1 (a1.flatMap encI))], [], (B x1), [], [], [], [], (B x1), []⟩, (B (!x1) : V) = B false, 3 = 3 ∧ 0 + 1 ≤ 3, COK (hget [(256, [(.sl true a0.f0.length 1 (a0.f0.flatMap encI)), (.sl true a0.f1.length 4 (a0.f1.flatMap e52)), (I a0.f2)])]) [(I a2), (I 0), (I (wrap64 ((a0.f0.length : Int) - 1)))] ⟨46, [(I a2), (I 0), (I (wrap64 ((a0.f0.length : Int) - 1)))], [], (B x2), [], [], [], [], (B x2), []⟩], [⟨51, [(.ag [(.sl true a0.f0.length 1 (a0.f0.flatMap encI)), (.sl true a0.f1.length 4 (a0.f1.flatMap e52)), (I a0.f2)]), (.sl true a1.length 1 (a1.flatMap encI))], [], (B x1), [], [], [], [], (B x1), []⟩, ⟨46, [(I a2), (I 0), (I (wrap64 ((a0.f0.length : Int) - 1)))], [], (B x2), [], [], [], [], (B x2), []⟩]⟩ [c_ 13, c_ 7] (alc ⟨rfl, by decide⟩ (alc (cok0 false (a2c (.z (frz_ag (a2c (frz_sl encI_ok (fun h => h)) (a2c (frz_sl e52_ok (fun h => h)) (a2c .s a2n))))) (a2c (.z (frz_sl encI_ok (fun h => h))) a2n)) (.z .s) (fun h => absurd h (by decide))) (alc (bF (nF c1)) (alc ⟨rfl, by decide⟩ (alc (cok0 false (a2c (.z .s) (a2c (.z .s) (a2c (.z .s) a2n))) (.z .s) (fun h => absurd h (by decide))) aln))))) (acal (impl_playable.J k a0 a1 _ hx1) (acal (impl_between.J a2 0 (wrap64 ((a0.f0.length : Int) - 1)) _ hx2) nocal)) ?_
    by_cases c2 : x2 = true
    · rw [if_pos c2] at h
      refine .cond' (.tmp 22) false [c_ 14, c_ 15] (bF (nF c2)) ?_
      obtain ⟨x3, hx3, h⟩ := Option.bind_eq_some_iff.mp h
      refine .reg' [1, 2, 3, 7, 8] [.no, .no, .c ⟨52, [(.ag [(.sl true a0.f0.length 1 (a0.f0.flatMap encI)), (.sl true a0.f1.length 4 (a0.f1.flatMap e52)), (I a0.f2)]), (.sl true a1.length 1 (a1.flatMap encI))], [], (.tp [(.rf 515 0 x3.1.length 1 (x3.1.length * 1)), (.rf 519 0 x3.2.length 1 (x3.2.length * 1))]), [(515, (x3.1.flatMap encI)), (519, (x3.2.flatMap encB))], [], [], [(1001026, 515), (2001026, 519)], (.tp [(.rf 1001026 0 x3.1.length 1 (x3.1.length * 1)), (.rf 2001026 0 x3.2.length 1 (x3.2.length * 1))]), [(1001026, (x3.1.flatMap encI)), (2001026, (x3.2.flatMap encB))]⟩] ⟨[(1, (.sl true a1.length 1 (a1.flatMap encI))), (2, (I a2)), (3, (.pt 256 0 3)), (7, (.rf 1001026 0 x3.1.length 1 (x3.1.length * 1))), (8, (.rf 2001026 0 x3.2.length 1 (x3.2.length * 1)))], [(256, [(.sl true a0.f0.length 1 (a0.f0.flatMap encI)), (.sl true a0.f1.length 4 (a0.f1.flatMap e52)), (I a0.f2)]), (2001026, (x3.2.flatMap encB)), (1001026, (x3.1.flatMap encI))], [3 = 3 ∧ 0 + 3 ≤ 3, COK (hget [(256, [(.sl true a0.f0.length 1 (a0.f0.flatMap encI)), (.sl true a0.f1.length 4 (a0.f1.flatMap e52)), (I a0.f2)])]) [(.ag [(.sl true a0.f0.length 1 (a0.f0.flatMap encI)), (.sl true a0.f1.length 4 (a0.f1.flatMap e52)), (I a0.f2)]), (.sl true a1.length 1 (a1.flatMap encI))] ⟨52, [(.ag [(.sl true a0.f0.length 1 (a0.f0.flatMap encI)), (.sl true a0.f1.length 4 (a0.f1.flatMap e52)), (I a0.f2)]), (.sl true a1.length 1 (a1.flatMap encI))], [], (.tp [(.rf 515 0 x3.1.length 1 (x3.1.length * 1)), (.rf 519 0 x3.2.length 1 (x3.2.length * 1))]), [(515, (x3.1.flatMap encI)), (519, (x3.2.flatMap encB))], [], [], [(1001026, 515), (2001026, 519)], (.tp [(.rf 1001026 0 x3.1.length 1 (x3.1.length * 1)), (.rf 2001026 0 x3.2.length 1 (x3.2.length * 1))]), [(1001026, (x3.1.flatMap encI)), (2001026, (x3.2.flatMap encB))]⟩], [⟨52, [(.ag [(.sl true a0.f0.length 1 (a0.f0.flatMap encI)), (.sl true a0.f1.length 4 (a0.f1.flatMap e52)), (I a0.f2)]), (.sl true a1.length 1 (a1.flatMap encI))], [], (.tp [(.rf 515 0 x3.1.length 1 (x3.1.length * 1)), (.rf 519 0 x3.2.length 1 (x3.2.length * 1))]), [(515, (x3.1.flatMap encI)), (519, (x3.2.flatMap encB))], [], [], [(1001026, 515), (2001026, 519)], (.tp [(.rf 1001026 0 x3.1.length 1 (x3.1.length * 1)), (.rf 2001026 0 x3.2.length 1 (x3.2.length * 1))]), [(1001026, (x3.1.flatMap encI)), (2001026, (x3.2.flatMap encB))]⟩]⟩ [c_ 30, c_ 31] (alc ⟨rfl, by decide⟩ (alc (cokW false (a2c (.z (frz_ag (a2c (frz_sl encI_ok (fun h => h)) (a2c (frz_sl e52_ok (fun h => h)) (a2c .s a2n))))) (a2c (.z (frz_sl encI_ok (fun h => h))) a2n)) akn (akc (.inr rfl) (akc (.inr rfl) akn)) (bck_tp (a2c (.rf (memP_mem (p := (1001026, 515)) rfl)) (a2c (.rf (memP_mem (p := (2001026, 519)) rfl)) a2n))) (akc ⟨_, _, rfl, rfl, rowB encI_c _⟩ (akc ⟨_, _, rfl, rfl, rowB encB_c _⟩ akn)) (fun h => absurd h (by decide))) aln)) (acal (impl_work.J k a0 a1 _ hx3) nocal) ?_
      refine .reg' [1, 2, 3, 7, 8, 9] [] ⟨[(1, (.sl true a1.length 1 (a1.flatMap encI))), (2, (I a2)), (3, (.pt 256 0 3)), (7, (.rf 1001026 0 x3.1.length 1 (x3.1.length * 1))), (8, (.rf 2001026 0 x3.2.length 1 (x3.2.length * 1))), (9, (.rf 1280 0 (([] : List Int).length) 1 (([] : List Int).length * 1)))], [(256, [(.sl true a0.f0.length 1 (a0.f0.flatMap encI)), (.sl true a0.f1.length 4 (a0.f1.flatMap e52)), (I a0.f2)]), (2001026, (x3.2.flatMap encB)), (1001026, (x3.1.flatMap encI)), (1280, (([] : List Int).flatMap encI))], [], []⟩ [l_ 124, b_ 0, c_ 63] aln nocal ?_
      exact ih0 a0 a1 x3 ([] : List Int) a2 _ h
    · rw [if_neg c2] at h
      refine .cond' (.tmp 22) true [c_ 52, c_ 53, c_ 7] (bT (nT (vF c2))) ?_
      refine .reg' [6] [] ⟨[(6, nilS)], [(256, [(.sl true a0.f0.length 1 (a0.f0.flatMap encI)), (.sl true a0.f1.length 4 (a0.f1.flatMap e52)), (I a0.f2)])], [], []⟩ [c_ 53, c_ 7] aln nocal ?_
      have h := Option.some.inj h
      subst h
      refine .nl' 1280 ?_
      exact .fin' [] [(1280, 1280)] nilS [] aln (shc 1280 (rowF encI_ok _) shn) (.nl (memP_mem (p := (1280, 1280)) rfl) rfl)
  · rw [if_neg c1] at h
    refine .reg' [1, 2, 3, 22] [.no, .no, .c ⟨51, [(.ag [(.sl true a0.f0.length 1 (a0.f0.flatMap encI)), (.sl true a0.f1.length 4 (a0.f1.flatMap e52)), (I a0.f2)]), (.sl true a1.length 1 (a1.flatMap encI))], [], (B x1), [], [], [], [], (B x1), []⟩, .no, .v (B true)] ⟨[(1, (.sl true a1.length 1 (a1.flatMap encI))), (2, (I a2)), (3, (.pt 256 0 3)), (22, (B true))], [(256, [(.sl true a0.f0.length 1 (a0.f0.flatMap encI)), (.sl true a0.f1.length 4 (a0.f1.flatMap e52)), (I a0.f2)])], [3 = 3 ∧ 0 + 3 ≤ 3, COK (hget [(256, [(.sl true a0.f0.length 1 (a0.f0.flatMap encI)), (.sl true a0.f1.length 4 (a0.f1.flatMap e52)), (I a0.f2)])]) [(.ag [(.sl true a0.f0.length 1 (a0.f0.flatMap encI)), (.sl true a0.f1.length 4 (a0.f1.flatMap e52)), (I a0.f2)]), (.sl true a1.length 1 (a1.flatMap encI))] ⟨51, [(.ag [(.sl true a0.f0.length 1 (a0.f0.flatMap encI)), (.sl true a0.f1.length 4 (a0.f1.flatMap e52)), (I a0.f2)]), (.sl true a1.length 1 (a1.flatMap encI))], [], (B x1), [], [], [], [], (B x1), []⟩, (B (!x1) : V) = B true], [⟨51, [(.ag [(.sl true a0.f0.length 1 (a0.f0.flatMap encI)), (.sl true a0.f1.length 4 (a0.f1.flatMap e52)), (I a0.f2)]), (.sl true a1.length 1 (a1.flatMap encI))], [], (B x1), [], [], [], [], (B x1), []⟩]⟩ [c_ 13, c_ 7] (alc ⟨rfl, by decide⟩ (alc (cok0 false (a2c (.z (frz_ag (a2c (frz_sl encI_ok (fun h => h)) (a2c (frz_sl e52_ok (fun h => h)) (a2c .s a2n))))) (a2c (.z (frz_sl encI_ok (fun h => h))) a2n)) (.z .s) (fun h => absurd h (by decide))) (alc (bT (nT (vF c1))) aln))) (acal (impl_playable.J k a0 a1 _ hx1) nocal) ?_
    refine .cond' (.tmp 22) true [c_ 52, c_ 53, c_ 7] (rfl) ?_
    refine .reg' [6] [] ⟨[(6, nilS)], [(256, [(.sl true a0.f0.length 1 (a0.f0.flatMap encI)), (.sl true a0.f1.length 4 (a0.f1.flatMap e52)), (I a0.f2)])], [], []⟩ [c_ 53, c_ 7] aln nocal ?_
    have h := Option.some.inj h
    subst h
    refine .nl' 1280 ?_
    exact .fin' [] [(1280, 1280)] nilS [] aln (shc 1280 (rowF encI_ok _) shn) (.nl (memP_mem (p := (1280, 1280)) rfl) rfl)
/-! spec_l01In: function 44 -/
def spec_l01In.f (a0 : Int) (a1 : Int) (a2 : Int) : Option Bool := (if a1 ≤ a0 then (some (decide (a0 ≤ a2))) else (some false))
theorem spec_l01In.J (a0 : Int) (a1 : Int) (a2 : Int) (r : Bool) (h : spec_l01In.f a0 a1 a2 = some r) : J prog (.call 44 [(I a0), (I a1), (I a2)] [] (B r) []) := by
  unfold spec_l01In.f at h
  refine .call' [c_ 2, c_ 3] ?_
  refine .reg' [0, 1, 2] [] ⟨[(0, (I a0)), (1, (I a1)), (2, (I a2))], [], [], []⟩ [c_ 6, c_ 7] aln nocal ?_
  by_cases c1 : a1 ≤ a0
  · rw [if_pos c1] at h
    refine .reg' [6] [.no, .no, .no, .v (B true)] ⟨[(6, (B (decide (a0 ≤ a2))))], [], [(B (decide (a1 ≤ a0)) : V) = B true], []⟩ [c_ 7] (alc (bT (dT c1)) aln) nocal ?_
    have h := Option.some.inj h
    subst h
    exact .fin0 [] (B (decide (a0 ≤ a2))) [] aln (.z .s)
  · rw [if_neg c1] at h
    refine .reg' [6] [.no, .no, .no, .v (B false)] ⟨[(6, (B false))], [], [(B (decide (a1 ≤ a0)) : V) = B false], []⟩ [c_ 7] (alc (bF (dF c1)) aln) nocal ?_
    have h := Option.some.inj h
    subst h
    exact .fin0 [] (B false) [] aln (.z .s)
/-! spec_WorkOk: function 14 -/
mutual
def spec_WorkOk.l0 : Nat → S29 → Int → Option Bool
 | 0, _, _ => none
 | k + 1, a0, x2 => (if x2 < (a0.f0.length : Int) then (if 0 ≤ x2 then ((spec_l01In.f (at_ a0.f0 x2) 0 100000).bind fun x3 => (if x3 = true then (spec_WorkOk.l0 k a0 (wrap64 (x2 + 1))) else (some false))) else none) else (spec_WorkOk.l1 k a0 0))
def spec_WorkOk.l1 : Nat → S29 → Int → Option Bool
 | 0, _, _ => none
 | k + 1, a0, x4 => (if x4 < (a0.f1.length : Int) then (if 0 ≤ x4 then ((spec_l01In.f ((at_ a0.f1 x4).f1) 0 (wrap64 ((a0.f0.length : Int) - 1))).bind fun x5 => (if x5 = true then ((spec_l01In.f ((at_ a0.f1 x4).f0) 0 (wrap64 ((at_ a0.f1 x4).f1 - 1))).bind fun x6 => (if x6 = true then ((spec_l01In.f ((at_ a0.f1 x4).f2) 0 1000).bind fun x7 => (if x7 = true then ((spec_l01In.f ((at_ a0.f1 x4).f3) 0 1).bind fun x8 => (if x8 = true then (if 0 ≤ (at_ a0.f1 x4).f0 then (if (at_ a0.f1 x4).f0 < (a0.f0.length : Int) then (if 0 ≤ (at_ a0.f1 x4).f1 then (if (at_ a0.f1 x4).f1 < (a0.f0.length : Int) then (if (wrap64 ((at_ a0.f0 (at_ a0.f1 x4).f0) + (at_ a0.f1 x4).f2)) > (at_ a0.f0 (at_ a0.f1 x4).f1) then (some false) else (spec_WorkOk.l1 k a0 (wrap64 (x4 + 1)))) else none) else none) else none) else none) else (some false))) else (some false))) else (some false))) else (some false))) else none) else (some true))
end
def spec_WorkOk.f (k : Nat) (a0 : S29) : Option Bool := (if (a0.f0.length : Int) > 60 then (some false) else (if (a0.f1.length : Int) > 150 then (some false) else ((spec_l01In.f a0.f2 0 60).bind fun x1 => (if x1 = true then (spec_WorkOk.l0 k a0 0) else (some false)))))
theorem spec_WorkOk.lab : ∀ k, (∀ (a0 : S29) (x2 : Int) (r : Bool), spec_WorkOk.l0 k a0 x2 = some r → J prog (.run 14 [] [l_ 58, b_ 0, c_ 15] [(1, (.pt 256 0 3)), (3, (I x2))] [(256, [(.sl true a0.f0.length 1 (a0.f0.flatMap encI)), (.sl true a0.f1.length 4 (a0.f1.flatMap e52)), (I a0.f2)])] (B r) [])) ∧ (∀ (a0 : S29) (x4 : Int) (r : Bool), spec_WorkOk.l1 k a0 x4 = some r → J prog (.run 14 [] [l_ 122, b_ 2, c_ 31] [(1, (.pt 256 0 3)), (4, (I x4))] [(256, [(.sl true a0.f0.length 1 (a0.f0.flatMap encI)), (.sl true a0.f1.length 4 (a0.f1.flatMap e52)), (I a0.f2)])] (B r) []))
 | 0 => ⟨(by intro a0 x2 r h; unfold spec_WorkOk.l0 at h; cases h), (by intro a0 x4 r h; unfold spec_WorkOk.l1 at h; cases h)⟩
 | k + 1 => by
  obtain ⟨ih0, ih1⟩ := spec_WorkOk.lab k
  refine ⟨?_, ?_⟩
  · intro a0 x2 r h
    unfold spec_WorkOk.l0 at h
    refine .loop' [c_ 464, c_ 465, c_ 233, l_ 58, b_ 0, c_ 15] ?_
    refine .reg' [1, 3, 26] [] ⟨[(1, (.pt 256 0 3)), (3, (I x2)), (26, (B (decide (x2 < (a0.f0.length : Int)))))], [(256, [(.sl true a0.f0.length 1 (a0.f0.flatMap encI)), (.sl true a0.f1.length 4 (a0.f1.flatMap e52)), (I a0.f2)])], [3 = 3 ∧ 0 + 1 ≤ 3], []⟩ [c_ 465, c_ 233, l_ 58, b_ 0, c_ 15] (alc ⟨rfl, by decide⟩ aln) nocal ?_
    by_cases c4 : x2 < (a0.f0.length : Int)
    · rw [if_pos c4] at h
      refine .cond' (.tmp 26) true [c_ 1864, c_ 1865, b_ 1, c_ 467, l_ 58, b_ 0, c_ 15] (bT (dT c4)) ?_
      by_cases c5 : 0 ≤ x2
      · rw [if_pos c5] at h
        obtain ⟨x3, hx3, h⟩ := Option.bind_eq_some_iff.mp h
        refine .reg' [1, 3, 35] [.no, .no, .no, .no, .v (I (at_ a0.f0 x2)), .c ⟨44, [(I (at_ a0.f0 x2)), (I 0), (I 100000)], [], (B x3), [], [], [], [], (B x3), []⟩] ⟨[(1, (.pt 256 0 3)), (3, (I x2)), (35, (B (!x3)))], [(256, [(.sl true a0.f0.length 1 (a0.f0.flatMap encI)), (.sl true a0.f1.length 4 (a0.f1.flatMap e52)), (I a0.f2)])], [3 = 3 ∧ 0 + 1 ≤ 3, (0 : Int) ≤ x2 ∧ x2 < (a0.f0.length : Int), rdC prog 3 ((a0.f0.flatMap encI).drop (x2.toNat * 1)) = (I (at_ a0.f0 x2)), 1 ≤ ((a0.f0.flatMap encI).drop (x2.toNat * 1)).length, COK (hget [(256, [(.sl true a0.f0.length 1 (a0.f0.flatMap encI)), (.sl true a0.f1.length 4 (a0.f1.flatMap e52)), (I a0.f2)])]) [(I (at_ a0.f0 x2)), (I 0), (I 100000)] ⟨44, [(I (at_ a0.f0 x2)), (I 0), (I 100000)], [], (B x3), [], [], [], [], (B x3), []⟩], [⟨44, [(I (at_ a0.f0 x2)), (I 0), (I 100000)], [], (B x3), [], [], [], [], (B x3), []⟩]⟩ [c_ 1865, b_ 1, c_ 467, l_ 58, b_ 0, c_ 15] (alc ⟨rfl, by decide⟩ (alc ⟨c5, c4⟩ (alc (ldC1 encI_ok rfl c5 c4) (alc (okI encI_ok c5 c4 (by decide)) (alc (cok0 false (a2c (.z .s) (a2c (.z .s) (a2c (.z .s) a2n))) (.z .s) (fun h => absurd h (by decide))) aln))))) (acal (spec_l01In.J (at_ a0.f0 x2) 0 100000 _ hx3) nocal) ?_
        by_cases c6 : x3 = true
        · rw [if_pos c6] at h
          refine .cond' (.tmp 35) false [c_ 467, l_ 58, b_ 0, c_ 15] (bF (nF c6)) ?_
          refine .reg' [1, 3] [] ⟨[(1, (.pt 256 0 3)), (3, (I (wrap64 (x2 + 1))))], [(256, [(.sl true a0.f0.length 1 (a0.f0.flatMap encI)), (.sl true a0.f1.length 4 (a0.f1.flatMap e52)), (I a0.f2)])], [], []⟩ [l_ 58, b_ 0, c_ 15] aln nocal ?_
          exact ih0 a0 (wrap64 (x2 + 1)) _ h
        · rw [if_neg c6] at h
          refine .cond' (.tmp 35) true [c_ 7460, c_ 7461, b_ 1, c_ 467, l_ 58, b_ 0, c_ 15] (bT (nT (vF c6))) ?_
          refine .reg' [2] [] ⟨[(2, (B false))], [(256, [(.sl true a0.f0.length 1 (a0.f0.flatMap encI)), (.sl true a0.f1.length 4 (a0.f1.flatMap e52)), (I a0.f2)])], [], []⟩ [c_ 7461, b_ 1, c_ 467, l_ 58, b_ 0, c_ 15] aln nocal ?_
          have h := Option.some.inj h
          subst h
          exact .fin0 [] (B false) [] aln (.z .s)
      · rw [if_neg c5] at h
        cases h
    · rw [if_neg c4] at h
      refine .cond' (.tmp 26) false [c_ 60, c_ 61, c_ 31] (bF (dF c4)) ?_
      refine .reg' [1, 4] [] ⟨[(1, (.pt 256 0 3)), (4, (I 0))], [(256, [(.sl true a0.f0.length 1 (a0.f0.flatMap encI)), (.sl true a0.f1.length 4 (a0.f1.flatMap e52)), (I a0.f2)])], [], []⟩ [l_ 122, b_ 2, c_ 31] aln nocal ?_
      exact ih1 a0 0 _ h
  · intro a0 x4 r h
    unfold spec_WorkOk.l1 at h
    refine .loop' [c_ 976, c_ 977, c_ 489, l_ 122, b_ 2, c_ 31] ?_
    refine .reg' [1, 4, 40] [] ⟨[(1, (.pt 256 0 3)), (4, (I x4)), (40, (B (decide (x4 < (a0.f1.length : Int)))))], [(256, [(.sl true a0.f0.length 1 (a0.f0.flatMap encI)), (.sl true a0.f1.length 4 (a0.f1.flatMap e52)), (I a0.f2)])], [3 = 3 ∧ 1 + 1 ≤ 3], []⟩ [c_ 977, c_ 489, l_ 122, b_ 2, c_ 31] (alc ⟨rfl, by decide⟩ aln) nocal ?_
    by_cases c7 : x4 < (a0.f1.length : Int)
    · rw [if_pos c7] at h
      refine .cond' (.tmp 40) true [c_ 3912, c_ 3913, b_ 3, c_ 979, l_ 122, b_ 2, c_ 31] (bT (dT c7)) ?_
      by_cases c8 : 0 ≤ x4
      · rw [if_pos c8] at h
        refine .reg' [1, 4, 5] [.no, .no, .no, .no, .v (.ag [(I (at_ a0.f1 x4).f0), (I (at_ a0.f1 x4).f1), (I (at_ a0.f1 x4).f2), (I (at_ a0.f1 x4).f3)])] ⟨[(1, (.pt 256 0 3)), (4, (I x4)), (5, (.pt 3077 0 4))], [(256, [(.sl true a0.f0.length 1 (a0.f0.flatMap encI)), (.sl true a0.f1.length 4 (a0.f1.flatMap e52)), (I a0.f2)]), (3077, [(I (at_ a0.f1 x4).f0), (I (at_ a0.f1 x4).f1), (I (at_ a0.f1 x4).f2), (I (at_ a0.f1 x4).f3)])], [3 = 3 ∧ 1 + 1 ≤ 3, (0 : Int) ≤ x4 ∧ x4 < (a0.f1.length : Int), rdC prog 53 ((a0.f1.flatMap e52).drop (x4.toNat * 4)) = (.ag [(I (at_ a0.f1 x4).f0), (I (at_ a0.f1 x4).f1), (I (at_ a0.f1 x4).f2), (I (at_ a0.f1 x4).f3)]), 4 ≤ ((a0.f1.flatMap e52).drop (x4.toNat * 4)).length, 4 = 4 ∧ 0 + 4 ≤ 4], []⟩ [c_ 15652, c_ 15653, c_ 7827, b_ 3, c_ 979, l_ 122, b_ 2, c_ 31] (alc ⟨rfl, by decide⟩ (alc ⟨c8, c7⟩ (alc (ldA e52_ok rfl rfl c8 c7) (alc (okI e52_ok c8 c7 (by decide)) (alc ⟨rfl, by decide⟩ aln))))) nocal ?_
        obtain ⟨x5, hx5, h⟩ := Option.bind_eq_some_iff.mp h
        by_cases c9 : x5 = true
        · rw [if_pos c9] at h
          obtain ⟨x6, hx6, h⟩ := Option.bind_eq_some_iff.mp h
          by_cases c10 : x6 = true
          · rw [if_pos c10] at h
            obtain ⟨x7, hx7, h⟩ := Option.bind_eq_some_iff.mp h
            by_cases c11 : x7 = true
            · rw [if_pos c11] at h
              obtain ⟨x8, hx8, h⟩ := Option.bind_eq_some_iff.mp h
              refine .reg' [1, 4, 5, 76] [.no, .no, .no, .no, .no, .no, .c ⟨44, [(I (at_ a0.f1 x4).f1), (I 0), (I (wrap64 ((a0.f0.length : Int) - 1)))], [], (B x5), [], [], [], [], (B x5), []⟩, .no, .v (B false), .no, .no, .no, .no, .no, .c ⟨44, [(I (at_ a0.f1 x4).f0), (I 0), (I (wrap64 ((at_ a0.f1 x4).f1 - 1)))], [], (B x6), [], [], [], [], (B x6), []⟩, .no, .no, .v (B false), .no, .no, .c ⟨44, [(I (at_ a0.f1 x4).f2), (I 0), (I 1000)], [], (B x7), [], [], [], [], (B x7), []⟩, .no, .no, .v (B false), .no, .no, .c ⟨44, [(I (at_ a0.f1 x4).f3), (I 0), (I 1)], [], (B x8), [], [], [], [], (B x8), []⟩] ⟨[(1, (.pt 256 0 3)), (4, (I x4)), (5, (.pt 3077 0 4)), (76, (B (!x8)))], [(256, [(.sl true a0.f0.length 1 (a0.f0.flatMap encI)), (.sl true a0.f1.length 4 (a0.f1.flatMap e52)), (I a0.f2)]), (3077, [(I (at_ a0.f1 x4).f0), (I (at_ a0.f1 x4).f1), (I (at_ a0.f1 x4).f2), (I (at_ a0.f1 x4).f3)])], [4 = 4 ∧ 1 + 1 ≤ 4, 3 = 3 ∧ 0 + 1 ≤ 3, COK (hget [(256, [(.sl true a0.f0.length 1 (a0.f0.flatMap encI)), (.sl true a0.f1.length 4 (a0.f1.flatMap e52)), (I a0.f2)]), (3077, [(I (at_ a0.f1 x4).f0), (I (at_ a0.f1 x4).f1), (I (at_ a0.f1 x4).f2), (I (at_ a0.f1 x4).f3)])]) [(I (at_ a0.f1 x4).f1), (I 0), (I (wrap64 ((a0.f0.length : Int) - 1)))] ⟨44, [(I (at_ a0.f1 x4).f1), (I 0), (I (wrap64 ((a0.f0.length : Int) - 1)))], [], (B x5), [], [], [], [], (B x5), []⟩, (B (!x5) : V) = B false, 4 = 4 ∧ 0 + 1 ≤ 4, 4 = 4 ∧ 1 + 1 ≤ 4, COK (hget [(256, [(.sl true a0.f0.length 1 (a0.f0.flatMap encI)), (.sl true a0.f1.length 4 (a0.f1.flatMap e52)), (I a0.f2)]), (3077, [(I (at_ a0.f1 x4).f0), (I (at_ a0.f1 x4).f1), (I (at_ a0.f1 x4).f2), (I (at_ a0.f1 x4).f3)])]) [(I (at_ a0.f1 x4).f0), (I 0), (I (wrap64 ((at_ a0.f1 x4).f1 - 1)))] ⟨44, [(I (at_ a0.f1 x4).f0), (I 0), (I (wrap64 ((at_ a0.f1 x4).f1 - 1)))], [], (B x6), [], [], [], [], (B x6), []⟩, (B (!x6) : V) = B false, 4 = 4 ∧ 2 + 1 ≤ 4, COK (hget [(256, [(.sl true a0.f0.length 1 (a0.f0.flatMap encI)), (.sl true a0.f1.length 4 (a0.f1.flatMap e52)), (I a0.f2)]), (3077, [(I (at_ a0.f1 x4).f0), (I (at_ a0.f1 x4).f1), (I (at_ a0.f1 x4).f2), (I (at_ a0.f1 x4).f3)])]) [(I (at_ a0.f1 x4).f2), (I 0), (I 1000)] ⟨44, [(I (at_ a0.f1 x4).f2), (I 0), (I 1000)], [], (B x7), [], [], [], [], (B x7), []⟩, (B (!x7) : V) = B false, 4 = 4 ∧ 3 + 1 ≤ 4, COK (hget [(256, [(.sl true a0.f0.length 1 (a0.f0.flatMap encI)), (.sl true a0.f1.length 4 (a0.f1.flatMap e52)), (I a0.f2)]), (3077, [(I (at_ a0.f1 x4).f0), (I (at_ a0.f1 x4).f1), (I (at_ a0.f1 x4).f2), (I (at_ a0.f1 x4).f3)])]) [(I (at_ a0.f1 x4).f3), (I 0), (I 1)] ⟨44, [(I (at_ a0.f1 x4).f3), (I 0), (I 1)], [], (B x8), [], [], [], [], (B x8), []⟩], [⟨44, [(I (at_ a0.f1 x4).f1), (I 0), (I (wrap64 ((a0.f0.length : Int) - 1)))], [], (B x5), [], [], [], [], (B x5), []⟩, ⟨44, [(I (at_ a0.f1 x4).f0), (I 0), (I (wrap64 ((at_ a0.f1 x4).f1 - 1)))], [], (B x6), [], [], [], [], (B x6), []⟩, ⟨44, [(I (at_ a0.f1 x4).f2), (I 0), (I 1000)], [], (B x7), [], [], [], [], (B x7), []⟩, ⟨44, [(I (at_ a0.f1 x4).f3), (I 0), (I 1)], [], (B x8), [], [], [], [], (B x8), []⟩]⟩ [c_ 15653, c_ 7827, b_ 3, c_ 979, l_ 122, b_ 2, c_ 31] (alc ⟨rfl, by decide⟩ (alc ⟨rfl, by decide⟩ (alc (cok0 false (a2c (.z .s) (a2c (.z .s) (a2c (.z .s) a2n))) (.z .s) (fun h => absurd h (by decide))) (alc (bF (nF c9)) (alc ⟨rfl, by decide⟩ (alc ⟨rfl, by decide⟩ (alc (cok0 false (a2c (.z .s) (a2c (.z .s) (a2c (.z .s) a2n))) (.z .s) (fun h => absurd h (by decide))) (alc (bF (nF c10)) (alc ⟨rfl, by decide⟩ (alc (cok0 false (a2c (.z .s) (a2c (.z .s) (a2c (.z .s) a2n))) (.z .s) (fun h => absurd h (by decide))) (alc (bF (nF c11)) (alc ⟨rfl, by decide⟩ (alc (cok0 false (a2c (.z .s) (a2c (.z .s) (a2c (.z .s) a2n))) (.z .s) (fun h => absurd h (by decide))) aln))))))))))))) (acal (spec_l01In.J ((at_ a0.f1 x4).f1) 0 (wrap64 ((a0.f0.length : Int) - 1)) _ hx5) (acal (spec_l01In.J ((at_ a0.f1 x4).f0) 0 (wrap64 ((at_ a0.f1 x4).f1 - 1)) _ hx6) (acal (spec_l01In.J ((at_ a0.f1 x4).f2) 0 1000 _ hx7) (acal (spec_l01In.J ((at_ a0.f1 x4).f3) 0 1 _ hx8) nocal)))) ?_
              by_cases c12 : x8 = true
              · rw [if_pos c12] at h
                refine .cond' (.tmp 76) false [c_ 15654, c_ 15655, b_ 3, c_ 979, l_ 122, b_ 2, c_ 31] (bF (nF c12)) ?_
                by_cases c13 : 0 ≤ (at_ a0.f1 x4).f0
                · rw [if_pos c13] at h
                  by_cases c14 : (at_ a0.f1 x4).f0 < (a0.f0.length : Int)
                  · rw [if_pos c14] at h
                    by_cases c15 : 0 ≤ (at_ a0.f1 x4).f1
                    · rw [if_pos c15] at h
                      by_cases c16 : (at_ a0.f1 x4).f1 < (a0.f0.length : Int)
                      · rw [if_pos c16] at h
                        refine .reg' [1, 4, 92] [.no, .no, .no, .no, .no, .v (I (at_ a0.f0 (at_ a0.f1 x4).f0)), .no, .no, .no, .no, .no, .no, .no, .no, .v (I (at_ a0.f0 (at_ a0.f1 x4).f1))] ⟨[(1, (.pt 256 0 3)), (4, (I x4)), (92, (B (decide ((wrap64 ((at_ a0.f0 (at_ a0.f1 x4).f0) + (at_ a0.f1 x4).f2)) > (at_ a0.f0 (at_ a0.f1 x4).f1)))))], [(256, [(.sl true a0.f0.length 1 (a0.f0.flatMap encI)), (.sl true a0.f1.length 4 (a0.f1.flatMap e52)), (I a0.f2)]), (3077, [(I (at_ a0.f1 x4).f0), (I (at_ a0.f1 x4).f1), (I (at_ a0.f1 x4).f2), (I (at_ a0.f1 x4).f3)])], [3 = 3 ∧ 0 + 1 ≤ 3, 4 = 4 ∧ 0 + 1 ≤ 4, (0 : Int) ≤ (at_ a0.f1 x4).f0 ∧ (at_ a0.f1 x4).f0 < (a0.f0.length : Int), rdC prog 3 ((a0.f0.flatMap encI).drop ((at_ a0.f1 x4).f0.toNat * 1)) = (I (at_ a0.f0 (at_ a0.f1 x4).f0)), 1 ≤ ((a0.f0.flatMap encI).drop ((at_ a0.f1 x4).f0.toNat * 1)).length, 4 = 4 ∧ 2 + 1 ≤ 4, 3 = 3 ∧ 0 + 1 ≤ 3, 4 = 4 ∧ 1 + 1 ≤ 4, (0 : Int) ≤ (at_ a0.f1 x4).f1 ∧ (at_ a0.f1 x4).f1 < (a0.f0.length : Int), rdC prog 3 ((a0.f0.flatMap encI).drop ((at_ a0.f1 x4).f1.toNat * 1)) = (I (at_ a0.f0 (at_ a0.f1 x4).f1)), 1 ≤ ((a0.f0.flatMap encI).drop ((at_ a0.f1 x4).f1.toNat * 1)).length], []⟩ [c_ 15655, b_ 3, c_ 979, l_ 122, b_ 2, c_ 31] (alc ⟨rfl, by decide⟩ (alc ⟨rfl, by decide⟩ (alc ⟨c13, c14⟩ (alc (ldC1 encI_ok rfl c13 c14) (alc (okI encI_ok c13 c14 (by decide)) (alc ⟨rfl, by decide⟩ (alc ⟨rfl, by decide⟩ (alc ⟨rfl, by decide⟩ (alc ⟨c15, c16⟩ (alc (ldC1 encI_ok rfl c15 c16) (alc (okI encI_ok c15 c16 (by decide)) aln))))))))))) nocal ?_
                        by_cases c17 : (wrap64 ((at_ a0.f0 (at_ a0.f1 x4).f0) + (at_ a0.f1 x4).f2)) > (at_ a0.f0 (at_ a0.f1 x4).f1)
                        · rw [if_pos c17] at h
                          refine .cond' (.tmp 92) true [c_ 62620, c_ 62621, b_ 3, c_ 979, l_ 122, b_ 2, c_ 31] (bT (dT c17)) ?_
                          refine .reg' [2] [] ⟨[(2, (B false))], [(256, [(.sl true a0.f0.length 1 (a0.f0.flatMap encI)), (.sl true a0.f1.length 4 (a0.f1.flatMap e52)), (I a0.f2)]), (3077, [(I (at_ a0.f1 x4).f0), (I (at_ a0.f1 x4).f1), (I (at_ a0.f1 x4).f2), (I (at_ a0.f1 x4).f3)])], [], []⟩ [c_ 62621, b_ 3, c_ 979, l_ 122, b_ 2, c_ 31] aln nocal ?_
                          have h := Option.some.inj h
                          subst h
                          exact .fin0 [] (B false) [] aln (.z .s)
                        · rw [if_neg c17] at h
                          refine .cond' (.tmp 92) false [c_ 979, l_ 122, b_ 2, c_ 31] (bF (dF c17)) ?_
                          refine .reg' [1, 4] [] ⟨[(1, (.pt 256 0 3)), (4, (I (wrap64 (x4 + 1))))], [(256, [(.sl true a0.f0.length 1 (a0.f0.flatMap encI)), (.sl true a0.f1.length 4 (a0.f1.flatMap e52)), (I a0.f2)]), (3077, [(I (at_ a0.f1 x4).f0), (I (at_ a0.f1 x4).f1), (I (at_ a0.f1 x4).f2), (I (at_ a0.f1 x4).f3)])], [], []⟩ [l_ 122, b_ 2, c_ 31] aln nocal ?_
                          refine .wk' [] [(256, 256)] [(1, (.pt 256 0 3)), (4, (I (wrap64 (x4 + 1))))] [(256, [(.sl true a0.f0.length 1 (a0.f0.flatMap encI)), (.sl true a0.f1.length 4 (a0.f1.flatMap e52)), (I a0.f2)])] (shc 256 (a2c (.z (frz_sl encI_ok (fun h => h))) (a2c (.z (frz_sl e52_ok (fun h => h))) (a2c (.z .s) a2n))) shn) (enc_ (.pt (memP_mem (p := (256, 256)) rfl)) (enc_ (.z .s) enn)) ?_
                          exact ih1 a0 (wrap64 (x4 + 1)) _ h
                      · rw [if_neg c16] at h
                        cases h
                    · rw [if_neg c15] at h
                      cases h
                  · rw [if_neg c14] at h
                    cases h
                · rw [if_neg c13] at h
                  cases h
              · rw [if_neg c12] at h
                refine .cond' (.tmp 76) true [c_ 62612, c_ 62613, c_ 7827, b_ 3, c_ 979, l_ 122, b_ 2, c_ 31] (bT (nT (vF c12))) ?_
                refine .reg' [2] [] ⟨[(2, (B false))], [(256, [(.sl true a0.f0.length 1 (a0.f0.flatMap encI)), (.sl true a0.f1.length 4 (a0.f1.flatMap e52)), (I a0.f2)]), (3077, [(I (at_ a0.f1 x4).f0), (I (at_ a0.f1 x4).f1), (I (at_ a0.f1 x4).f2), (I (at_ a0.f1 x4).f3)])], [], []⟩ [c_ 62613, c_ 7827, b_ 3, c_ 979, l_ 122, b_ 2, c_ 31] aln nocal ?_
                have h := Option.some.inj h
                subst h
                exact .fin0 [] (B false) [] aln (.z .s)
            · rw [if_neg c11] at h
              refine .reg' [1, 4, 5, 76] [.no, .no, .no, .no, .no, .no, .c ⟨44, [(I (at_ a0.f1 x4).f1), (I 0), (I (wrap64 ((a0.f0.length : Int) - 1)))], [], (B x5), [], [], [], [], (B x5), []⟩, .no, .v (B false), .no, .no, .no, .no, .no, .c ⟨44, [(I (at_ a0.f1 x4).f0), (I 0), (I (wrap64 ((at_ a0.f1 x4).f1 - 1)))], [], (B x6), [], [], [], [], (B x6), []⟩, .no, .no, .v (B false), .no, .no, .c ⟨44, [(I (at_ a0.f1 x4).f2), (I 0), (I 1000)], [], (B x7), [], [], [], [], (B x7), []⟩, .no, .no, .v (B true)] ⟨[(1, (.pt 256 0 3)), (4, (I x4)), (5, (.pt 3077 0 4)), (76, (B true))], [(256, [(.sl true a0.f0.length 1 (a0.f0.flatMap encI)), (.sl true a0.f1.length 4 (a0.f1.flatMap e52)), (I a0.f2)]), (3077, [(I (at_ a0.f1 x4).f0), (I (at_ a0.f1 x4).f1), (I (at_ a0.f1 x4).f2), (I (at_ a0.f1 x4).f3)])], [4 = 4 ∧ 1 + 1 ≤ 4, 3 = 3 ∧ 0 + 1 ≤ 3, COK (hget [(256, [(.sl true a0.f0.length 1 (a0.f0.flatMap encI)), (.sl true a0.f1.length 4 (a0.f1.flatMap e52)), (I a0.f2)]), (3077, [(I (at_ a0.f1 x4).f0), (I (at_ a0.f1 x4).f1), (I (at_ a0.f1 x4).f2), (I (at_ a0.f1 x4).f3)])]) [(I (at_ a0.f1 x4).f1), (I 0), (I (wrap64 ((a0.f0.length : Int) - 1)))] ⟨44, [(I (at_ a0.f1 x4).f1), (I 0), (I (wrap64 ((a0.f0.length : Int) - 1)))], [], (B x5), [], [], [], [], (B x5), []⟩, (B (!x5) : V) = B false, 4 = 4 ∧ 0 + 1 ≤ 4, 4 = 4 ∧ 1 + 1 ≤ 4, COK (hget [(256, [(.sl true a0.f0.length 1 (a0.f0.flatMap encI)), (.sl true a0.f1.length 4 (a0.f1.flatMap e52)), (I a0.f2)]), (3077, [(I (at_ a0.f1 x4).f0), (I (at_ a0.f1 x4).f1), (I (at_ a0.f1 x4).f2), (I (at_ a0.f1 x4).f3)])]) [(I (at_ a0.f1 x4).f0), (I 0), (I (wrap64 ((at_ a0.f1 x4).f1 - 1)))] ⟨44, [(I (at_ a0.f1 x4).f0), (I 0), (I (wrap64 ((at_ a0.f1 x4).f1 - 1)))], [], (B x6), [], [], [], [], (B x6), []⟩, (B (!x6) : V) = B false, 4 = 4 ∧ 2 + 1 ≤ 4, COK (hget [(256, [(.sl true a0.f0.length 1 (a0.f0.flatMap encI)), (.sl true a0.f1.length 4 (a0.f1.flatMap e52)), (I a0.f2)]), (3077, [(I (at_ a0.f1 x4).f0), (I (at_ a0.f1 x4).f1), (I (at_ a0.f1 x4).f2), (I (at_ a0.f1 x4).f3)])]) [(I (at_ a0.f1 x4).f2), (I 0), (I 1000)] ⟨44, [(I (at_ a0.f1 x4).f2), (I 0), (I 1000)], [], (B x7), [], [], [], [], (B x7), []⟩, (B (!x7) : V) = B true], [⟨44, [(I (at_ a0.f1 x4).f1), (I 0), (I (wrap64 ((a0.f0.length : Int) - 1)))], [], (B x5), [], [], [], [], (B x5), []⟩, ⟨44, [(I (at_ a0.f1 x4).f0), (I 0), (I (wrap64 ((at_ a0.f1 x4).f1 - 1)))], [], (B x6), [], [], [], [], (B x6), []⟩, ⟨44, [(I (at_ a0.f1 x4).f2), (I 0), (I 1000)], [], (B x7), [], [], [], [], (B x7), []⟩]⟩ [c_ 15653, c_ 7827, b_ 3, c_ 979, l_ 122, b_ 2, c_ 31] (alc ⟨rfl, by decide⟩ (alc ⟨rfl, by decide⟩ (alc (cok0 false (a2c (.z .s) (a2c (.z .s) (a2c (.z .s) a2n))) (.z .s) (fun h => absurd h (by decide))) (alc (bF (nF c9)) (alc ⟨rfl, by decide⟩ (alc ⟨rfl, by decide⟩ (alc (cok0 false (a2c (.z .s) (a2c (.z .s) (a2c (.z .s) a2n))) (.z .s) (fun h => absurd h (by decide))) (alc (bF (nF c10)) (alc ⟨rfl, by decide⟩ (alc (cok0 false (a2c (.z .s) (a2c (.z .s) (a2c (.z .s) a2n))) (.z .s) (fun h => absurd h (by decide))) (alc (bT (nT (vF c11))) aln))))))))))) (acal (spec_l01In.J ((at_ a0.f1 x4).f1) 0 (wrap64 ((a0.f0.length : Int) - 1)) _ hx5) (acal (spec_l01In.J ((at_ a0.f1 x4).f0) 0 (wrap64 ((at_ a0.f1 x4).f1 - 1)) _ hx6) (acal (spec_l01In.J ((at_ a0.f1 x4).f2) 0 1000 _ hx7) nocal))) ?_
              refine .cond' (.tmp 76) true [c_ 62612, c_ 62613, c_ 7827, b_ 3, c_ 979, l_ 122, b_ 2, c_ 31] (rfl) ?_
              refine .reg' [2] [] ⟨[(2, (B false))], [(256, [(.sl true a0.f0.length 1 (a0.f0.flatMap encI)), (.sl true a0.f1.length 4 (a0.f1.flatMap e52)), (I a0.f2)]), (3077, [(I (at_ a0.f1 x4).f0), (I (at_ a0.f1 x4).f1), (I (at_ a0.f1 x4).f2), (I (at_ a0.f1 x4).f3)])], [], []⟩ [c_ 62613, c_ 7827, b_ 3, c_ 979, l_ 122, b_ 2, c_ 31] aln nocal ?_
              have h := Option.some.inj h
              subst h
              exact .fin0 [] (B false) [] aln (.z .s)
          · rw [if_neg c10] at h
            refine .reg' [1, 4, 5, 76] [.no, .no, .no, .no, .no, .no, .c ⟨44, [(I (at_ a0.f1 x4).f1), (I 0), (I (wrap64 ((a0.f0.length : Int) - 1)))], [], (B x5), [], [], [], [], (B x5), []⟩, .no, .v (B false), .no, .no, .no, .no, .no, .c ⟨44, [(I (at_ a0.f1 x4).f0), (I 0), (I (wrap64 ((at_ a0.f1 x4).f1 - 1)))], [], (B x6), [], [], [], [], (B x6), []⟩, .no, .no, .v (B true)] ⟨[(1, (.pt 256 0 3)), (4, (I x4)), (5, (.pt 3077 0 4)), (76, (B true))], [(256, [(.sl true a0.f0.length 1 (a0.f0.flatMap encI)), (.sl true a0.f1.length 4 (a0.f1.flatMap e52)), (I a0.f2)]), (3077, [(I (at_ a0.f1 x4).f0), (I (at_ a0.f1 x4).f1), (I (at_ a0.f1 x4).f2), (I (at_ a0.f1 x4).f3)])], [4 = 4 ∧ 1 + 1 ≤ 4, 3 = 3 ∧ 0 + 1 ≤ 3, COK (hget [(256, [(.sl true a0.f0.length 1 (a0.f0.flatMap encI)), (.sl true a0.f1.length 4 (a0.f1.flatMap e52)), (I a0.f2)]), (3077, [(I (at_ a0.f1 x4).f0), (I (at_ a0.f1 x4).f1), (I (at_ a0.f1 x4).f2), (I (at_ a0.f1 x4).f3)])]) [(I (at_ a0.f1 x4).f1), (I 0), (I (wrap64 ((a0.f0.length : Int) - 1)))] ⟨44, [(I (at_ a0.f1 x4).f1), (I 0), (I (wrap64 ((a0.f0.length : Int) - 1)))], [], (B x5), [], [], [], [], (B x5), []⟩, (B (!x5) : V) = B false, 4 = 4 ∧ 0 + 1 ≤ 4, 4 = 4 ∧ 1 + 1 ≤ 4, COK (hget [(256, [(.sl true a0.f0.length 1 (a0.f0.flatMap encI)), (.sl true a0.f1.length 4 (a0.f1.flatMap e52)), (I a0.f2)]), (3077, [(I (at_ a0.f1 x4).f0), (I (at_ a0.f1 x4).f1), (I (at_ a0.f1 x4).f2), (I (at_ a0.f1 x4).f3)])]) [(I (at_ a0.f1 x4).f0), (I 0), (I (wrap64 ((at_ a0.f1 x4).f1 - 1)))] ⟨44, [(I (at_ a0.f1 x4).f0), (I 0), (I (wrap64 ((at_ a0.f1 x4).f1 - 1)))], [], (B x6), [], [], [], [], (B x6), []⟩, (B (!x6) : V) = B true], [⟨44, [(I (at_ a0.f1 x4).f1), (I 0), (I (wrap64 ((a0.f0.length : Int) - 1)))], [], (B x5), [], [], [], [], (B x5), []⟩, ⟨44, [(I (at_ a0.f1 x4).f0), (I 0), (I (wrap64 ((at_ a0.f1 x4).f1 - 1)))], [], (B x6), [], [], [], [], (B x6), []⟩]⟩ [c_ 15653, c_ 7827, b_ 3, c_ 979, l_ 122, b_ 2, c_ 31] (alc ⟨rfl, by decide⟩ (alc ⟨rfl, by decide⟩ (alc (cok0 false (a2c (.z .s) (a2c (.z .s) (a2c (.z .s) a2n))) (.z .s) (fun h => absurd h (by decide))) (alc (bF (nF c9)) (alc ⟨rfl, by decide⟩ (alc ⟨rfl, by decide⟩ (alc (cok0 false (a2c (.z .s) (a2c (.z .s) (a2c (.z .s) a2n))) (.z .s) (fun h => absurd h (by decide))) (alc (bT (nT (vF c10))) aln)))))))) (acal (spec_l01In.J ((at_ a0.f1 x4).f1) 0 (wrap64 ((a0.f0.length : Int) - 1)) _ hx5) (acal (spec_l01In.J ((at_ a0.f1 x4).f0) 0 (wrap64 ((at_ a0.f1 x4).f1 - 1)) _ hx6) nocal)) ?_
            refine .cond' (.tmp 76) true [c_ 62612, c_ 62613, c_ 7827, b_ 3, c_ 979, l_ 122, b_ 2, c_ 31] (rfl) ?_
            refine .reg' [2] [] ⟨[(2, (B false))], [(256, [(.sl true a0.f0.length 1 (a0.f0.flatMap encI)), (.sl true a0.f1.length 4 (a0.f1.flatMap e52)), (I a0.f2)]), (3077, [(I (at_ a0.f1 x4).f0), (I (at_ a0.f1 x4).f1), (I (at_ a0.f1 x4).f2), (I (at_ a0.f1 x4).f3)])], [], []⟩ [c_ 62613, c_ 7827, b_ 3, c_ 979, l_ 122, b_ 2, c_ 31] aln nocal ?_
            have h := Option.some.inj h
            subst h
            exact .fin0 [] (B false) [] aln (.z .s)
        · rw [if_neg c9] at h
          refine .reg' [1, 4, 5, 76] [.no, .no, .no, .no, .no, .no, .c ⟨44, [(I (at_ a0.f1 x4).f1), (I 0), (I (wrap64 ((a0.f0.length : Int) - 1)))], [], (B x5), [], [], [], [], (B x5), []⟩, .no, .v (B true)] ⟨[(1, (.pt 256 0 3)), (4, (I x4)), (5, (.pt 3077 0 4)), (76, (B true))], [(256, [(.sl true a0.f0.length 1 (a0.f0.flatMap encI)), (.sl true a0.f1.length 4 (a0.f1.flatMap e52)), (I a0.f2)]), (3077, [(I (at_ a0.f1 x4).f0), (I (at_ a0.f1 x4).f1), (I (at_ a0.f1 x4).f2), (I (at_ a0.f1 x4).f3)])], [4 = 4 ∧ 1 + 1 ≤ 4, 3 = 3 ∧ 0 + 1 ≤ 3, COK (hget [(256, [(.sl true a0.f0.length 1 (a0.f0.flatMap encI)), (.sl true a0.f1.length 4 (a0.f1.flatMap e52)), (I a0.f2)]), (3077, [(I (at_ a0.f1 x4).f0), (I (at_ a0.f1 x4).f1), (I (at_ a0.f1 x4).f2), (I (at_ a0.f1 x4).f3)])]) [(I (at_ a0.f1 x4).f1), (I 0), (I (wrap64 ((a0.f0.length : Int) - 1)))] ⟨44, [(I (at_ a0.f1 x4).f1), (I 0), (I (wrap64 ((a0.f0.length : Int) - 1)))], [], (B x5), [], [], [], [], (B x5), []⟩, (B (!x5) : V) = B true], [⟨44, [(I (at_ a0.f1 x4).f1), (I 0), (I (wrap64 ((a0.f0.length : Int) - 1)))], [], (B x5), [], [], [], [], (B x5), []⟩]⟩ [c_ 15653, c_ 7827, b_ 3, c_ 979, l_ 122, b_ 2, c_ 31] (alc ⟨rfl, by decide⟩ (alc ⟨rfl, by decide⟩ (alc (cok0 false (a2c (.z .s) (a2c (.z .s) (a2c (.z .s) a2n))) (.z .s) (fun h => absurd h (by decide))) (alc (bT (nT (vF c9))) aln)))) (acal (spec_l01In.J ((at_ a0.f1 x4).f1) 0 (wrap64 ((a0.f0.length : Int) - 1)) _ hx5) nocal) ?_
          refine .cond' (.tmp 76) true [c_ 62612, c_ 62613, c_ 7827, b_ 3, c_ 979, l_ 122, b_ 2, c_ 31] (rfl) ?_
          refine .reg' [2] [] ⟨[(2, (B false))], [(256, [(.sl true a0.f0.length 1 (a0.f0.flatMap encI)), (.sl true a0.f1.length 4 (a0.f1.flatMap e52)), (I a0.f2)]), (3077, [(I (at_ a0.f1 x4).f0), (I (at_ a0.f1 x4).f1), (I (at_ a0.f1 x4).f2), (I (at_ a0.f1 x4).f3)])], [], []⟩ [c_ 62613, c_ 7827, b_ 3, c_ 979, l_ 122, b_ 2, c_ 31] aln nocal ?_
          have h := Option.some.inj h
          subst h
          exact .fin0 [] (B false) [] aln (.z .s)
      · rw [if_neg c8] at h
        cases h
    · rw [if_neg c7] at h
      refine .cond' (.tmp 40) false [c_ 62, c_ 63] (bF (dF c7)) ?_
      refine .reg' [2] [] ⟨[(2, (B true))], [(256, [(.sl true a0.f0.length 1 (a0.f0.flatMap encI)), (.sl true a0.f1.length 4 (a0.f1.flatMap e52)), (I a0.f2)])], [], []⟩ [c_ 63] aln nocal ?_
      have h := Option.some.inj h
      subst h
      exact .fin0 [] (B true) [] aln (.z .s)
theorem spec_WorkOk.J (k : Nat) (a0 : S29) (r : Bool) (h : spec_WorkOk.f k a0 = some r) : J prog (.call 14 [(.ag [(.sl true a0.f0.length 1 (a0.f0.flatMap encI)), (.sl true a0.f1.length 4 (a0.f1.flatMap e52)), (I a0.f2)])] [] (B r) []) := by
  unfold spec_WorkOk.f at h
  obtain ⟨ih0, ih1⟩ := spec_WorkOk.lab k
  refine .call' [c_ 2, c_ 3] ?_
  refine .reg' [1] [] ⟨[(1, (.pt 256 0 3))], [(256, [(.sl true a0.f0.length 1 (a0.f0.flatMap encI)), (.sl true a0.f1.length 4 (a0.f1.flatMap e52)), (I a0.f2)])], [], []⟩ [c_ 12, c_ 13, c_ 7] aln nocal ?_
  by_cases c1 : (a0.f0.length : Int) > 60
  · rw [if_pos c1] at h
    refine .reg' [1, 21] [.no, .no, .no, .no, .v (B true)] ⟨[(1, (.pt 256 0 3)), (21, (B true))], [(256, [(.sl true a0.f0.length 1 (a0.f0.flatMap encI)), (.sl true a0.f1.length 4 (a0.f1.flatMap e52)), (I a0.f2)])], [3 = 3 ∧ 0 + 1 ≤ 3, (B (decide ((a0.f0.length : Int) > 60)) : V) = B true], []⟩ [c_ 13, c_ 7] (alc ⟨rfl, by decide⟩ (alc (bT (dT c1)) aln)) nocal ?_
    refine .cond' (.tmp 21) true [c_ 52, c_ 53, c_ 7] (rfl) ?_
    refine .reg' [2] [] ⟨[(2, (B false))], [(256, [(.sl true a0.f0.length 1 (a0.f0.flatMap encI)), (.sl true a0.f1.length 4 (a0.f1.flatMap e52)), (I a0.f2)])], [], []⟩ [c_ 53, c_ 7] aln nocal ?_
    have h := Option.some.inj h
    subst h
    exact .fin0 [] (B false) [] aln (.z .s)
  · rw [if_neg c1] at h
    by_cases c2 : (a0.f1.length : Int) > 150
    · rw [if_pos c2] at h
      refine .reg' [1, 21] [.no, .no, .no, .no, .v (B false), .no, .no, .no, .no, .no, .v (B true)] ⟨[(1, (.pt 256 0 3)), (21, (B true))], [(256, [(.sl true a0.f0.length 1 (a0.f0.flatMap encI)), (.sl true a0.f1.length 4 (a0.f1.flatMap e52)), (I a0.f2)])], [3 = 3 ∧ 0 + 1 ≤ 3, (B (decide ((a0.f0.length : Int) > 60)) : V) = B false, 3 = 3 ∧ 1 + 1 ≤ 3, (B (decide ((a0.f1.length : Int) > 150)) : V) = B true], []⟩ [c_ 13, c_ 7] (alc ⟨rfl, by decide⟩ (alc (bF (dF c1)) (alc ⟨rfl, by decide⟩ (alc (bT (dT c2)) aln)))) nocal ?_
      refine .cond' (.tmp 21) true [c_ 52, c_ 53, c_ 7] (rfl) ?_
      refine .reg' [2] [] ⟨[(2, (B false))], [(256, [(.sl true a0.f0.length 1 (a0.f0.flatMap encI)), (.sl true a0.f1.length 4 (a0.f1.flatMap e52)), (I a0.f2)])], [], []⟩ [c_ 53, c_ 7] aln nocal ?_
      have h := Option.some.inj h
      subst h
      exact .fin0 [] (B false) [] aln (.z .s)
    · rw [if_neg c2] at h
      obtain ⟨x1, hx1, h⟩ := Option.bind_eq_some_iff.mp h
      refine .reg' [1, 21] [.no, .no, .no, .no, .v (B false), .no, .no, .no, .no, .no, .v (B false), .no, .no, .c ⟨44, [(I a0.f2), (I 0), (I 60)], [], (B x1), [], [], [], [], (B x1), []⟩] ⟨[(1, (.pt 256 0 3)), (21, (B (!x1)))], [(256, [(.sl true a0.f0.length 1 (a0.f0.flatMap encI)), (.sl true a0.f1.length 4 (a0.f1.flatMap e52)), (I a0.f2)])], [3 = 3 ∧ 0 + 1 ≤ 3, (B (decide ((a0.f0.length : Int) > 60)) : V) = B false, 3 = 3 ∧ 1 + 1 ≤ 3, (B (decide ((a0.f1.length : Int) > 150)) : V) = B false, 3 = 3 ∧ 2 + 1 ≤ 3, COK (hget [(256, [(.sl true a0.f0.length 1 (a0.f0.flatMap encI)), (.sl true a0.f1.length 4 (a0.f1.flatMap e52)), (I a0.f2)])]) [(I a0.f2), (I 0), (I 60)] ⟨44, [(I a0.f2), (I 0), (I 60)], [], (B x1), [], [], [], [], (B x1), []⟩], [⟨44, [(I a0.f2), (I 0), (I 60)], [], (B x1), [], [], [], [], (B x1), []⟩]⟩ [c_ 13, c_ 7] (alc ⟨rfl, by decide⟩ (alc (bF (dF c1)) (alc ⟨rfl, by decide⟩ (alc (bF (dF c2)) (alc ⟨rfl, by decide⟩ (alc (cok0 false (a2c (.z .s) (a2c (.z .s) (a2c (.z .s) a2n))) (.z .s) (fun h => absurd h (by decide))) aln)))))) (acal (spec_l01In.J a0.f2 0 60 _ hx1) nocal) ?_
      by_cases c3 : x1 = true
      · rw [if_pos c3] at h
        refine .cond' (.tmp 21) false [c_ 28, c_ 29, c_ 15] (bF (nF c3)) ?_
        refine .reg' [1, 3] [] ⟨[(1, (.pt 256 0 3)), (3, (I 0))], [(256, [(.sl true a0.f0.length 1 (a0.f0.flatMap encI)), (.sl true a0.f1.length 4 (a0.f1.flatMap e52)), (I a0.f2)])], [], []⟩ [l_ 58, b_ 0, c_ 15] aln nocal ?_
        exact ih0 a0 0 _ h
      · rw [if_neg c3] at h
        refine .cond' (.tmp 21) true [c_ 52, c_ 53, c_ 7] (bT (nT (vF c3))) ?_
        refine .reg' [2] [] ⟨[(2, (B false))], [(256, [(.sl true a0.f0.length 1 (a0.f0.flatMap encI)), (.sl true a0.f1.length 4 (a0.f1.flatMap e52)), (I a0.f2)])], [], []⟩ [c_ 53, c_ 7] aln nocal ?_
        have h := Option.some.inj h
        subst h
        exact .fin0 [] (B false) [] aln (.z .s)
/-! spec_l11Late: function 49 -/
def spec_l11Late.l0 : Nat → (List Int) → Int → Option Bool
 | 0, _, _ => none
 | k + 1, a1, x1 => (if x1 < (a1.length : Int) then (if 0 ≤ x1 then ((spec_l01In.f (at_ a1 x1) 0 10000).bind fun x2 => (if x2 = true then (spec_l11Late.l0 k a1 (wrap64 (x1 + 1))) else (some false))) else none) else (some true))
def spec_l11Late.f (k : Nat) (a0 : S29) (a1 : (List Int)) : Option Bool := (if (a1.length : Int) = (a0.f0.length : Int) then (spec_l11Late.l0 k a1 0) else (some false))
theorem spec_l11Late.lab : ∀ k, (∀ (a1 : (List Int)) (x1 : Int) (r : Bool), spec_l11Late.l0 k a1 x1 = some r → J prog (.run 49 [] [l_ 58, b_ 0, c_ 15] [(1, (.sl true a1.length 1 (a1.flatMap encI))), (5, (I x1))] [] (B r) []))
 | 0 => (by intro a1 x1 r h; unfold spec_l11Late.l0 at h; cases h)
 | k + 1 => by
  have ih0 := spec_l11Late.lab k
  · intro a1 x1 r h
    unfold spec_l11Late.l0 at h
    refine .loop' [c_ 464, c_ 465, c_ 233, l_ 58, b_ 0, c_ 15] ?_
    refine .reg' [1, 5, 15] [] ⟨[(1, (.sl true a1.length 1 (a1.flatMap encI))), (5, (I x1)), (15, (B (decide (x1 < (a1.length : Int)))))], [], [], []⟩ [c_ 465, c_ 233, l_ 58, b_ 0, c_ 15] aln nocal ?_
    by_cases c2 : x1 < (a1.length : Int)
    · rw [if_pos c2] at h
      refine .cond' (.tmp 15) true [c_ 1864, c_ 1865, b_ 1, c_ 467, l_ 58, b_ 0, c_ 15] (bT (dT c2)) ?_
      by_cases c3 : 0 ≤ x1
      · rw [if_pos c3] at h
        obtain ⟨x2, hx2, h⟩ := Option.bind_eq_some_iff.mp h
        refine .reg' [1, 5, 23] [.no, .no, .no, .v (I (at_ a1 x1)), .c ⟨44, [(I (at_ a1 x1)), (I 0), (I 10000)], [], (B x2), [], [], [], [], (B x2), []⟩] ⟨[(1, (.sl true a1.length 1 (a1.flatMap encI))), (5, (I x1)), (23, (B (!x2)))], [], [(0 : Int) ≤ x1 ∧ x1 < (a1.length : Int), rdC prog 3 ((a1.flatMap encI).drop (x1.toNat * 1)) = (I (at_ a1 x1)), 1 ≤ ((a1.flatMap encI).drop (x1.toNat * 1)).length, COK (hget []) [(I (at_ a1 x1)), (I 0), (I 10000)] ⟨44, [(I (at_ a1 x1)), (I 0), (I 10000)], [], (B x2), [], [], [], [], (B x2), []⟩], [⟨44, [(I (at_ a1 x1)), (I 0), (I 10000)], [], (B x2), [], [], [], [], (B x2), []⟩]⟩ [c_ 1865, b_ 1, c_ 467, l_ 58, b_ 0, c_ 15] (alc ⟨c3, c2⟩ (alc (ldC1 encI_ok rfl c3 c2) (alc (okI encI_ok c3 c2 (by decide)) (alc (cok0 false (a2c (.z .s) (a2c (.z .s) (a2c (.z .s) a2n))) (.z .s) (fun h => absurd h (by decide))) aln)))) (acal (spec_l01In.J (at_ a1 x1) 0 10000 _ hx2) nocal) ?_
        by_cases c4 : x2 = true
        · rw [if_pos c4] at h
          refine .cond' (.tmp 23) false [c_ 467, l_ 58, b_ 0, c_ 15] (bF (nF c4)) ?_
          refine .reg' [1, 5] [] ⟨[(1, (.sl true a1.length 1 (a1.flatMap encI))), (5, (I (wrap64 (x1 + 1))))], [], [], []⟩ [l_ 58, b_ 0, c_ 15] aln nocal ?_
          exact ih0 a1 (wrap64 (x1 + 1)) _ h
        · rw [if_neg c4] at h
          refine .cond' (.tmp 23) true [c_ 7460, c_ 7461, b_ 1, c_ 467, l_ 58, b_ 0, c_ 15] (bT (nT (vF c4))) ?_
          refine .reg' [4] [] ⟨[(4, (B false))], [], [], []⟩ [c_ 7461, b_ 1, c_ 467, l_ 58, b_ 0, c_ 15] aln nocal ?_
          have h := Option.some.inj h
          subst h
          exact .fin0 [] (B false) [] aln (.z .s)
      · rw [if_neg c3] at h
        cases h
    · rw [if_neg c2] at h
      refine .cond' (.tmp 15) false [c_ 30, c_ 31] (bF (dF c2)) ?_
      refine .reg' [4] [] ⟨[(4, (B true))], [], [], []⟩ [c_ 31] aln nocal ?_
      have h := Option.some.inj h
      subst h
      exact .fin0 [] (B true) [] aln (.z .s)
theorem spec_l11Late.J (k : Nat) (a0 : S29) (a1 : (List Int)) (r : Bool) (h : spec_l11Late.f k a0 a1 = some r) : J prog (.call 49 [(.ag [(.sl true a0.f0.length 1 (a0.f0.flatMap encI)), (.sl true a0.f1.length 4 (a0.f1.flatMap e52)), (I a0.f2)]), (.sl true a1.length 1 (a1.flatMap encI))] [] (B r) []) := by
  unfold spec_l11Late.f at h
  have ih0 := spec_l11Late.lab k
  refine .call' [c_ 2, c_ 3] ?_
  refine .reg' [1, 2] [] ⟨[(1, (.sl true a1.length 1 (a1.flatMap encI))), (2, (.pt 256 0 3))], [(256, [(.sl true a0.f0.length 1 (a0.f0.flatMap encI)), (.sl true a0.f1.length 4 (a0.f1.flatMap e52)), (I a0.f2)])], [], []⟩ [c_ 12, c_ 13, c_ 7] aln nocal ?_
  refine .reg' [1, 11] [] ⟨[(1, (.sl true a1.length 1 (a1.flatMap encI))), (11, (B (!((a1.length : Int) == (a0.f0.length : Int)))))], [(256, [(.sl true a0.f0.length 1 (a0.f0.flatMap encI)), (.sl true a0.f1.length 4 (a0.f1.flatMap e52)), (I a0.f2)])], [3 = 3 ∧ 0 + 1 ≤ 3], []⟩ [c_ 13, c_ 7] (alc ⟨rfl, by decide⟩ aln) nocal ?_
  by_cases c1 : (a1.length : Int) = (a0.f0.length : Int)
  · rw [if_pos c1] at h
    refine .cond' (.tmp 11) false [c_ 28, c_ 29, c_ 15] (bF (nF (qT c1))) ?_
    refine .reg' [1, 5] [] ⟨[(1, (.sl true a1.length 1 (a1.flatMap encI))), (5, (I 0))], [(256, [(.sl true a0.f0.length 1 (a0.f0.flatMap encI)), (.sl true a0.f1.length 4 (a0.f1.flatMap e52)), (I a0.f2)])], [], []⟩ [l_ 58, b_ 0, c_ 15] aln nocal ?_
    refine .wk' [] [] [(1, (.sl true a1.length 1 (a1.flatMap encI))), (5, (I 0))] [] shn (enc_ (.z (frz_sl encI_ok (fun h => h))) (enc_ (.z .s) enn)) ?_
    exact ih0 a1 0 _ h
  · rw [if_neg c1] at h
    refine .cond' (.tmp 11) true [c_ 52, c_ 53, c_ 7] (bT (nT (qF c1))) ?_
    refine .reg' [4] [] ⟨[(4, (B false))], [(256, [(.sl true a0.f0.length 1 (a0.f0.flatMap encI)), (.sl true a0.f1.length 4 (a0.f1.flatMap e52)), (I a0.f2)])], [], []⟩ [c_ 53, c_ 7] aln nocal ?_
    have h := Option.some.inj h
    subst h
    exact .fin0 [] (B false) [] aln (.z .s)
/-! spec_l11Play: function 50 -/
mutual
def spec_l11Play.l0 : Nat → S29 → (List Int) → (List Bool) → Int → Option ((List Int) × (List Bool))
 | 0, _, _, _, _ => none
 | k + 1, a0, a1, x1, x2 => (if x2 < (a0.f1.length : Int) then (if 0 ≤ x2 then (if (x1.length + ([((at_ a0.f1 x2).f3 == 0)] : List Bool).length) * 1 ≤ 70368744177664 then (spec_l11Play.l0 k a0 a1 (x1 ++ ([((at_ a0.f1 x2).f3 == 0)] : List Bool)) (wrap64 (x2 + 1))) else none) else none) else (spec_l11Play.l1 k a0 a1 ([] : List Int) x1 0))
def spec_l11Play.l1 : Nat → S29 → (List Int) → (List Int) → (List Bool) → Int → Option ((List Int) × (List Bool))
 | 0, _, _, _, _, _ => none
 | k + 1, a0, a1, x3, x4, x5 => (if x5 < (a0.f0.length : Int) then (if 0 ≤ x5 then (spec_l11Play.l2 k a0 a1 x3 x4 x5 (at_ a0.f0 x5) 0) else none) else (some (x3, x4)))
def spec_l11Play.l2 : Nat → S29 → (List Int) → (List Int) → (List Bool) → Int → Int → Int → Option ((List Int) × (List Bool))
 | 0, _, _, _, _, _, _, _ => none
 | k + 1, a0, a1, x3, x4, x5, x6, x7 => (if x7 < (a0.f1.length : Int) then (if 0 ≤ x7 then (if (at_ a0.f1 x7).f1 = x5 then (if (at_ a0.f1 x7).f3 = 0 then (if 0 ≤ (at_ a0.f1 x7).f0 then (if (at_ a0.f1 x7).f0 < (x3.length : Int) then (if (wrap64 ((at_ x3 (at_ a0.f1 x7).f0) + (at_ a0.f1 x7).f2)) > x6 then (spec_l11Play.l2 k a0 a1 x3 x4 x5 (wrap64 ((at_ x3 (at_ a0.f1 x7).f0) + (at_ a0.f1 x7).f2)) (wrap64 (x7 + 1))) else (spec_l11Play.l2 k a0 a1 x3 x4 x5 x6 (wrap64 (x7 + 1)))) else none) else none) else (spec_l11Play.l2 k a0 a1 x3 x4 x5 x6 (wrap64 (x7 + 1)))) else (spec_l11Play.l2 k a0 a1 x3 x4 x5 x6 (wrap64 (x7 + 1)))) else none) else (spec_l11Play.l3 k a0 a1 x3 x5 x6 x4 x6 0))
def spec_l11Play.l3 : Nat → S29 → (List Int) → (List Int) → Int → Int → (List Bool) → Int → Int → Option ((List Int) × (List Bool))
 | 0, _, _, _, _, _, _, _, _ => none
 | k + 1, a0, a1, x3, x5, x6, x8, x9, x10 => (if x10 < (a0.f1.length : Int) then (if 0 ≤ x10 then (if (at_ a0.f1 x10).f1 = x5 then (if (at_ a0.f1 x10).f3 = 1 then (if 0 ≤ (at_ a0.f1 x10).f0 then (if (at_ a0.f1 x10).f0 < (x3.length : Int) then (if (wrap64 ((at_ x3 (at_ a0.f1 x10).f0) + (at_ a0.f1 x10).f2)) ≤ (wrap64 (x6 + a0.f2)) then (if x10 < (x8.length : Int) then (if (wrap64 ((at_ x3 (at_ a0.f1 x10).f0) + (at_ a0.f1 x10).f2)) > x9 then (spec_l11Play.l3 k a0 a1 x3 x5 x6 (x8.set x10.toNat true) (wrap64 ((at_ x3 (at_ a0.f1 x10).f0) + (at_ a0.f1 x10).f2)) (wrap64 (x10 + 1))) else (spec_l11Play.l3 k a0 a1 x3 x5 x6 (x8.set x10.toNat true) x9 (wrap64 (x10 + 1)))) else none) else (spec_l11Play.l3 k a0 a1 x3 x5 x6 x8 x9 (wrap64 (x10 + 1)))) else none) else none) else (spec_l11Play.l3 k a0 a1 x3 x5 x6 x8 x9 (wrap64 (x10 + 1)))) else (spec_l11Play.l3 k a0 a1 x3 x5 x6 x8 x9 (wrap64 (x10 + 1)))) else none) else (if 0 ≤ x5 then (if x5 < (a1.length : Int) then (if (x3.length + ([(wrap64 (x9 + (at_ a1 x5)))] : List Int).length) * 8 ≤ 70368744177664 then (spec_l11Play.l1 k a0 a1 (x3 ++ ([(wrap64 (x9 + (at_ a1 x5)))] : List Int)) x8 (wrap64 (x5 + 1))) else none) else none) else none))
end
def spec_l11Play.f (k : Nat) (a0 : S29) (a1 : (List Int)) : Option ((List Int) × (List Bool)) := (spec_l11Play.l0 k a0 a1 ([] : List Bool) 0)
end Go.Proofs.Ytomkglmlhoaniaa.Fns
