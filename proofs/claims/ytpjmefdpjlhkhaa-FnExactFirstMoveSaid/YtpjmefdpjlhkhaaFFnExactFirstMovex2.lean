/- The functions that the law FnExactFirstMove reaches, by the engine. Printed by a program of this seat. -/
import Derived.Test.YtpjmefdpjlhkhaaE5
import Derived.Test.YtpjmefdpjlhkhaaProg
import Derived.Test.YtpjmefdpjlhkhaaFFnExactFirstMovex1
namespace Go.Proofs.Ytpjmefdpjlhkhaa.Fns
open Go.Proofs.Try Go.Proofs.Ytpjmefdpjlhkhaa.Eng Go.RowKit
set_option maxRecDepth 100000
set_option linter.unusedVariables false
set_option linter.unusedSimpArgs false
theorem impl_search_first.lab : ∀ k, (∀ (a0 : S65) (a1 : (List S44)) (r : (Int × S65 × (List (List Int)))), impl_search_first.f k a0 a1 = some r → J prog (.call 53 [(.pt 0 0 2), (.sl true a1.length 2 (a1.flatMap e44))] [(0, [(.sl true a0.f0.length 1 (a0.f0.flatMap encI)), (.pt 2000000001 0 1)]), (2000000001, (mrow a0.f1))] (I r.1) [(0, [(.sl true r.2.1.f0.length 1 (r.2.1.f0.flatMap encI)), (.pt 2000000001 0 1)]), (2000000001, (mrow r.2.2))])) ∧ (∀ (a1 : (List S44)) (x1 : (List Int)) (x2 : (List (List Int))) (x3 : Int) (r : (Int × S65 × (List (List Int)))), impl_search_first.l0 k a1 x1 x2 x3 = some r → J prog (.run 53 [0, 2000000001] [l_ 26, b_ 0, c_ 7] [(0, (.pt 0 0 2)), (1, (.sl true a1.length 2 (a1.flatMap e44))), (7, (I (a1.length : Int))), (8, (I x3))] [(0, [(.sl true x1.length 1 (x1.flatMap encI)), (.pt 2000000001 0 1)]), (2000000001, (mrow x2))] (I r.1) [(0, [(.sl true r.2.1.f0.length 1 (r.2.1.f0.flatMap encI)), (.pt 2000000001 0 1)]), (2000000001, (mrow r.2.2))])) ∧ (∀ (a0 : S65) (a1 : (List S44)) (r : (Bool × S65 × (List (List Int)))), impl_search_canFinish.f k a0 a1 = some r → J prog (.call 52 [(.pt 0 0 2), (.sl true a1.length 2 (a1.flatMap e44))] [(0, [(.sl true a0.f0.length 1 (a0.f0.flatMap encI)), (.pt 2000000001 0 1)]), (2000000001, (mrow a0.f1))] (B r.1) [(0, [(.sl true r.2.1.f0.length 1 (r.2.1.f0.flatMap encI)), (.pt 2000000001 0 1)]), (2000000001, (mrow r.2.2))])) ∧ (∀ (a0 : S65) (a1 : (List S44)) (x2 : (List Int)) (x3 : Int) (r : (Bool × S65 × (List (List Int)))), impl_search_canFinish.l0 k a0 a1 x2 x3 = some r → J prog (.run 52 [0, 2000000001] [l_ 122, b_ 0, c_ 31] [(0, (.pt 0 0 2)), (1, (.sl true a1.length 2 (a1.flatMap e44))), (5, (.pt 1024 0 (x2.length * 1))), (10, (.sl true a1.length 2 (a1.flatMap e44))), (11, (I (a1.length : Int))), (12, (I x3))] [(0, [(.sl true a0.f0.length 1 (a0.f0.flatMap encI)), (.pt 2000000001 0 1)]), (2000000001, (mrow a0.f1)), (1024, (x2.flatMap encI))] (B r.1) [(0, [(.sl true r.2.1.f0.length 1 (r.2.1.f0.flatMap encI)), (.pt 2000000001 0 1)]), (2000000001, (mrow r.2.2))]))
 | 0 => ⟨(by intro a0 a1 r h; unfold impl_search_first.f at h; cases h), (by intro a1 x1 x2 x3 r h; unfold impl_search_first.l0 at h; cases h), (by intro a0 a1 r h; unfold impl_search_canFinish.f at h; cases h), (by intro a0 a1 x2 x3 r h; unfold impl_search_canFinish.l0 at h; cases h)⟩
 | k + 1 => by
  obtain ⟨ihf, ih0, m0_ihf, m0_ih0⟩ := impl_search_first.lab k
  refine ⟨?_, ?_, ?_, ?_⟩
  · intro a0 a1 r h
    unfold impl_search_first.f at h
    refine .call' [c_ 2, c_ 3] ?_
    refine .reg' [0, 1] [] ⟨[(0, (.pt 0 0 2)), (1, (.sl true a1.length 2 (a1.flatMap e44)))], [(0, [(.sl true a0.f0.length 1 (a0.f0.flatMap encI)), (.pt 2000000001 0 1)]), (2000000001, (mrow a0.f1))], [], []⟩ [c_ 12, c_ 13, c_ 7] aln nocal ?_
    refine .reg' [0, 1, 7, 8] [] ⟨[(0, (.pt 0 0 2)), (1, (.sl true a1.length 2 (a1.flatMap e44))), (7, (I (a1.length : Int))), (8, (I 0))], [(0, [(.sl true a0.f0.length 1 (a0.f0.flatMap encI)), (.pt 2000000001 0 1)]), (2000000001, (mrow a0.f1))], [], []⟩ [l_ 26, b_ 0, c_ 7] aln nocal ?_
    exact ih0 a1 a0.f0 a0.f1 0 _ h
  · intro a1 x1 x2 x3 r h
    unfold impl_search_first.l0 at h
    refine .loop' [c_ 104, c_ 105, l_ 26, b_ 0, c_ 7] ?_
    refine .reg' [0, 1, 7, 8, 9] [] ⟨[(0, (.pt 0 0 2)), (1, (.sl true a1.length 2 (a1.flatMap e44))), (7, (I (a1.length : Int))), (8, (I x3)), (9, (B (decide (x3 < (a1.length : Int)))))], [(0, [(.sl true x1.length 1 (x1.flatMap encI)), (.pt 2000000001 0 1)]), (2000000001, (mrow x2))], [], []⟩ [c_ 210, c_ 211, l_ 26, b_ 0, c_ 7] aln nocal ?_
    by_cases c1 : x3 < (a1.length : Int)
    · rw [if_pos c1] at h
      refine .cond' (.tmp 9) true [c_ 1688, c_ 1689, b_ 1, c_ 423, l_ 26, b_ 0, c_ 7] (bT (dT c1)) ?_
      refine .reg' [0, 1, 5, 7, 8] [] ⟨[(0, (.pt 0 0 2)), (1, (.sl true a1.length 2 (a1.flatMap e44))), (5, (I x3)), (7, (I (a1.length : Int))), (8, (I x3))], [(0, [(.sl true x1.length 1 (x1.flatMap encI)), (.pt 2000000001 0 1)]), (2000000001, (mrow x2))], [], []⟩ [c_ 3378, c_ 3379, b_ 1, c_ 423, l_ 26, b_ 0, c_ 7] aln nocal ?_
      obtain ⟨x4, hx4, h⟩ := Option.bind_eq_some_iff.mp h
      by_cases c2 : x4 = true
      · rw [if_pos c2] at h
        obtain ⟨x5, hx5, h⟩ := Option.bind_eq_some_iff.mp h
        obtain ⟨x6, hx6, h⟩ := Option.bind_eq_some_iff.mp h
        refine .reg' [0, 1, 5, 7, 8, 24] [.no, .no, .no, .no, .no, .no, .c ⟨46, [(.sl true x1.length 1 (x1.flatMap encI)), (.sl true a1.length 2 (a1.flatMap e44)), (I x3)], [], (B x4), [], [], [], [], (B x4), []⟩, .v (B true), .no, .no, .no, .c ⟨49, [(.sl true a1.length 2 (a1.flatMap e44)), (I x3)], [], (.sl false x5.length 2 (x5.flatMap e44)), [], [], [], [], (.sl false x5.length 2 (x5.flatMap e44)), []⟩, .c ⟨52, [(.pt 0 0 2), (.sl true x5.length 2 (x5.flatMap e44))], [(0, [(.sl true x1.length 1 (x1.flatMap encI)), (.pt 2000000001 0 1)]), (2000000001, (mrow x2))], (B x6.1), [(0, [(.sl true x6.2.1.f0.length 1 (x6.2.1.f0.flatMap encI)), (.pt 2000000001 0 1)]), (2000000001, (mrow x6.2.2))], [], [(0, 0), (2000000001, 2000000001)], [(0, 0), (2000000001, 2000000001)], (B x6.1), [(0, [(.sl true x6.2.1.f0.length 1 (x6.2.1.f0.flatMap encI)), (.pt 2000000001 0 1)]), (2000000001, (mrow x6.2.2))]⟩] ⟨[(0, (.pt 0 0 2)), (1, (.sl true a1.length 2 (a1.flatMap e44))), (5, (I x3)), (7, (I (a1.length : Int))), (8, (I x3)), (24, (B x6.1))], [(0, [(.sl true x6.2.1.f0.length 1 (x6.2.1.f0.flatMap encI)), (.pt 2000000001 0 1)]), (2000000001, (mrow x6.2.2))], [2 = 2 ∧ 0 + 1 ≤ 2, COK (hget [(0, [(.sl true x1.length 1 (x1.flatMap encI)), (.pt 2000000001 0 1)]), (2000000001, (mrow x2))]) [(.sl true x1.length 1 (x1.flatMap encI)), (.sl true a1.length 2 (a1.flatMap e44)), (I x3)] ⟨46, [(.sl true x1.length 1 (x1.flatMap encI)), (.sl true a1.length 2 (a1.flatMap e44)), (I x3)], [], (B x4), [], [], [], [], (B x4), []⟩, (B x4 : V) = B true, COK (hget [(0, [(.sl true x1.length 1 (x1.flatMap encI)), (.pt 2000000001 0 1)]), (2000000001, (mrow x2))]) [(.sl true a1.length 2 (a1.flatMap e44)), (I x3)] ⟨49, [(.sl true a1.length 2 (a1.flatMap e44)), (I x3)], [], (.sl false x5.length 2 (x5.flatMap e44)), [], [], [], [], (.sl false x5.length 2 (x5.flatMap e44)), []⟩, COK (hget [(0, [(.sl true x1.length 1 (x1.flatMap encI)), (.pt 2000000001 0 1)]), (2000000001, (mrow x2))]) [(.pt 0 0 2), (.sl false x5.length 2 (x5.flatMap e44))] ⟨52, [(.pt 0 0 2), (.sl true x5.length 2 (x5.flatMap e44))], [(0, [(.sl true x1.length 1 (x1.flatMap encI)), (.pt 2000000001 0 1)]), (2000000001, (mrow x2))], (B x6.1), [(0, [(.sl true x6.2.1.f0.length 1 (x6.2.1.f0.flatMap encI)), (.pt 2000000001 0 1)]), (2000000001, (mrow x6.2.2))], [], [(0, 0), (2000000001, 2000000001)], [(0, 0), (2000000001, 2000000001)], (B x6.1), [(0, [(.sl true x6.2.1.f0.length 1 (x6.2.1.f0.flatMap encI)), (.pt 2000000001 0 1)]), (2000000001, (mrow x6.2.2))]⟩], [⟨46, [(.sl true x1.length 1 (x1.flatMap encI)), (.sl true a1.length 2 (a1.flatMap e44)), (I x3)], [], (B x4), [], [], [], [], (B x4), []⟩, ⟨49, [(.sl true a1.length 2 (a1.flatMap e44)), (I x3)], [], (.sl false x5.length 2 (x5.flatMap e44)), [], [], [], [], (.sl false x5.length 2 (x5.flatMap e44)), []⟩, ⟨52, [(.pt 0 0 2), (.sl true x5.length 2 (x5.flatMap e44))], [(0, [(.sl true x1.length 1 (x1.flatMap encI)), (.pt 2000000001 0 1)]), (2000000001, (mrow x2))], (B x6.1), [(0, [(.sl true x6.2.1.f0.length 1 (x6.2.1.f0.flatMap encI)), (.pt 2000000001 0 1)]), (2000000001, (mrow x6.2.2))], [], [(0, 0), (2000000001, 2000000001)], [(0, 0), (2000000001, 2000000001)], (B x6.1), [(0, [(.sl true x6.2.1.f0.length 1 (x6.2.1.f0.flatMap encI)), (.pt 2000000001 0 1)]), (2000000001, (mrow x6.2.2))]⟩]⟩ [c_ 3379, b_ 1, c_ 423, l_ 26, b_ 0, c_ 7] (alc ⟨rfl, by decide⟩ (alc (cok0 false (a2c (.z (frz_sl encI_ok (fun h => h))) (a2c (.z (frz_sl e44_ok (fun h => h))) (a2c (.z .s) a2n))) (.z .s) (fun h => absurd h (by decide))) (alc (bT c2) (alc (cok0 false (a2c (.z (frz_sl e44_ok (fun h => h))) (a2c (.z .s) a2n)) (.z (clnS e44_c (fun h => absurd h (by decide)))) (fun h => absurd h (by decide))) (alc (cokW true (a2c (.pt (memP_mem (p := (0, 0)) rfl)) (a2c (.z (frz_sl e44_ok (fun h => absurd h (by decide)))) a2n)) (akc ⟨_, _, rfl, rfl, (a2c (.z (frz_sl encI_ok (fun h => h))) (a2c (.pt (memP_mem (p := (2000000001, 2000000001)) rfl)) a2n))⟩ (akc ⟨_, _, rfl, rfl, (mrowC _)⟩ akn)) (akc (.inl rfl) (akc (.inl rfl) akn)) (.z .s) (akc ⟨_, _, rfl, rfl, (a2c (.z (clnS encI_c (fun h => rfl))) (a2c (.pt (memP_mem (p := (2000000001, 2000000001)) rfl)) a2n))⟩ (akc ⟨_, _, rfl, rfl, mrowB _⟩ akn)) (fun h => rfl)) aln))))) (acal (impl_mayMove.J k x1 a1 x3 _ hx4) (acal (.cw' [512] [] (impl_moved.J a1 x3 _ hx5) shn (.z (frz_rf (k := 512) e44_ok (by simp) rfl rfl (row_len e44_ok _).symm))) (acal (m0_ihf (⟨x1, x2⟩ : S65) x5 _ hx6) nocal))) ?_
        by_cases c3 : x6.1 = true
        · rw [if_pos c3] at h
          refine .cond' (.tmp 24) true [c_ 13516, c_ 13517, b_ 1, c_ 423, l_ 26, b_ 0, c_ 7] (bT c3) ?_
          refine .reg' [4] [] ⟨[(4, (I x3))], [(0, [(.sl true x6.2.1.f0.length 1 (x6.2.1.f0.flatMap encI)), (.pt 2000000001 0 1)]), (2000000001, (mrow x6.2.2))], [], []⟩ [c_ 13517, b_ 1, c_ 423, l_ 26, b_ 0, c_ 7] aln nocal ?_
          have h := Option.some.inj h
          subst h
          exact .fin' [] [(0, 0), (2000000001, 2000000001)] (I x3) [] aln (shc 0 (a2c (.z (frz_sl encI_ok (fun h => h))) (a2c (.pt (memP_mem (p := (2000000001, 2000000001)) rfl)) a2n)) (shc 2000000001 (mrowC _) shn)) (.z .s)
        · rw [if_neg c3] at h
          refine .cond' (.tmp 24) false [c_ 423, l_ 26, b_ 0, c_ 7] (bF (vF c3)) ?_
          refine .reg' [0, 1, 7, 8] [] ⟨[(0, (.pt 0 0 2)), (1, (.sl true a1.length 2 (a1.flatMap e44))), (7, (I (a1.length : Int))), (8, (I (wrap64 (x3 + 1))))], [(0, [(.sl true x6.2.1.f0.length 1 (x6.2.1.f0.flatMap encI)), (.pt 2000000001 0 1)]), (2000000001, (mrow x6.2.2))], [], []⟩ [l_ 26, b_ 0, c_ 7] aln nocal ?_
          exact ih0 a1 x6.2.1.f0 x6.2.2 (wrap64 (x3 + 1)) _ h
      · rw [if_neg c2] at h
        refine .reg' [0, 1, 5, 7, 8, 24] [.no, .no, .no, .no, .no, .no, .c ⟨46, [(.sl true x1.length 1 (x1.flatMap encI)), (.sl true a1.length 2 (a1.flatMap e44)), (I x3)], [], (B x4), [], [], [], [], (B x4), []⟩, .v (B false)] ⟨[(0, (.pt 0 0 2)), (1, (.sl true a1.length 2 (a1.flatMap e44))), (5, (I x3)), (7, (I (a1.length : Int))), (8, (I x3)), (24, (B false))], [(0, [(.sl true x1.length 1 (x1.flatMap encI)), (.pt 2000000001 0 1)]), (2000000001, (mrow x2))], [2 = 2 ∧ 0 + 1 ≤ 2, COK (hget [(0, [(.sl true x1.length 1 (x1.flatMap encI)), (.pt 2000000001 0 1)]), (2000000001, (mrow x2))]) [(.sl true x1.length 1 (x1.flatMap encI)), (.sl true a1.length 2 (a1.flatMap e44)), (I x3)] ⟨46, [(.sl true x1.length 1 (x1.flatMap encI)), (.sl true a1.length 2 (a1.flatMap e44)), (I x3)], [], (B x4), [], [], [], [], (B x4), []⟩, (B x4 : V) = B false], [⟨46, [(.sl true x1.length 1 (x1.flatMap encI)), (.sl true a1.length 2 (a1.flatMap e44)), (I x3)], [], (B x4), [], [], [], [], (B x4), []⟩]⟩ [c_ 3379, b_ 1, c_ 423, l_ 26, b_ 0, c_ 7] (alc ⟨rfl, by decide⟩ (alc (cok0 false (a2c (.z (frz_sl encI_ok (fun h => h))) (a2c (.z (frz_sl e44_ok (fun h => h))) (a2c (.z .s) a2n))) (.z .s) (fun h => absurd h (by decide))) (alc (bF (vF c2)) aln))) (acal (impl_mayMove.J k x1 a1 x3 _ hx4) nocal) ?_
        refine .cond' (.tmp 24) false [c_ 423, l_ 26, b_ 0, c_ 7] (rfl) ?_
        refine .reg' [0, 1, 7, 8] [] ⟨[(0, (.pt 0 0 2)), (1, (.sl true a1.length 2 (a1.flatMap e44))), (7, (I (a1.length : Int))), (8, (I (wrap64 (x3 + 1))))], [(0, [(.sl true x1.length 1 (x1.flatMap encI)), (.pt 2000000001 0 1)]), (2000000001, (mrow x2))], [], []⟩ [l_ 26, b_ 0, c_ 7] aln nocal ?_
        exact ih0 a1 x1 x2 (wrap64 (x3 + 1)) _ h
    · rw [if_neg c1] at h
      refine .cond' (.tmp 9) false [c_ 14, c_ 15] (bF (dF c1)) ?_
      refine .reg' [4] [] ⟨[(4, (I (-1)))], [(0, [(.sl true x1.length 1 (x1.flatMap encI)), (.pt 2000000001 0 1)]), (2000000001, (mrow x2))], [], []⟩ [c_ 15] aln nocal ?_
      have h := Option.some.inj h
      subst h
      exact .fin' [] [(0, 0), (2000000001, 2000000001)] (I (-1)) [] aln (shc 0 (a2c (.z (frz_sl encI_ok (fun h => h))) (a2c (.pt (memP_mem (p := (2000000001, 2000000001)) rfl)) a2n)) (shc 2000000001 (mrowC _) shn)) (.z .s)
  · intro a0 a1 r h
    unfold impl_search_canFinish.f at h
    refine .call' [c_ 2, c_ 3] ?_
    refine .reg' [0, 1] [] ⟨[(0, (.pt 0 0 2)), (1, (.sl true a1.length 2 (a1.flatMap e44)))], [(0, [(.sl true a0.f0.length 1 (a0.f0.flatMap encI)), (.pt 2000000001 0 1)]), (2000000001, (mrow a0.f1))], [], []⟩ [c_ 12, c_ 13, c_ 7] aln nocal ?_
    obtain ⟨x1, hx1, h⟩ := Option.bind_eq_some_iff.mp h
    refine .reg' [0, 1, 9] [.no, .c ⟨48, [(.sl true a1.length 2 (a1.flatMap e44))], [], (B x1), [], [], [], [], (B x1), []⟩] ⟨[(0, (.pt 0 0 2)), (1, (.sl true a1.length 2 (a1.flatMap e44))), (9, (B x1))], [(0, [(.sl true a0.f0.length 1 (a0.f0.flatMap encI)), (.pt 2000000001 0 1)]), (2000000001, (mrow a0.f1))], [COK (hget [(0, [(.sl true a0.f0.length 1 (a0.f0.flatMap encI)), (.pt 2000000001 0 1)]), (2000000001, (mrow a0.f1))]) [(.sl true a1.length 2 (a1.flatMap e44))] ⟨48, [(.sl true a1.length 2 (a1.flatMap e44))], [], (B x1), [], [], [], [], (B x1), []⟩], [⟨48, [(.sl true a1.length 2 (a1.flatMap e44))], [], (B x1), [], [], [], [], (B x1), []⟩]⟩ [c_ 13, c_ 7] (alc (cok0 false (a2c (.z (frz_sl e44_ok (fun h => h))) a2n) (.z .s) (fun h => absurd h (by decide))) aln) (acal (impl_home.J k a1 _ hx1) nocal) ?_
    by_cases c1 : x1 = true
    · rw [if_pos c1] at h
      refine .cond' (.tmp 9) true [c_ 52, c_ 53, c_ 7] (bT c1) ?_
      refine .reg' [4] [] ⟨[(4, (B true))], [(0, [(.sl true a0.f0.length 1 (a0.f0.flatMap encI)), (.pt 2000000001 0 1)]), (2000000001, (mrow a0.f1))], [], []⟩ [c_ 53, c_ 7] aln nocal ?_
      have h := Option.some.inj h
      subst h
      exact .fin' [] [(0, 0), (2000000001, 2000000001)] (B true) [] aln (shc 0 (a2c (.z (frz_sl encI_ok (fun h => h))) (a2c (.pt (memP_mem (p := (2000000001, 2000000001)) rfl)) a2n)) (shc 2000000001 (mrowC _) shn)) (.z .s)
    · rw [if_neg c1] at h
      refine .cond' (.tmp 9) false [c_ 14, c_ 15] (bF (vF c1)) ?_
      refine .reg' [0, 1, 5] [] ⟨[(0, (.pt 0 0 2)), (1, (.sl true a1.length 2 (a1.flatMap e44))), (5, (.pt 1024 0 4))], [(0, [(.sl true a0.f0.length 1 (a0.f0.flatMap encI)), (.pt 2000000001 0 1)]), (2000000001, (mrow a0.f1)), (1024, ((List.replicate 4 (0 : Int)).flatMap encI))], [], []⟩ [c_ 60, c_ 61, c_ 31] aln nocal ?_
      refine .eqs (env2 := [(0, (.pt 0 0 2)), (1, (.sl true a1.length 2 (a1.flatMap e44))), (5, (.pt 1024 0 ((List.replicate 4 (0 : Int)).length * 1)))]) (H2 := [(0, [(.sl true a0.f0.length 1 (a0.f0.flatMap encI)), (.pt 2000000001 0 1)]), (2000000001, (mrow a0.f1)), (1024, ((List.replicate 4 (0 : Int)).flatMap encI))]) (by first | (simp only [List.length_set]; done) | simp) (by first | rfl | (simp only [List.length_set]; done) | simp) ?_
      refine .reg' [0, 1, 5, 10, 11, 12] [] ⟨[(0, (.pt 0 0 2)), (1, (.sl true a1.length 2 (a1.flatMap e44))), (5, (.pt 1024 0 ((List.replicate 4 (0 : Int)).length * 1))), (10, (.sl true a1.length 2 (a1.flatMap e44))), (11, (I (a1.length : Int))), (12, (I 0))], [(0, [(.sl true a0.f0.length 1 (a0.f0.flatMap encI)), (.pt 2000000001 0 1)]), (2000000001, (mrow a0.f1)), (1024, ((List.replicate 4 (0 : Int)).flatMap encI))], [], []⟩ [l_ 122, b_ 0, c_ 31] aln nocal ?_
      exact m0_ih0 a0 a1 (List.replicate 4 (0 : Int)) 0 _ h
  · intro a0 a1 x2 x3 r h
    unfold impl_search_canFinish.l0 at h
    refine .loop' [c_ 488, c_ 489, l_ 122, b_ 0, c_ 31] ?_
    refine .reg' [0, 1, 5, 10, 11, 12, 13] [] ⟨[(0, (.pt 0 0 2)), (1, (.sl true a1.length 2 (a1.flatMap e44))), (5, (.pt 1024 0 (x2.length * 1))), (10, (.sl true a1.length 2 (a1.flatMap e44))), (11, (I (a1.length : Int))), (12, (I x3)), (13, (B (decide (x3 < (a1.length : Int)))))], [(0, [(.sl true a0.f0.length 1 (a0.f0.flatMap encI)), (.pt 2000000001 0 1)]), (2000000001, (mrow a0.f1)), (1024, (x2.flatMap encI))], [], []⟩ [c_ 978, c_ 979, l_ 122, b_ 0, c_ 31] aln nocal ?_
    by_cases c2 : x3 < (a1.length : Int)
    · rw [if_pos c2] at h
      refine .cond' (.tmp 13) true [c_ 7832, c_ 7833, b_ 1, c_ 1959, l_ 122, b_ 0, c_ 31] (bT (dT c2)) ?_
      by_cases c3 : 0 ≤ x3
      · rw [if_pos c3] at h
        refine .reg' [0, 1, 5, 6, 7, 10, 11, 12] [.no, .no, .v (.ag [(I (at_ a1 x3).f0), (I (at_ a1 x3).f1)])] ⟨[(0, (.pt 0 0 2)), (1, (.sl true a1.length 2 (a1.flatMap e44))), (5, (.pt 1024 0 (x2.length * 1))), (6, (I x3)), (7, (.pt 1795 0 2)), (10, (.sl true a1.length 2 (a1.flatMap e44))), (11, (I (a1.length : Int))), (12, (I x3))], [(0, [(.sl true a0.f0.length 1 (a0.f0.flatMap encI)), (.pt 2000000001 0 1)]), (2000000001, (mrow a0.f1)), (1024, (x2.flatMap encI)), (1795, [(I (at_ a1 x3).f0), (I (at_ a1 x3).f1)])], [(0 : Int) ≤ x3 ∧ x3 < (a1.length : Int), rdC prog 45 ((a1.flatMap e44).drop (x3.toNat * 2)) = (.ag [(I (at_ a1 x3).f0), (I (at_ a1 x3).f1)]), 2 ≤ ((a1.flatMap e44).drop (x3.toNat * 2)).length, 2 = 2 ∧ 0 + 2 ≤ 2], []⟩ [c_ 7833, b_ 1, c_ 1959, l_ 122, b_ 0, c_ 31] (alc ⟨c3, c2⟩ (alc (ldA e44_ok rfl rfl c3 c2) (alc (okI e44_ok c3 c2 (by decide)) (alc ⟨rfl, by decide⟩ aln)))) nocal ?_
        by_cases c4 : x3 < 4
        · rw [if_pos c4] at h
          by_cases c5 : x3 < (x2.length : Int)
          · rw [if_pos c5] at h
            refine .reg' [0, 1, 5, 10, 11, 12] [.no, .no, .no, .no, .w .un ((x2.set x3.toNat ((at_ a1 x3).f0)).flatMap encI)] ⟨[(0, (.pt 0 0 2)), (1, (.sl true a1.length 2 (a1.flatMap e44))), (5, (.pt 1024 0 (x2.length * 1))), (10, (.sl true a1.length 2 (a1.flatMap e44))), (11, (I (a1.length : Int))), (12, (I x3))], [(0, [(.sl true a0.f0.length 1 (a0.f0.flatMap encI)), (.pt 2000000001 0 1)]), (2000000001, (mrow a0.f1)), (1024, ((x2.set x3.toNat ((at_ a1 x3).f0)).flatMap encI)), (1795, [(I (at_ a1 x3).f0), (I (at_ a1 x3).f1)])], [2 = 2 ∧ 0 + 1 ≤ 2, (0 : Int) ≤ x3 ∧ x3 < 4, V.un = V.un, spl (x2.flatMap encI) (0 + x3.toNat * 1) [(I (at_ a1 x3).f0)] = ((x2.set x3.toNat ((at_ a1 x3).f0)).flatMap encI), x2.length * 1 = (x2.flatMap encI).length ∧ 0 + x3.toNat * 1 + 1 ≤ (x2.flatMap encI).length], []⟩ [c_ 1959, l_ 122, b_ 0, c_ 31] (alc ⟨rfl, by decide⟩ (alc ⟨c3, c4⟩ (alc rfl (alc (st_row1 encI_ok c3 c5 (I (at_ a1 x3).f0) rfl) (alc (okA0 encI_ok c3 c5 (by decide)) aln))))) nocal ?_
            refine .eqs (env2 := [(0, (.pt 0 0 2)), (1, (.sl true a1.length 2 (a1.flatMap e44))), (5, (.pt 1024 0 ((x2.set x3.toNat ((at_ a1 x3).f0)).length * 1))), (10, (.sl true a1.length 2 (a1.flatMap e44))), (11, (I (a1.length : Int))), (12, (I x3))]) (H2 := [(0, [(.sl true a0.f0.length 1 (a0.f0.flatMap encI)), (.pt 2000000001 0 1)]), (2000000001, (mrow a0.f1)), (1024, ((x2.set x3.toNat ((at_ a1 x3).f0)).flatMap encI)), (1795, [(I (at_ a1 x3).f0), (I (at_ a1 x3).f1)])]) (by first | (simp only [List.length_set]; done) | simp) (by first | rfl | (simp only [List.length_set]; done) | simp) ?_
            refine .reg' [0, 1, 5, 10, 11, 12] [] ⟨[(0, (.pt 0 0 2)), (1, (.sl true a1.length 2 (a1.flatMap e44))), (5, (.pt 1024 0 ((x2.set x3.toNat ((at_ a1 x3).f0)).length * 1))), (10, (.sl true a1.length 2 (a1.flatMap e44))), (11, (I (a1.length : Int))), (12, (I (wrap64 (x3 + 1))))], [(0, [(.sl true a0.f0.length 1 (a0.f0.flatMap encI)), (.pt 2000000001 0 1)]), (2000000001, (mrow a0.f1)), (1024, ((x2.set x3.toNat ((at_ a1 x3).f0)).flatMap encI)), (1795, [(I (at_ a1 x3).f0), (I (at_ a1 x3).f1)])], [], []⟩ [l_ 122, b_ 0, c_ 31] aln nocal ?_
            refine .wk' [] [(0, 0), (2000000001, 2000000001), (1024, 1024)] [(0, (.pt 0 0 2)), (1, (.sl true a1.length 2 (a1.flatMap e44))), (5, (.pt 1024 0 ((x2.set x3.toNat ((at_ a1 x3).f0)).length * 1))), (10, (.sl true a1.length 2 (a1.flatMap e44))), (11, (I (a1.length : Int))), (12, (I (wrap64 (x3 + 1))))] [(0, [(.sl true a0.f0.length 1 (a0.f0.flatMap encI)), (.pt 2000000001 0 1)]), (2000000001, (mrow a0.f1)), (1024, ((x2.set x3.toNat ((at_ a1 x3).f0)).flatMap encI))] (shc 0 (a2c (.z (frz_sl encI_ok (fun h => h))) (a2c (.pt (memP_mem (p := (2000000001, 2000000001)) rfl)) a2n)) (shc 2000000001 (mrowC _) (shc 1024 (rowF encI_ok _) shn))) (enc_ (.pt (memP_mem (p := (0, 0)) rfl)) (enc_ (.z (frz_sl e44_ok (fun h => h))) (enc_ (.pt (memP_mem (p := (1024, 1024)) rfl)) (enc_ (.z (frz_sl e44_ok (fun h => h))) (enc_ (.z .s) (enc_ (.z .s) enn)))))) ?_
            exact m0_ih0 a0 a1 (x2.set x3.toNat ((at_ a1 x3).f0)) (wrap64 (x3 + 1)) _ h
          · rw [if_neg c5] at h
            cases h
        · rw [if_neg c4] at h
          cases h
      · rw [if_neg c3] at h
        cases h
    · rw [if_neg c2] at h
      refine .cond' (.tmp 13) false [c_ 124, c_ 125, c_ 63] (bF (dF c2)) ?_
      by_cases c6 : x2.length = 4
      · rw [if_pos c6] at h
        by_cases c7 : kOk 4 a0.f1 = true
        · rw [if_pos c7] at h
          by_cases c8 : kOk1 4 x2 = true
          · rw [if_pos c8] at h
            refine .reg' [0, 1, 5, 27] [.no, .no, .no, .no, .v (.ag (x2.flatMap encI)), .v (B (kHas a0.f1 x2))] ⟨[(0, (.pt 0 0 2)), (1, (.sl true a1.length 2 (a1.flatMap e44))), (5, (.pt 1024 0 (x2.length * 1))), (27, (B (kHas a0.f1 x2)))], [(0, [(.sl true a0.f0.length 1 (a0.f0.flatMap encI)), (.pt 2000000001 0 1)]), (2000000001, (mrow a0.f1)), (1024, (x2.flatMap encI))], [2 = 2 ∧ 1 + 1 ≤ 2, rdC prog 67 ((x2.flatMap encI).drop 0) = (.ag (x2.flatMap encI)), x2.length * 1 = (x2.flatMap encI).length ∧ 0 + 4 ≤ (x2.flatMap encI).length, (B (hasK (a0.f1.map kV) (x2.flatMap encI)) : V) = (B (kHas a0.f1 x2)), (∀ v, v ∈ a0.f1.map kV → KeyP 4 v) ∧ KeyP 4 (.ag (x2.flatMap encI))], []⟩ [c_ 125, c_ 63] (alc ⟨rfl, by decide⟩ (alc (ldAll encI_ok rfl rfl c6) (alc (okAll encI_ok c6) (alc (lkV _ _) (alc (kob c7 c8) aln))))) nocal ?_
            by_cases c9 : (kHas a0.f1 x2) = true
            · rw [if_pos c9] at h
              refine .cond' (.tmp 27) true [c_ 500, c_ 501, c_ 63] (bT c9) ?_
              refine .reg' [4] [] ⟨[(4, (B false))], [(0, [(.sl true a0.f0.length 1 (a0.f0.flatMap encI)), (.pt 2000000001 0 1)]), (2000000001, (mrow a0.f1)), (1024, (x2.flatMap encI))], [], []⟩ [c_ 501, c_ 63] aln nocal ?_
              have h := Option.some.inj h
              subst h
              exact .fin' [] [(0, 0), (2000000001, 2000000001)] (B false) [] aln (shc 0 (a2c (.z (frz_sl encI_ok (fun h => h))) (a2c (.pt (memP_mem (p := (2000000001, 2000000001)) rfl)) a2n)) (shc 2000000001 (mrowC _) shn)) (.z .s)
            · rw [if_neg c9] at h
              refine .cond' (.tmp 27) false [c_ 252, c_ 253, c_ 127] (bF (vF c9)) ?_
              obtain ⟨x4, hx4, h⟩ := Option.bind_eq_some_iff.mp h
              refine .reg' [0, 5, 31] [.no, .no, .c ⟨53, [(.pt 0 0 2), (.sl true a1.length 2 (a1.flatMap e44))], [(0, [(.sl true a0.f0.length 1 (a0.f0.flatMap encI)), (.pt 2000000001 0 1)]), (2000000001, (mrow a0.f1))], (I x4.1), [(0, [(.sl true x4.2.1.f0.length 1 (x4.2.1.f0.flatMap encI)), (.pt 2000000001 0 1)]), (2000000001, (mrow x4.2.2))], [], [(0, 0), (2000000001, 2000000001)], [(0, 0), (2000000001, 2000000001)], (I x4.1), [(0, [(.sl true x4.2.1.f0.length 1 (x4.2.1.f0.flatMap encI)), (.pt 2000000001 0 1)]), (2000000001, (mrow x4.2.2))]⟩] ⟨[(0, (.pt 0 0 2)), (5, (.pt 1024 0 (x2.length * 1))), (31, (B (decide (x4.1 ≥ 0))))], [(0, [(.sl true x4.2.1.f0.length 1 (x4.2.1.f0.flatMap encI)), (.pt 2000000001 0 1)]), (2000000001, (mrow x4.2.2)), (1024, (x2.flatMap encI))], [COK (hget [(0, [(.sl true a0.f0.length 1 (a0.f0.flatMap encI)), (.pt 2000000001 0 1)]), (2000000001, (mrow a0.f1)), (1024, (x2.flatMap encI))]) [(.pt 0 0 2), (.sl true a1.length 2 (a1.flatMap e44))] ⟨53, [(.pt 0 0 2), (.sl true a1.length 2 (a1.flatMap e44))], [(0, [(.sl true a0.f0.length 1 (a0.f0.flatMap encI)), (.pt 2000000001 0 1)]), (2000000001, (mrow a0.f1))], (I x4.1), [(0, [(.sl true x4.2.1.f0.length 1 (x4.2.1.f0.flatMap encI)), (.pt 2000000001 0 1)]), (2000000001, (mrow x4.2.2))], [], [(0, 0), (2000000001, 2000000001)], [(0, 0), (2000000001, 2000000001)], (I x4.1), [(0, [(.sl true x4.2.1.f0.length 1 (x4.2.1.f0.flatMap encI)), (.pt 2000000001 0 1)]), (2000000001, (mrow x4.2.2))]⟩], [⟨53, [(.pt 0 0 2), (.sl true a1.length 2 (a1.flatMap e44))], [(0, [(.sl true a0.f0.length 1 (a0.f0.flatMap encI)), (.pt 2000000001 0 1)]), (2000000001, (mrow a0.f1))], (I x4.1), [(0, [(.sl true x4.2.1.f0.length 1 (x4.2.1.f0.flatMap encI)), (.pt 2000000001 0 1)]), (2000000001, (mrow x4.2.2))], [], [(0, 0), (2000000001, 2000000001)], [(0, 0), (2000000001, 2000000001)], (I x4.1), [(0, [(.sl true x4.2.1.f0.length 1 (x4.2.1.f0.flatMap encI)), (.pt 2000000001 0 1)]), (2000000001, (mrow x4.2.2))]⟩]⟩ [c_ 253, c_ 127] (alc (cokW true (a2c (.pt (memP_mem (p := (0, 0)) rfl)) (a2c (.z (frz_sl e44_ok (fun h => h))) a2n)) (akc ⟨_, _, rfl, rfl, (a2c (.z (frz_sl encI_ok (fun h => h))) (a2c (.pt (memP_mem (p := (2000000001, 2000000001)) rfl)) a2n))⟩ (akc ⟨_, _, rfl, rfl, (mrowC _)⟩ akn)) (akc (.inl rfl) (akc (.inl rfl) akn)) (.z .s) (akc ⟨_, _, rfl, rfl, (a2c (.z (clnS encI_c (fun h => rfl))) (a2c (.pt (memP_mem (p := (2000000001, 2000000001)) rfl)) a2n))⟩ (akc ⟨_, _, rfl, rfl, mrowB _⟩ akn)) (fun h => rfl)) aln) (acal (ihf a0 a1 _ hx4) nocal) ?_
              by_cases c10 : x4.1 ≥ 0
              · rw [if_pos c10] at h
                refine .cond' (.tmp 31) true [c_ 1012, c_ 1013, c_ 127] (bT (dT c10)) ?_
                refine .reg' [4] [] ⟨[(4, (B true))], [(0, [(.sl true x4.2.1.f0.length 1 (x4.2.1.f0.flatMap encI)), (.pt 2000000001 0 1)]), (2000000001, (mrow x4.2.2)), (1024, (x2.flatMap encI))], [], []⟩ [c_ 1013, c_ 127] aln nocal ?_
                have h := Option.some.inj h
                subst h
                exact .fin' [] [(0, 0), (2000000001, 2000000001)] (B true) [] aln (shc 0 (a2c (.z (frz_sl encI_ok (fun h => h))) (a2c (.pt (memP_mem (p := (2000000001, 2000000001)) rfl)) a2n)) (shc 2000000001 (mrowC _) shn)) (.z .s)
              · rw [if_neg c10] at h
                refine .cond' (.tmp 31) false [c_ 254, c_ 255] (bF (dF c10)) ?_
                by_cases c11 : kOk 4 x4.2.2 = true
                · rw [if_pos c11] at h
                  refine .reg' [] [.no, .no, .no, .no, .v (.ag (x2.flatMap encI)), .w .un (mrow (kIns x4.2.2 x2))] ⟨[], [(0, [(.sl true x4.2.1.f0.length 1 (x4.2.1.f0.flatMap encI)), (.pt 2000000001 0 1)]), (2000000001, (mrow (kIns x4.2.2 x2))), (1024, (x2.flatMap encI))], [2 = 2 ∧ 1 + 1 ≤ 2, rdC prog 67 ((x2.flatMap encI).drop 0) = (.ag (x2.flatMap encI)), x2.length * 1 = (x2.flatMap encI).length ∧ 0 + 4 ≤ (x2.flatMap encI).length, V.un = V.un, [V.fn (.func 0) [] (bif hasK (x4.2.2.map kV) (x2.flatMap encI) then x4.2.2.map kV else x4.2.2.map kV ++ [.ag (x2.flatMap encI)])] = mrow (kIns x4.2.2 x2), (∀ v, v ∈ x4.2.2.map kV → KeyP 4 v) ∧ KeyP 4 (.ag (x2.flatMap encI))], []⟩ [c_ 510, c_ 511] (alc ⟨rfl, by decide⟩ (alc (ldAll encI_ok rfl rfl c6) (alc (okAll encI_ok c6) (alc rfl (alc (upV _ _) (alc (kob c11 c8) aln)))))) nocal ?_
                  refine .reg' [4] [] ⟨[(4, (B false))], [(0, [(.sl true x4.2.1.f0.length 1 (x4.2.1.f0.flatMap encI)), (.pt 2000000001 0 1)]), (2000000001, (mrow (kIns x4.2.2 x2))), (1024, (x2.flatMap encI))], [], []⟩ [c_ 511] aln nocal ?_
                  have h := Option.some.inj h
                  subst h
                  exact .fin' [] [(0, 0), (2000000001, 2000000001)] (B false) [] aln (shc 0 (a2c (.z (frz_sl encI_ok (fun h => h))) (a2c (.pt (memP_mem (p := (2000000001, 2000000001)) rfl)) a2n)) (shc 2000000001 (mrowC _) shn)) (.z .s)
                · rw [if_neg c11] at h
                  cases h
          · rw [if_neg c8] at h
            cases h
        · rw [if_neg c7] at h
          cases h
      · rw [if_neg c6] at h
        cases h
theorem impl_search_first.J (k : Nat) (a0 : S65) (a1 : (List S44)) (r : (Int × S65 × (List (List Int)))) (h : impl_search_first.f k a0 a1 = some r) : J prog (.call 53 [(.pt 0 0 2), (.sl true a1.length 2 (a1.flatMap e44))] [(0, [(.sl true a0.f0.length 1 (a0.f0.flatMap encI)), (.pt 2000000001 0 1)]), (2000000001, (mrow a0.f1))] (I r.1) [(0, [(.sl true r.2.1.f0.length 1 (r.2.1.f0.flatMap encI)), (.pt 2000000001 0 1)]), (2000000001, (mrow r.2.2))]) := by
  exact (impl_search_first.lab k).1 a0 a1 r h
theorem impl_search_canFinish.J (k : Nat) (a0 : S65) (a1 : (List S44)) (r : (Bool × S65 × (List (List Int)))) (h : impl_search_canFinish.f k a0 a1 = some r) : J prog (.call 52 [(.pt 0 0 2), (.sl true a1.length 2 (a1.flatMap e44))] [(0, [(.sl true a0.f0.length 1 (a0.f0.flatMap encI)), (.pt 2000000001 0 1)]), (2000000001, (mrow a0.f1))] (B r.1) [(0, [(.sl true r.2.1.f0.length 1 (r.2.1.f0.flatMap encI)), (.pt 2000000001 0 1)]), (2000000001, (mrow r.2.2))]) := by
  exact (impl_search_first.lab k).2.2.1 a0 a1 r h
/-! impl_FirstMove: function 31 -/
def impl_FirstMove.f (k : Nat) (a0 : (List Int)) (a1 : (List S44)) : Option Int := ((impl_SinglesOk.f k a0 a1).bind fun x1 => (if x1 = true then ((impl_newSearch.f a0).bind fun x2 => ((impl_search_first.f k x2 a1).bind fun x3 => (some x3.1))) else (some (-1))))
theorem impl_FirstMove.J (k : Nat) (a0 : (List Int)) (a1 : (List S44)) (r : Int) (h : impl_FirstMove.f k a0 a1 = some r) : J prog (.call 31 [(.sl true a0.length 1 (a0.flatMap encI)), (.sl true a1.length 2 (a1.flatMap e44))] [] (I r) []) := by
  unfold impl_FirstMove.f at h
  refine .call' [c_ 2, c_ 3] ?_
  refine .reg' [0, 1] [] ⟨[(0, (.sl true a0.length 1 (a0.flatMap encI))), (1, (.sl true a1.length 2 (a1.flatMap e44)))], [], [], []⟩ [c_ 12, c_ 13, c_ 7] aln nocal ?_
  obtain ⟨x1, hx1, h⟩ := Option.bind_eq_some_iff.mp h
  refine .reg' [0, 1, 8] [.no, .no, .c ⟨16, [(.sl true a0.length 1 (a0.flatMap encI)), (.sl true a1.length 2 (a1.flatMap e44))], [], (B x1), [], [], [], [], (B x1), []⟩] ⟨[(0, (.sl true a0.length 1 (a0.flatMap encI))), (1, (.sl true a1.length 2 (a1.flatMap e44))), (8, (B (!x1)))], [], [COK (hget []) [(.sl true a0.length 1 (a0.flatMap encI)), (.sl true a1.length 2 (a1.flatMap e44))] ⟨16, [(.sl true a0.length 1 (a0.flatMap encI)), (.sl true a1.length 2 (a1.flatMap e44))], [], (B x1), [], [], [], [], (B x1), []⟩], [⟨16, [(.sl true a0.length 1 (a0.flatMap encI)), (.sl true a1.length 2 (a1.flatMap e44))], [], (B x1), [], [], [], [], (B x1), []⟩]⟩ [c_ 13, c_ 7] (alc (cok0 false (a2c (.z (frz_sl encI_ok (fun h => h))) (a2c (.z (frz_sl e44_ok (fun h => h))) a2n)) (.z .s) (fun h => absurd h (by decide))) aln) (acal (impl_SinglesOk.J k a0 a1 _ hx1) nocal) ?_
  by_cases c1 : x1 = true
  · rw [if_pos c1] at h
    refine .cond' (.tmp 8) false [c_ 14, c_ 15] (bF (nF c1)) ?_
    obtain ⟨x2, hx2, h⟩ := Option.bind_eq_some_iff.mp h
    obtain ⟨x3, hx3, h⟩ := Option.bind_eq_some_iff.mp h
    refine .reg' [4] [.no, .c ⟨51, [(.sl true a0.length 1 (a0.flatMap encI))], [], (.pt 515 0 2), [(515, [(.sl true x2.f0.length 1 (x2.f0.flatMap encI)), (.pt 2000000515 0 1)]), (2000000515, (mrow x2.f1))], [], [], [(1001025, 515), (2002001025, 2000000515)], (.pt 1001025 0 2), [(1001025, [(.sl true x2.f0.length 1 (x2.f0.flatMap encI)), (.pt 2002001025 0 1)]), (2002001025, (mrow x2.f1))]⟩, .no, .c ⟨53, [(.pt 0 0 2), (.sl true a1.length 2 (a1.flatMap e44))], [(0, [(.sl true x2.f0.length 1 (x2.f0.flatMap encI)), (.pt 2000000001 0 1)]), (2000000001, (mrow x2.f1))], (I x3.1), [(0, [(.sl true x3.2.1.f0.length 1 (x3.2.1.f0.flatMap encI)), (.pt 2000000001 0 1)]), (2000000001, (mrow x3.2.2))], [], [(1001025, 0), (2002001025, 2000000001)], [(1001025, 0), (2002001025, 2000000001)], (I x3.1), [(1001025, [(.sl true x3.2.1.f0.length 1 (x3.2.1.f0.flatMap encI)), (.pt 2002001025 0 1)]), (2002001025, (mrow x3.2.2))]⟩] ⟨[(4, (I x3.1))], [(2002001025, (mrow x3.2.2)), (1001025, [(.sl true x3.2.1.f0.length 1 (x3.2.1.f0.flatMap encI)), (.pt 2002001025 0 1)])], [COK (hget []) [(.sl true a0.length 1 (a0.flatMap encI))] ⟨51, [(.sl true a0.length 1 (a0.flatMap encI))], [], (.pt 515 0 2), [(515, [(.sl true x2.f0.length 1 (x2.f0.flatMap encI)), (.pt 2000000515 0 1)]), (2000000515, (mrow x2.f1))], [], [], [(1001025, 515), (2002001025, 2000000515)], (.pt 1001025 0 2), [(1001025, [(.sl true x2.f0.length 1 (x2.f0.flatMap encI)), (.pt 2002001025 0 1)]), (2002001025, (mrow x2.f1))]⟩, COK (hget [(2002001025, (mrow x2.f1)), (1001025, [(.sl true x2.f0.length 1 (x2.f0.flatMap encI)), (.pt 2002001025 0 1)])]) [(.pt 1001025 0 2), (.sl true a1.length 2 (a1.flatMap e44))] ⟨53, [(.pt 0 0 2), (.sl true a1.length 2 (a1.flatMap e44))], [(0, [(.sl true x2.f0.length 1 (x2.f0.flatMap encI)), (.pt 2000000001 0 1)]), (2000000001, (mrow x2.f1))], (I x3.1), [(0, [(.sl true x3.2.1.f0.length 1 (x3.2.1.f0.flatMap encI)), (.pt 2000000001 0 1)]), (2000000001, (mrow x3.2.2))], [], [(1001025, 0), (2002001025, 2000000001)], [(1001025, 0), (2002001025, 2000000001)], (I x3.1), [(1001025, [(.sl true x3.2.1.f0.length 1 (x3.2.1.f0.flatMap encI)), (.pt 2002001025 0 1)]), (2002001025, (mrow x3.2.2))]⟩], [⟨51, [(.sl true a0.length 1 (a0.flatMap encI))], [], (.pt 515 0 2), [(515, [(.sl true x2.f0.length 1 (x2.f0.flatMap encI)), (.pt 2000000515 0 1)]), (2000000515, (mrow x2.f1))], [], [], [(1001025, 515), (2002001025, 2000000515)], (.pt 1001025 0 2), [(1001025, [(.sl true x2.f0.length 1 (x2.f0.flatMap encI)), (.pt 2002001025 0 1)]), (2002001025, (mrow x2.f1))]⟩, ⟨53, [(.pt 0 0 2), (.sl true a1.length 2 (a1.flatMap e44))], [(0, [(.sl true x2.f0.length 1 (x2.f0.flatMap encI)), (.pt 2000000001 0 1)]), (2000000001, (mrow x2.f1))], (I x3.1), [(0, [(.sl true x3.2.1.f0.length 1 (x3.2.1.f0.flatMap encI)), (.pt 2000000001 0 1)]), (2000000001, (mrow x3.2.2))], [], [(1001025, 0), (2002001025, 2000000001)], [(1001025, 0), (2002001025, 2000000001)], (I x3.1), [(1001025, [(.sl true x3.2.1.f0.length 1 (x3.2.1.f0.flatMap encI)), (.pt 2002001025 0 1)]), (2002001025, (mrow x3.2.2))]⟩]⟩ [c_ 15] (alc (cokW true (a2c (.z (frz_sl encI_ok (fun h => h))) a2n) akn (akc (.inr rfl) (akc (.inr rfl) akn)) (.pt (memP_mem (p := (1001025, 515)) rfl)) (akc ⟨_, _, rfl, rfl, (a2c (.z (clnS encI_c (fun h => rfl))) (a2c (.pt (memP_mem (p := (2002001025, 2000000515)) rfl)) a2n))⟩ (akc ⟨_, _, rfl, rfl, mrowB _⟩ akn)) (fun h => rfl)) (alc (cokW true (a2c (.pt (memP_mem (p := (1001025, 0)) rfl)) (a2c (.z (frz_sl e44_ok (fun h => h))) a2n)) (akc ⟨_, _, rfl, rfl, (a2c (.z (frz_sl encI_ok (fun h => h))) (a2c (.pt (memP_mem (p := (2002001025, 2000000001)) rfl)) a2n))⟩ (akc ⟨_, _, rfl, rfl, (mrowC _)⟩ akn)) (akc (.inl rfl) (akc (.inl rfl) akn)) (.z .s) (akc ⟨_, _, rfl, rfl, (a2c (.z (clnS encI_c (fun h => rfl))) (a2c (.pt (memP_mem (p := (2002001025, 2000000001)) rfl)) a2n))⟩ (akc ⟨_, _, rfl, rfl, mrowB _⟩ akn)) (fun h => rfl)) aln)) (acal (impl_newSearch.J a0 _ hx2) (acal (impl_search_first.J k x2 a1 _ hx3) nocal)) ?_
    have h := Option.some.inj h
    subst h
    exact .fin0 [] (I x3.1) [] aln (.z .s)
  · rw [if_neg c1] at h
    refine .cond' (.tmp 8) true [c_ 52, c_ 53, c_ 7] (bT (nT (vF c1))) ?_
    refine .reg' [4] [] ⟨[(4, (I (-1)))], [], [], []⟩ [c_ 53, c_ 7] aln nocal ?_
    have h := Option.some.inj h
    subst h
    exact .fin0 [] (I (-1)) [] aln (.z .s)
/-! laws_eqIntS: function 17 -/
def laws_eqIntS.l0 : Nat → (List Int) → (List Int) → Int → Option Bool
 | 0, _, _, _ => none
 | k + 1, a0, a1, x1 => (if x1 < (a0.length : Int) then (if 0 ≤ x1 then (if x1 < (a1.length : Int) then (if (at_ a0 x1) = (at_ a1 x1) then (laws_eqIntS.l0 k a0 a1 (wrap64 (x1 + 1))) else (some false)) else none) else none) else (some true))
def laws_eqIntS.f (k : Nat) (a0 : (List Int)) (a1 : (List Int)) : Option Bool := (if (a0.length : Int) = (a1.length : Int) then (laws_eqIntS.l0 k a0 a1 0) else (some false))
theorem laws_eqIntS.lab : ∀ k, (∀ (a0 : (List Int)) (a1 : (List Int)) (x1 : Int) (r : Bool), laws_eqIntS.l0 k a0 a1 x1 = some r → J prog (.run 17 [] [l_ 58, b_ 0, c_ 15] [(0, (.sl true a0.length 1 (a0.flatMap encI))), (1, (.sl true a1.length 1 (a1.flatMap encI))), (5, (I x1))] [] (B r) []))
 | 0 => (by intro a0 a1 x1 r h; unfold laws_eqIntS.l0 at h; cases h)
 | k + 1 => by
  have ih0 := laws_eqIntS.lab k
  · intro a0 a1 x1 r h
    unfold laws_eqIntS.l0 at h
    refine .loop' [c_ 464, c_ 465, c_ 233, l_ 58, b_ 0, c_ 15] ?_
    refine .reg' [0, 1, 5, 14] [] ⟨[(0, (.sl true a0.length 1 (a0.flatMap encI))), (1, (.sl true a1.length 1 (a1.flatMap encI))), (5, (I x1)), (14, (B (decide (x1 < (a0.length : Int)))))], [], [], []⟩ [c_ 465, c_ 233, l_ 58, b_ 0, c_ 15] aln nocal ?_
    by_cases c2 : x1 < (a0.length : Int)
    · rw [if_pos c2] at h
      refine .cond' (.tmp 14) true [c_ 1864, c_ 1865, b_ 1, c_ 467, l_ 58, b_ 0, c_ 15] (bT (dT c2)) ?_
      by_cases c3 : 0 ≤ x1
      · rw [if_pos c3] at h
        by_cases c4 : x1 < (a1.length : Int)
        · rw [if_pos c4] at h
          refine .reg' [0, 1, 5, 25] [.no, .no, .no, .v (I (at_ a0 x1)), .no, .no, .no, .v (I (at_ a1 x1))] ⟨[(0, (.sl true a0.length 1 (a0.flatMap encI))), (1, (.sl true a1.length 1 (a1.flatMap encI))), (5, (I x1)), (25, (B (!((at_ a0 x1) == (at_ a1 x1)))))], [], [(0 : Int) ≤ x1 ∧ x1 < (a0.length : Int), rdC prog 3 ((a0.flatMap encI).drop (x1.toNat * 1)) = (I (at_ a0 x1)), 1 ≤ ((a0.flatMap encI).drop (x1.toNat * 1)).length, (0 : Int) ≤ x1 ∧ x1 < (a1.length : Int), rdC prog 3 ((a1.flatMap encI).drop (x1.toNat * 1)) = (I (at_ a1 x1)), 1 ≤ ((a1.flatMap encI).drop (x1.toNat * 1)).length], []⟩ [c_ 1865, b_ 1, c_ 467, l_ 58, b_ 0, c_ 15] (alc ⟨c3, c2⟩ (alc (ldC1 encI_ok rfl c3 c2) (alc (okI encI_ok c3 c2 (by decide)) (alc ⟨c3, c4⟩ (alc (ldC1 encI_ok rfl c3 c4) (alc (okI encI_ok c3 c4 (by decide)) aln)))))) nocal ?_
          by_cases c5 : (at_ a0 x1) = (at_ a1 x1)
          · rw [if_pos c5] at h
            refine .cond' (.tmp 25) false [c_ 467, l_ 58, b_ 0, c_ 15] (bF (nF (qT c5))) ?_
            refine .reg' [0, 1, 5] [] ⟨[(0, (.sl true a0.length 1 (a0.flatMap encI))), (1, (.sl true a1.length 1 (a1.flatMap encI))), (5, (I (wrap64 (x1 + 1))))], [], [], []⟩ [l_ 58, b_ 0, c_ 15] aln nocal ?_
            exact ih0 a0 a1 (wrap64 (x1 + 1)) _ h
          · rw [if_neg c5] at h
            refine .cond' (.tmp 25) true [c_ 7460, c_ 7461, b_ 1, c_ 467, l_ 58, b_ 0, c_ 15] (bT (nT (qF c5))) ?_
            refine .reg' [4] [] ⟨[(4, (B false))], [], [], []⟩ [c_ 7461, b_ 1, c_ 467, l_ 58, b_ 0, c_ 15] aln nocal ?_
            have h := Option.some.inj h
            subst h
            exact .fin0 [] (B false) [] aln (.z .s)
        · rw [if_neg c4] at h
          cases h
      · rw [if_neg c3] at h
        cases h
    · rw [if_neg c2] at h
      refine .cond' (.tmp 14) false [c_ 30, c_ 31] (bF (dF c2)) ?_
      refine .reg' [4] [] ⟨[(4, (B true))], [], [], []⟩ [c_ 31] aln nocal ?_
      have h := Option.some.inj h
      subst h
      exact .fin0 [] (B true) [] aln (.z .s)
theorem laws_eqIntS.J (k : Nat) (a0 : (List Int)) (a1 : (List Int)) (r : Bool) (h : laws_eqIntS.f k a0 a1 = some r) : J prog (.call 17 [(.sl true a0.length 1 (a0.flatMap encI)), (.sl true a1.length 1 (a1.flatMap encI))] [] (B r) []) := by
  unfold laws_eqIntS.f at h
  have ih0 := laws_eqIntS.lab k
  refine .call' [c_ 2, c_ 3] ?_
  refine .reg' [0, 1] [] ⟨[(0, (.sl true a0.length 1 (a0.flatMap encI))), (1, (.sl true a1.length 1 (a1.flatMap encI)))], [], [], []⟩ [c_ 12, c_ 13, c_ 7] aln nocal ?_
  refine .reg' [0, 1, 10] [] ⟨[(0, (.sl true a0.length 1 (a0.flatMap encI))), (1, (.sl true a1.length 1 (a1.flatMap encI))), (10, (B (!((a0.length : Int) == (a1.length : Int)))))], [], [], []⟩ [c_ 13, c_ 7] aln nocal ?_
  by_cases c1 : (a0.length : Int) = (a1.length : Int)
  · rw [if_pos c1] at h
    refine .cond' (.tmp 10) false [c_ 28, c_ 29, c_ 15] (bF (nF (qT c1))) ?_
    refine .reg' [0, 1, 5] [] ⟨[(0, (.sl true a0.length 1 (a0.flatMap encI))), (1, (.sl true a1.length 1 (a1.flatMap encI))), (5, (I 0))], [], [], []⟩ [l_ 58, b_ 0, c_ 15] aln nocal ?_
    exact ih0 a0 a1 0 _ h
  · rw [if_neg c1] at h
    refine .cond' (.tmp 10) true [c_ 52, c_ 53, c_ 7] (bT (nT (qF c1))) ?_
    refine .reg' [4] [] ⟨[(4, (B false))], [], [], []⟩ [c_ 53, c_ 7] aln nocal ?_
    have h := Option.some.inj h
    subst h
    exact .fin0 [] (B false) [] aln (.z .s)
/-! laws_eqSingle: function 44 -/
def laws_eqSingle.f (a0 : S44) (a1 : S44) : Option Bool := (if a0.f0 = a1.f0 then (if a0.f1 = a1.f1 then (some true) else (some false)) else (some false))
theorem laws_eqSingle.J (a0 : S44) (a1 : S44) (r : Bool) (h : laws_eqSingle.f a0 a1 = some r) : J prog (.call 44 [(.ag [(I a0.f0), (I a0.f1)]), (.ag [(I a1.f0), (I a1.f1)])] [] (B r) []) := by
  unfold laws_eqSingle.f at h
  refine .call' [c_ 2, c_ 3] ?_
  refine .reg' [2, 3] [] ⟨[(2, (.pt 256 0 2)), (3, (.pt 257 0 2))], [(256, [(I a0.f0), (I a0.f1)]), (257, [(I a1.f0), (I a1.f1)])], [], []⟩ [c_ 12, c_ 13, c_ 7] aln nocal ?_
  refine .reg' [2, 3, 9] [] ⟨[(2, (.pt 256 0 2)), (3, (.pt 257 0 2)), (9, (B (!(a0.f0 == a1.f0))))], [(256, [(I a0.f0), (I a0.f1)]), (257, [(I a1.f0), (I a1.f1)])], [2 = 2 ∧ 0 + 1 ≤ 2, 2 = 2 ∧ 0 + 1 ≤ 2], []⟩ [c_ 13, c_ 7] (alc ⟨rfl, by decide⟩ (alc ⟨rfl, by decide⟩ aln)) nocal ?_
  by_cases c1 : a0.f0 = a1.f0
  · rw [if_pos c1] at h
    refine .cond' (.tmp 9) false [c_ 28, c_ 29, c_ 15] (bF (nF (qT c1))) ?_
    refine .reg' [14] [] ⟨[(14, (B (!(a0.f1 == a1.f1))))], [(256, [(I a0.f0), (I a0.f1)]), (257, [(I a1.f0), (I a1.f1)])], [2 = 2 ∧ 1 + 1 ≤ 2, 2 = 2 ∧ 1 + 1 ≤ 2], []⟩ [c_ 29, c_ 15] (alc ⟨rfl, by decide⟩ (alc ⟨rfl, by decide⟩ aln)) nocal ?_
    by_cases c2 : a0.f1 = a1.f1
    · rw [if_pos c2] at h
      refine .cond' (.tmp 14) false [c_ 30, c_ 31] (bF (nF (qT c2))) ?_
      refine .reg' [4] [] ⟨[(4, (B true))], [(256, [(I a0.f0), (I a0.f1)]), (257, [(I a1.f0), (I a1.f1)])], [], []⟩ [c_ 31] aln nocal ?_
      have h := Option.some.inj h
      subst h
      exact .fin0 [] (B true) [] aln (.z .s)
    · rw [if_neg c2] at h
      refine .cond' (.tmp 14) true [c_ 116, c_ 117, c_ 15] (bT (nT (qF c2))) ?_
      refine .reg' [4] [] ⟨[(4, (B false))], [(256, [(I a0.f0), (I a0.f1)]), (257, [(I a1.f0), (I a1.f1)])], [], []⟩ [c_ 117, c_ 15] aln nocal ?_
      have h := Option.some.inj h
      subst h
      exact .fin0 [] (B false) [] aln (.z .s)
  · rw [if_neg c1] at h
    refine .cond' (.tmp 9) true [c_ 52, c_ 53, c_ 7] (bT (nT (qF c1))) ?_
    refine .reg' [4] [] ⟨[(4, (B false))], [(256, [(I a0.f0), (I a0.f1)]), (257, [(I a1.f0), (I a1.f1)])], [], []⟩ [c_ 53, c_ 7] aln nocal ?_
    have h := Option.some.inj h
    subst h
    exact .fin0 [] (B false) [] aln (.z .s)
/-! laws_eqSingleS: function 18 -/
def laws_eqSingleS.l0 : Nat → (List S44) → (List S44) → Int → Option Bool
 | 0, _, _, _ => none
 | k + 1, a0, a1, x1 => (if x1 < (a0.length : Int) then (if 0 ≤ x1 then (if x1 < (a1.length : Int) then ((laws_eqSingle.f (at_ a0 x1) (at_ a1 x1)).bind fun x2 => (if x2 = true then (laws_eqSingleS.l0 k a0 a1 (wrap64 (x1 + 1))) else (some false))) else none) else none) else (some true))
def laws_eqSingleS.f (k : Nat) (a0 : (List S44)) (a1 : (List S44)) : Option Bool := (if (a0.length : Int) = (a1.length : Int) then (laws_eqSingleS.l0 k a0 a1 0) else (some false))
theorem laws_eqSingleS.lab : ∀ k, (∀ (a0 : (List S44)) (a1 : (List S44)) (x1 : Int) (r : Bool), laws_eqSingleS.l0 k a0 a1 x1 = some r → J prog (.run 18 [] [l_ 58, b_ 0, c_ 15] [(0, (.sl true a0.length 2 (a0.flatMap e44))), (1, (.sl true a1.length 2 (a1.flatMap e44))), (5, (I x1))] [] (B r) []))
 | 0 => (by intro a0 a1 x1 r h; unfold laws_eqSingleS.l0 at h; cases h)
 | k + 1 => by
  have ih0 := laws_eqSingleS.lab k
  · intro a0 a1 x1 r h
    unfold laws_eqSingleS.l0 at h
    refine .loop' [c_ 464, c_ 465, c_ 233, l_ 58, b_ 0, c_ 15] ?_
    refine .reg' [0, 1, 5, 14] [] ⟨[(0, (.sl true a0.length 2 (a0.flatMap e44))), (1, (.sl true a1.length 2 (a1.flatMap e44))), (5, (I x1)), (14, (B (decide (x1 < (a0.length : Int)))))], [], [], []⟩ [c_ 465, c_ 233, l_ 58, b_ 0, c_ 15] aln nocal ?_
    by_cases c2 : x1 < (a0.length : Int)
    · rw [if_pos c2] at h
      refine .cond' (.tmp 14) true [c_ 1864, c_ 1865, b_ 1, c_ 467, l_ 58, b_ 0, c_ 15] (bT (dT c2)) ?_
      by_cases c3 : 0 ≤ x1
      · rw [if_pos c3] at h
        by_cases c4 : x1 < (a1.length : Int)
        · rw [if_pos c4] at h
          obtain ⟨x2, hx2, h⟩ := Option.bind_eq_some_iff.mp h
          refine .reg' [0, 1, 5, 26] [.no, .no, .no, .v (.ag [(I (at_ a0 x1).f0), (I (at_ a0 x1).f1)]), .no, .no, .no, .v (.ag [(I (at_ a1 x1).f0), (I (at_ a1 x1).f1)]), .c ⟨44, [(.ag [(I (at_ a0 x1).f0), (I (at_ a0 x1).f1)]), (.ag [(I (at_ a1 x1).f0), (I (at_ a1 x1).f1)])], [], (B x2), [], [], [], [], (B x2), []⟩] ⟨[(0, (.sl true a0.length 2 (a0.flatMap e44))), (1, (.sl true a1.length 2 (a1.flatMap e44))), (5, (I x1)), (26, (B (!x2)))], [], [(0 : Int) ≤ x1 ∧ x1 < (a0.length : Int), rdC prog 45 ((a0.flatMap e44).drop (x1.toNat * 2)) = (.ag [(I (at_ a0 x1).f0), (I (at_ a0 x1).f1)]), 2 ≤ ((a0.flatMap e44).drop (x1.toNat * 2)).length, (0 : Int) ≤ x1 ∧ x1 < (a1.length : Int), rdC prog 45 ((a1.flatMap e44).drop (x1.toNat * 2)) = (.ag [(I (at_ a1 x1).f0), (I (at_ a1 x1).f1)]), 2 ≤ ((a1.flatMap e44).drop (x1.toNat * 2)).length, COK (hget []) [(.ag [(I (at_ a0 x1).f0), (I (at_ a0 x1).f1)]), (.ag [(I (at_ a1 x1).f0), (I (at_ a1 x1).f1)])] ⟨44, [(.ag [(I (at_ a0 x1).f0), (I (at_ a0 x1).f1)]), (.ag [(I (at_ a1 x1).f0), (I (at_ a1 x1).f1)])], [], (B x2), [], [], [], [], (B x2), []⟩], [⟨44, [(.ag [(I (at_ a0 x1).f0), (I (at_ a0 x1).f1)]), (.ag [(I (at_ a1 x1).f0), (I (at_ a1 x1).f1)])], [], (B x2), [], [], [], [], (B x2), []⟩]⟩ [c_ 1865, b_ 1, c_ 467, l_ 58, b_ 0, c_ 15] (alc ⟨c3, c2⟩ (alc (ldA e44_ok rfl rfl c3 c2) (alc (okI e44_ok c3 c2 (by decide)) (alc ⟨c3, c4⟩ (alc (ldA e44_ok rfl rfl c3 c4) (alc (okI e44_ok c3 c4 (by decide)) (alc (cok0 false (a2c (.z (frz_ag (a2c .s (a2c .s a2n)))) (a2c (.z (frz_ag (a2c .s (a2c .s a2n)))) a2n)) (.z .s) (fun h => absurd h (by decide))) aln))))))) (acal (laws_eqSingle.J (at_ a0 x1) (at_ a1 x1) _ hx2) nocal) ?_
          by_cases c5 : x2 = true
          · rw [if_pos c5] at h
            refine .cond' (.tmp 26) false [c_ 467, l_ 58, b_ 0, c_ 15] (bF (nF c5)) ?_
            refine .reg' [0, 1, 5] [] ⟨[(0, (.sl true a0.length 2 (a0.flatMap e44))), (1, (.sl true a1.length 2 (a1.flatMap e44))), (5, (I (wrap64 (x1 + 1))))], [], [], []⟩ [l_ 58, b_ 0, c_ 15] aln nocal ?_
            exact ih0 a0 a1 (wrap64 (x1 + 1)) _ h
          · rw [if_neg c5] at h
            refine .cond' (.tmp 26) true [c_ 7460, c_ 7461, b_ 1, c_ 467, l_ 58, b_ 0, c_ 15] (bT (nT (vF c5))) ?_
            refine .reg' [4] [] ⟨[(4, (B false))], [], [], []⟩ [c_ 7461, b_ 1, c_ 467, l_ 58, b_ 0, c_ 15] aln nocal ?_
            have h := Option.some.inj h
            subst h
            exact .fin0 [] (B false) [] aln (.z .s)
        · rw [if_neg c4] at h
          cases h
      · rw [if_neg c3] at h
        cases h
    · rw [if_neg c2] at h
      refine .cond' (.tmp 14) false [c_ 30, c_ 31] (bF (dF c2)) ?_
      refine .reg' [4] [] ⟨[(4, (B true))], [], [], []⟩ [c_ 31] aln nocal ?_
      have h := Option.some.inj h
      subst h
      exact .fin0 [] (B true) [] aln (.z .s)
theorem laws_eqSingleS.J (k : Nat) (a0 : (List S44)) (a1 : (List S44)) (r : Bool) (h : laws_eqSingleS.f k a0 a1 = some r) : J prog (.call 18 [(.sl true a0.length 2 (a0.flatMap e44)), (.sl true a1.length 2 (a1.flatMap e44))] [] (B r) []) := by
  unfold laws_eqSingleS.f at h
  have ih0 := laws_eqSingleS.lab k
  refine .call' [c_ 2, c_ 3] ?_
  refine .reg' [0, 1] [] ⟨[(0, (.sl true a0.length 2 (a0.flatMap e44))), (1, (.sl true a1.length 2 (a1.flatMap e44)))], [], [], []⟩ [c_ 12, c_ 13, c_ 7] aln nocal ?_
  refine .reg' [0, 1, 10] [] ⟨[(0, (.sl true a0.length 2 (a0.flatMap e44))), (1, (.sl true a1.length 2 (a1.flatMap e44))), (10, (B (!((a0.length : Int) == (a1.length : Int)))))], [], [], []⟩ [c_ 13, c_ 7] aln nocal ?_
  by_cases c1 : (a0.length : Int) = (a1.length : Int)
  · rw [if_pos c1] at h
    refine .cond' (.tmp 10) false [c_ 28, c_ 29, c_ 15] (bF (nF (qT c1))) ?_
    refine .reg' [0, 1, 5] [] ⟨[(0, (.sl true a0.length 2 (a0.flatMap e44))), (1, (.sl true a1.length 2 (a1.flatMap e44))), (5, (I 0))], [], [], []⟩ [l_ 58, b_ 0, c_ 15] aln nocal ?_
    exact ih0 a0 a1 0 _ h
  · rw [if_neg c1] at h
    refine .cond' (.tmp 10) true [c_ 52, c_ 53, c_ 7] (bT (nT (qF c1))) ?_
    refine .reg' [4] [] ⟨[(4, (B false))], [], [], []⟩ [c_ 53, c_ 7] aln nocal ?_
    have h := Option.some.inj h
    subst h
    exact .fin0 [] (B false) [] aln (.z .s)
/-! laws_FnExactFirstMove: function 8 -/
def laws_FnExactFirstMove.f (k : Nat) (a0 : (List Int)) (a1 : (List S44)) : Option Bool := (if (a0.length : Int) > 1048576 then (some true) else ((laws_szSingleS.f a1 1048576).bind fun x1 => (if x1 < 0 then (some true) else ((laws_toIntS.f k a0).bind fun x2 => ((laws_toSingleS.f k a1).bind fun x3 => ((spec_FirstMove.f k x2 x3).bind fun x4 => ((laws_toIntS.f k a0).bind fun x5 => ((laws_toSingleS.f k a1).bind fun x6 => ((impl_FirstMove.f k x5 x6).bind fun x7 => (if x7 = x4 then ((laws_toIntS.f k a0).bind fun x8 => ((laws_eqIntS.f k x5 x8).bind fun x9 => (if x9 = true then ((laws_toSingleS.f k a1).bind fun x10 => ((laws_eqSingleS.f k x6 x10).bind fun x11 => (if x11 = true then (some true) else (some false)))) else (some false)))) else (some false)))))))))))
theorem laws_FnExactFirstMove.J (k : Nat) (a0 : (List Int)) (a1 : (List S44)) (r : Bool) (h : laws_FnExactFirstMove.f k a0 a1 = some r) : J prog (.call 8 [(.sl true a0.length 1 (a0.flatMap encI)), (.sl true a1.length 2 (a1.flatMap e44))] [] (B r) []) := by
  unfold laws_FnExactFirstMove.f at h
  refine .call' [c_ 2, c_ 3] ?_
  refine .reg' [0, 1] [] ⟨[(0, (.sl true a0.length 1 (a0.flatMap encI))), (1, (.sl true a1.length 2 (a1.flatMap e44)))], [], [], []⟩ [c_ 12, c_ 13, c_ 7] aln nocal ?_
  refine .reg' [0, 1, 12] [] ⟨[(0, (.sl true a0.length 1 (a0.flatMap encI))), (1, (.sl true a1.length 2 (a1.flatMap e44))), (12, (B (decide ((a0.length : Int) > 1048576))))], [], [], []⟩ [c_ 13, c_ 7] aln nocal ?_
  by_cases c1 : (a0.length : Int) > 1048576
  · rw [if_pos c1] at h
    refine .cond' (.tmp 12) true [c_ 52, c_ 53, c_ 7] (bT (dT c1)) ?_
    refine .reg' [4] [] ⟨[(4, (B true))], [], [], []⟩ [c_ 53, c_ 7] aln nocal ?_
    have h := Option.some.inj h
    subst h
    exact .fin0 [] (B true) [] aln (.z .s)
  · rw [if_neg c1] at h
    refine .cond' (.tmp 12) false [c_ 14, c_ 15] (bF (dF c1)) ?_
    refine .reg' [0, 1, 5] [] ⟨[(0, (.sl true a0.length 1 (a0.flatMap encI))), (1, (.sl true a1.length 2 (a1.flatMap e44))), (5, (I 1048576))], [], [], []⟩ [c_ 30, c_ 31] aln nocal ?_
    obtain ⟨x1, hx1, h⟩ := Option.bind_eq_some_iff.mp h
    refine .reg' [0, 1, 5] [.no, .no, .c ⟨12, [(.sl true a1.length 2 (a1.flatMap e44)), (I 1048576)], [], (I x1), [], [], [], [], (I x1), []⟩] ⟨[(0, (.sl true a0.length 1 (a0.flatMap encI))), (1, (.sl true a1.length 2 (a1.flatMap e44))), (5, (I x1))], [], [COK (hget []) [(.sl true a1.length 2 (a1.flatMap e44)), (I 1048576)] ⟨12, [(.sl true a1.length 2 (a1.flatMap e44)), (I 1048576)], [], (I x1), [], [], [], [], (I x1), []⟩], [⟨12, [(.sl true a1.length 2 (a1.flatMap e44)), (I 1048576)], [], (I x1), [], [], [], [], (I x1), []⟩]⟩ [c_ 124, c_ 125, c_ 63] (alc (cok0 false (a2c (.z (frz_sl e44_ok (fun h => h))) (a2c (.z .s) a2n)) (.z .s) (fun h => absurd h (by decide))) aln) (acal (laws_szSingleS.J a1 1048576 _ hx1) nocal) ?_
    refine .reg' [0, 1, 17] [] ⟨[(0, (.sl true a0.length 1 (a0.flatMap encI))), (1, (.sl true a1.length 2 (a1.flatMap e44))), (17, (B (decide (x1 < 0))))], [], [], []⟩ [c_ 125, c_ 63] aln nocal ?_
    by_cases c2 : x1 < 0
    · rw [if_pos c2] at h
      refine .cond' (.tmp 17) true [c_ 500, c_ 501, c_ 63] (bT (dT c2)) ?_
      refine .reg' [4] [] ⟨[(4, (B true))], [], [], []⟩ [c_ 501, c_ 63] aln nocal ?_
      have h := Option.some.inj h
      subst h
      exact .fin0 [] (B true) [] aln (.z .s)
    · rw [if_neg c2] at h
      refine .cond' (.tmp 17) false [c_ 126, c_ 127] (bF (dF c2)) ?_
      obtain ⟨x2, hx2, h⟩ := Option.bind_eq_some_iff.mp h
      obtain ⟨x3, hx3, h⟩ := Option.bind_eq_some_iff.mp h
      obtain ⟨x4, hx4, h⟩ := Option.bind_eq_some_iff.mp h
      refine .reg' [0, 1, 6] [.no, .c ⟨14, [(.sl true a0.length 1 (a0.flatMap encI))], [], (.rf 514 0 x2.length 1 (x2.length * 1)), [(514, (x2.flatMap encI))], [], [], [(1002049, 514)], (.rf 1002049 0 x2.length 1 (x2.length * 1)), [(1002049, (x2.flatMap encI))]⟩, .no, .c ⟨15, [(.sl true a1.length 2 (a1.flatMap e44))], [], (.rf 514 0 x3.length 2 (x3.length * 2)), [(514, (x3.flatMap e44))], [], [], [(1002051, 514)], (.rf 1002051 0 x3.length 2 (x3.length * 2)), [(1002051, (x3.flatMap e44))]⟩, .c ⟨30, [(.sl true x2.length 1 (x2.flatMap encI)), (.sl true x3.length 2 (x3.flatMap e44))], [], (I x4), [], [1002049, 1002051], [], [], (I x4), []⟩] ⟨[(0, (.sl true a0.length 1 (a0.flatMap encI))), (1, (.sl true a1.length 2 (a1.flatMap e44))), (6, (I x4))], [(1002049, (x2.flatMap encI)), (1002051, (x3.flatMap e44))], [COK (hget []) [(.sl true a0.length 1 (a0.flatMap encI))] ⟨14, [(.sl true a0.length 1 (a0.flatMap encI))], [], (.rf 514 0 x2.length 1 (x2.length * 1)), [(514, (x2.flatMap encI))], [], [], [(1002049, 514)], (.rf 1002049 0 x2.length 1 (x2.length * 1)), [(1002049, (x2.flatMap encI))]⟩, COK (hget [(1002049, (x2.flatMap encI))]) [(.sl true a1.length 2 (a1.flatMap e44))] ⟨15, [(.sl true a1.length 2 (a1.flatMap e44))], [], (.rf 514 0 x3.length 2 (x3.length * 2)), [(514, (x3.flatMap e44))], [], [], [(1002051, 514)], (.rf 1002051 0 x3.length 2 (x3.length * 2)), [(1002051, (x3.flatMap e44))]⟩, COK (hget [(1002049, (x2.flatMap encI)), (1002051, (x3.flatMap e44))]) [(.rf 1002049 0 x2.length 1 (x2.length * 1)), (.rf 1002051 0 x3.length 2 (x3.length * 2))] ⟨30, [(.sl true x2.length 1 (x2.flatMap encI)), (.sl true x3.length 2 (x3.flatMap e44))], [], (I x4), [], [1002049, 1002051], [], [], (I x4), []⟩], [⟨14, [(.sl true a0.length 1 (a0.flatMap encI))], [], (.rf 514 0 x2.length 1 (x2.length * 1)), [(514, (x2.flatMap encI))], [], [], [(1002049, 514)], (.rf 1002049 0 x2.length 1 (x2.length * 1)), [(1002049, (x2.flatMap encI))]⟩, ⟨15, [(.sl true a1.length 2 (a1.flatMap e44))], [], (.rf 514 0 x3.length 2 (x3.length * 2)), [(514, (x3.flatMap e44))], [], [], [(1002051, 514)], (.rf 1002051 0 x3.length 2 (x3.length * 2)), [(1002051, (x3.flatMap e44))]⟩, ⟨30, [(.sl true x2.length 1 (x2.flatMap encI)), (.sl true x3.length 2 (x3.flatMap e44))], [], (I x4), [], [1002049, 1002051], [], [], (I x4), []⟩]⟩ [c_ 254, c_ 255] (alc (cokW false (a2c (.z (frz_sl encI_ok (fun h => h))) a2n) akn (akc (.inr rfl) akn) (.rf (memP_mem (p := (1002049, 514)) rfl)) (akc ⟨_, _, rfl, rfl, rowB encI_c _⟩ akn) (fun h => absurd h (by decide))) (alc (cokW false (a2c (.z (frz_sl e44_ok (fun h => h))) a2n) akn (akc (.inr rfl) akn) (.rf (memP_mem (p := (1002051, 514)) rfl)) (akc ⟨_, _, rfl, rfl, rowB e44_c _⟩ akn) (fun h => absurd h (by decide))) (alc (cok0 false (a2c (.z (frz_rf (k := 1002049) encI_ok (by simp) rfl rfl (row_len encI_ok _).symm)) (a2c (.z (frz_rf (k := 1002051) e44_ok (by simp) rfl rfl (row_len e44_ok _).symm)) a2n)) (.z .s) (fun h => absurd h (by decide))) aln))) (acal (laws_toIntS.J k a0 _ hx2) (acal (laws_toSingleS.J k a1 _ hx3) (acal (spec_FirstMove.J k x2 x3 _ hx4) nocal))) ?_
      obtain ⟨x5, hx5, h⟩ := Option.bind_eq_some_iff.mp h
      refine .reg' [0, 1, 6, 7] [.no, .c ⟨14, [(.sl true a0.length 1 (a0.flatMap encI))], [], (.rf 514 0 x5.length 1 (x5.length * 1)), [(514, (x5.flatMap encI))], [], [], [(1002305, 514)], (.rf 1002305 0 x5.length 1 (x5.length * 1)), [(1002305, (x5.flatMap encI))]⟩] ⟨[(0, (.sl true a0.length 1 (a0.flatMap encI))), (1, (.sl true a1.length 2 (a1.flatMap e44))), (6, (I x4)), (7, (.rf 1002305 0 x5.length 1 (x5.length * 1)))], [(1002049, (x2.flatMap encI)), (1002051, (x3.flatMap e44)), (1002305, (x5.flatMap encI))], [COK (hget [(1002049, (x2.flatMap encI)), (1002051, (x3.flatMap e44))]) [(.sl true a0.length 1 (a0.flatMap encI))] ⟨14, [(.sl true a0.length 1 (a0.flatMap encI))], [], (.rf 514 0 x5.length 1 (x5.length * 1)), [(514, (x5.flatMap encI))], [], [], [(1002305, 514)], (.rf 1002305 0 x5.length 1 (x5.length * 1)), [(1002305, (x5.flatMap encI))]⟩], [⟨14, [(.sl true a0.length 1 (a0.flatMap encI))], [], (.rf 514 0 x5.length 1 (x5.length * 1)), [(514, (x5.flatMap encI))], [], [], [(1002305, 514)], (.rf 1002305 0 x5.length 1 (x5.length * 1)), [(1002305, (x5.flatMap encI))]⟩]⟩ [c_ 510, c_ 511] (alc (cokW false (a2c (.z (frz_sl encI_ok (fun h => h))) a2n) akn (akc (.inr rfl) akn) (.rf (memP_mem (p := (1002305, 514)) rfl)) (akc ⟨_, _, rfl, rfl, rowB encI_c _⟩ akn) (fun h => absurd h (by decide))) aln) (acal (laws_toIntS.J k a0 _ hx5) nocal) ?_
      obtain ⟨x6, hx6, h⟩ := Option.bind_eq_some_iff.mp h
      refine .reg' [0, 1, 6, 7, 8] [.no, .c ⟨15, [(.sl true a1.length 2 (a1.flatMap e44))], [], (.rf 514 0 x6.length 2 (x6.length * 2)), [(514, (x6.flatMap e44))], [], [], [(1002561, 514)], (.rf 1002561 0 x6.length 2 (x6.length * 2)), [(1002561, (x6.flatMap e44))]⟩] ⟨[(0, (.sl true a0.length 1 (a0.flatMap encI))), (1, (.sl true a1.length 2 (a1.flatMap e44))), (6, (I x4)), (7, (.rf 1002305 0 x5.length 1 (x5.length * 1))), (8, (.rf 1002561 0 x6.length 2 (x6.length * 2)))], [(1002049, (x2.flatMap encI)), (1002051, (x3.flatMap e44)), (1002305, (x5.flatMap encI)), (1002561, (x6.flatMap e44))], [COK (hget [(1002049, (x2.flatMap encI)), (1002051, (x3.flatMap e44)), (1002305, (x5.flatMap encI))]) [(.sl true a1.length 2 (a1.flatMap e44))] ⟨15, [(.sl true a1.length 2 (a1.flatMap e44))], [], (.rf 514 0 x6.length 2 (x6.length * 2)), [(514, (x6.flatMap e44))], [], [], [(1002561, 514)], (.rf 1002561 0 x6.length 2 (x6.length * 2)), [(1002561, (x6.flatMap e44))]⟩], [⟨15, [(.sl true a1.length 2 (a1.flatMap e44))], [], (.rf 514 0 x6.length 2 (x6.length * 2)), [(514, (x6.flatMap e44))], [], [], [(1002561, 514)], (.rf 1002561 0 x6.length 2 (x6.length * 2)), [(1002561, (x6.flatMap e44))]⟩]⟩ [c_ 1022, c_ 1023] (alc (cokW false (a2c (.z (frz_sl e44_ok (fun h => h))) a2n) akn (akc (.inr rfl) akn) (.rf (memP_mem (p := (1002561, 514)) rfl)) (akc ⟨_, _, rfl, rfl, rowB e44_c _⟩ akn) (fun h => absurd h (by decide))) aln) (acal (laws_toSingleS.J k a1 _ hx6) nocal) ?_
      obtain ⟨x7, hx7, h⟩ := Option.bind_eq_some_iff.mp h
      refine .reg' [0, 1, 6, 7, 8, 9] [.no, .no, .c ⟨31, [(.sl true x5.length 1 (x5.flatMap encI)), (.sl true x6.length 2 (x6.flatMap e44))], [], (I x7), [], [1002305, 1002561], [], [], (I x7), []⟩] ⟨[(0, (.sl true a0.length 1 (a0.flatMap encI))), (1, (.sl true a1.length 2 (a1.flatMap e44))), (6, (I x4)), (7, (.rf 1002305 0 x5.length 1 (x5.length * 1))), (8, (.rf 1002561 0 x6.length 2 (x6.length * 2))), (9, (I x7))], [(1002049, (x2.flatMap encI)), (1002051, (x3.flatMap e44)), (1002305, (x5.flatMap encI)), (1002561, (x6.flatMap e44))], [COK (hget [(1002049, (x2.flatMap encI)), (1002051, (x3.flatMap e44)), (1002305, (x5.flatMap encI)), (1002561, (x6.flatMap e44))]) [(.rf 1002305 0 x5.length 1 (x5.length * 1)), (.rf 1002561 0 x6.length 2 (x6.length * 2))] ⟨31, [(.sl true x5.length 1 (x5.flatMap encI)), (.sl true x6.length 2 (x6.flatMap e44))], [], (I x7), [], [1002305, 1002561], [], [], (I x7), []⟩], [⟨31, [(.sl true x5.length 1 (x5.flatMap encI)), (.sl true x6.length 2 (x6.flatMap e44))], [], (I x7), [], [1002305, 1002561], [], [], (I x7), []⟩]⟩ [c_ 4092, c_ 4093, c_ 2047] (alc (cok0 false (a2c (.z (frz_rf (k := 1002305) encI_ok (by simp) rfl rfl (row_len encI_ok _).symm)) (a2c (.z (frz_rf (k := 1002561) e44_ok (by simp) rfl rfl (row_len e44_ok _).symm)) a2n)) (.z .s) (fun h => absurd h (by decide))) aln) (acal (impl_FirstMove.J k x5 x6 _ hx7) nocal) ?_
      refine .reg' [0, 1, 7, 8, 32] [] ⟨[(0, (.sl true a0.length 1 (a0.flatMap encI))), (1, (.sl true a1.length 2 (a1.flatMap e44))), (7, (.rf 1002305 0 x5.length 1 (x5.length * 1))), (8, (.rf 1002561 0 x6.length 2 (x6.length * 2))), (32, (B (!(x7 == x4))))], [(1002049, (x2.flatMap encI)), (1002051, (x3.flatMap e44)), (1002305, (x5.flatMap encI)), (1002561, (x6.flatMap e44))], [], []⟩ [c_ 4093, c_ 2047] aln nocal ?_
      by_cases c3 : x7 = x4
      · rw [if_pos c3] at h
        refine .cond' (.tmp 32) false [c_ 8188, c_ 8189, c_ 4095] (bF (nF (qT c3))) ?_
        obtain ⟨x8, hx8, h⟩ := Option.bind_eq_some_iff.mp h
        obtain ⟨x9, hx9, h⟩ := Option.bind_eq_some_iff.mp h
        refine .reg' [1, 8, 37] [.no, .no, .c ⟨14, [(.sl true a0.length 1 (a0.flatMap encI))], [], (.rf 514 0 x8.length 1 (x8.length * 1)), [(514, (x8.flatMap encI))], [], [], [(1003586, 514)], (.rf 1003586 0 x8.length 1 (x8.length * 1)), [(1003586, (x8.flatMap encI))]⟩, .c ⟨17, [(.sl true x5.length 1 (x5.flatMap encI)), (.sl true x8.length 1 (x8.flatMap encI))], [], (B x9), [], [1002305, 1003586], [], [], (B x9), []⟩] ⟨[(1, (.sl true a1.length 2 (a1.flatMap e44))), (8, (.rf 1002561 0 x6.length 2 (x6.length * 2))), (37, (B (!x9)))], [(1002049, (x2.flatMap encI)), (1002051, (x3.flatMap e44)), (1002305, (x5.flatMap encI)), (1002561, (x6.flatMap e44)), (1003586, (x8.flatMap encI))], [COK (hget [(1002049, (x2.flatMap encI)), (1002051, (x3.flatMap e44)), (1002305, (x5.flatMap encI)), (1002561, (x6.flatMap e44))]) [(.sl true a0.length 1 (a0.flatMap encI))] ⟨14, [(.sl true a0.length 1 (a0.flatMap encI))], [], (.rf 514 0 x8.length 1 (x8.length * 1)), [(514, (x8.flatMap encI))], [], [], [(1003586, 514)], (.rf 1003586 0 x8.length 1 (x8.length * 1)), [(1003586, (x8.flatMap encI))]⟩, COK (hget [(1002049, (x2.flatMap encI)), (1002051, (x3.flatMap e44)), (1002305, (x5.flatMap encI)), (1002561, (x6.flatMap e44)), (1003586, (x8.flatMap encI))]) [(.rf 1002305 0 x5.length 1 (x5.length * 1)), (.rf 1003586 0 x8.length 1 (x8.length * 1))] ⟨17, [(.sl true x5.length 1 (x5.flatMap encI)), (.sl true x8.length 1 (x8.flatMap encI))], [], (B x9), [], [1002305, 1003586], [], [], (B x9), []⟩], [⟨14, [(.sl true a0.length 1 (a0.flatMap encI))], [], (.rf 514 0 x8.length 1 (x8.length * 1)), [(514, (x8.flatMap encI))], [], [], [(1003586, 514)], (.rf 1003586 0 x8.length 1 (x8.length * 1)), [(1003586, (x8.flatMap encI))]⟩, ⟨17, [(.sl true x5.length 1 (x5.flatMap encI)), (.sl true x8.length 1 (x8.flatMap encI))], [], (B x9), [], [1002305, 1003586], [], [], (B x9), []⟩]⟩ [c_ 8189, c_ 4095] (alc (cokW false (a2c (.z (frz_sl encI_ok (fun h => h))) a2n) akn (akc (.inr rfl) akn) (.rf (memP_mem (p := (1003586, 514)) rfl)) (akc ⟨_, _, rfl, rfl, rowB encI_c _⟩ akn) (fun h => absurd h (by decide))) (alc (cok0 false (a2c (.z (frz_rf (k := 1002305) encI_ok (by simp) rfl rfl (row_len encI_ok _).symm)) (a2c (.z (frz_rf (k := 1003586) encI_ok (by simp) rfl rfl (row_len encI_ok _).symm)) a2n)) (.z .s) (fun h => absurd h (by decide))) aln)) (acal (laws_toIntS.J k a0 _ hx8) (acal (laws_eqIntS.J k x5 x8 _ hx9) nocal)) ?_
        by_cases c4 : x9 = true
        · rw [if_pos c4] at h
          refine .cond' (.tmp 37) false [c_ 16380, c_ 16381, c_ 8191] (bF (nF c4)) ?_
          obtain ⟨x10, hx10, h⟩ := Option.bind_eq_some_iff.mp h
          obtain ⟨x11, hx11, h⟩ := Option.bind_eq_some_iff.mp h
          refine .reg' [42] [.no, .no, .c ⟨15, [(.sl true a1.length 2 (a1.flatMap e44))], [], (.rf 514 0 x10.length 2 (x10.length * 2)), [(514, (x10.flatMap e44))], [], [], [(1004098, 514)], (.rf 1004098 0 x10.length 2 (x10.length * 2)), [(1004098, (x10.flatMap e44))]⟩, .c ⟨18, [(.sl true x6.length 2 (x6.flatMap e44)), (.sl true x10.length 2 (x10.flatMap e44))], [], (B x11), [], [1002561, 1004098], [], [], (B x11), []⟩] ⟨[(42, (B (!x11)))], [(1002049, (x2.flatMap encI)), (1002051, (x3.flatMap e44)), (1002305, (x5.flatMap encI)), (1002561, (x6.flatMap e44)), (1003586, (x8.flatMap encI)), (1004098, (x10.flatMap e44))], [COK (hget [(1002049, (x2.flatMap encI)), (1002051, (x3.flatMap e44)), (1002305, (x5.flatMap encI)), (1002561, (x6.flatMap e44)), (1003586, (x8.flatMap encI))]) [(.sl true a1.length 2 (a1.flatMap e44))] ⟨15, [(.sl true a1.length 2 (a1.flatMap e44))], [], (.rf 514 0 x10.length 2 (x10.length * 2)), [(514, (x10.flatMap e44))], [], [], [(1004098, 514)], (.rf 1004098 0 x10.length 2 (x10.length * 2)), [(1004098, (x10.flatMap e44))]⟩, COK (hget [(1002049, (x2.flatMap encI)), (1002051, (x3.flatMap e44)), (1002305, (x5.flatMap encI)), (1002561, (x6.flatMap e44)), (1003586, (x8.flatMap encI)), (1004098, (x10.flatMap e44))]) [(.rf 1002561 0 x6.length 2 (x6.length * 2)), (.rf 1004098 0 x10.length 2 (x10.length * 2))] ⟨18, [(.sl true x6.length 2 (x6.flatMap e44)), (.sl true x10.length 2 (x10.flatMap e44))], [], (B x11), [], [1002561, 1004098], [], [], (B x11), []⟩], [⟨15, [(.sl true a1.length 2 (a1.flatMap e44))], [], (.rf 514 0 x10.length 2 (x10.length * 2)), [(514, (x10.flatMap e44))], [], [], [(1004098, 514)], (.rf 1004098 0 x10.length 2 (x10.length * 2)), [(1004098, (x10.flatMap e44))]⟩, ⟨18, [(.sl true x6.length 2 (x6.flatMap e44)), (.sl true x10.length 2 (x10.flatMap e44))], [], (B x11), [], [1002561, 1004098], [], [], (B x11), []⟩]⟩ [c_ 16381, c_ 8191] (alc (cokW false (a2c (.z (frz_sl e44_ok (fun h => h))) a2n) akn (akc (.inr rfl) akn) (.rf (memP_mem (p := (1004098, 514)) rfl)) (akc ⟨_, _, rfl, rfl, rowB e44_c _⟩ akn) (fun h => absurd h (by decide))) (alc (cok0 false (a2c (.z (frz_rf (k := 1002561) e44_ok (by simp) rfl rfl (row_len e44_ok _).symm)) (a2c (.z (frz_rf (k := 1004098) e44_ok (by simp) rfl rfl (row_len e44_ok _).symm)) a2n)) (.z .s) (fun h => absurd h (by decide))) aln)) (acal (laws_toSingleS.J k a1 _ hx10) (acal (laws_eqSingleS.J k x6 x10 _ hx11) nocal)) ?_
          by_cases c5 : x11 = true
          · rw [if_pos c5] at h
            refine .cond' (.tmp 42) false [c_ 16382, c_ 16383] (bF (nF c5)) ?_
            refine .reg' [4] [] ⟨[(4, (B true))], [(1002049, (x2.flatMap encI)), (1002051, (x3.flatMap e44)), (1002305, (x5.flatMap encI)), (1002561, (x6.flatMap e44)), (1003586, (x8.flatMap encI)), (1004098, (x10.flatMap e44))], [], []⟩ [c_ 16383] aln nocal ?_
            have h := Option.some.inj h
            subst h
            exact .fin0 [] (B true) [] aln (.z .s)
          · rw [if_neg c5] at h
            refine .cond' (.tmp 42) true [c_ 65524, c_ 65525, c_ 8191] (bT (nT (vF c5))) ?_
            refine .reg' [4] [] ⟨[(4, (B false))], [(1002049, (x2.flatMap encI)), (1002051, (x3.flatMap e44)), (1002305, (x5.flatMap encI)), (1002561, (x6.flatMap e44)), (1003586, (x8.flatMap encI)), (1004098, (x10.flatMap e44))], [], []⟩ [c_ 65525, c_ 8191] aln nocal ?_
            have h := Option.some.inj h
            subst h
            exact .fin0 [] (B false) [] aln (.z .s)
        · rw [if_neg c4] at h
          refine .cond' (.tmp 37) true [c_ 32756, c_ 32757, c_ 4095] (bT (nT (vF c4))) ?_
          refine .reg' [4] [] ⟨[(4, (B false))], [(1002049, (x2.flatMap encI)), (1002051, (x3.flatMap e44)), (1002305, (x5.flatMap encI)), (1002561, (x6.flatMap e44)), (1003586, (x8.flatMap encI))], [], []⟩ [c_ 32757, c_ 4095] aln nocal ?_
          have h := Option.some.inj h
          subst h
          exact .fin0 [] (B false) [] aln (.z .s)
      · rw [if_neg c3] at h
        refine .cond' (.tmp 32) true [c_ 16372, c_ 16373, c_ 2047] (bT (nT (qF c3))) ?_
        refine .reg' [4] [] ⟨[(4, (B false))], [(1002049, (x2.flatMap encI)), (1002051, (x3.flatMap e44)), (1002305, (x5.flatMap encI)), (1002561, (x6.flatMap e44))], [], []⟩ [c_ 16373, c_ 2047] aln nocal ?_
        have h := Option.some.inj h
        subst h
        exact .fin0 [] (B false) [] aln (.z .s)
end Go.Proofs.Ytpjmefdpjlhkhaa.Fns
