/- The functions that the law FnEnough reaches, by the engine. Printed by a program of this seat. -/
import Derived.Test.YtddipeelmandjaaE5
import Derived.Test.YtddipeelmandjaaProg
import Derived.Test.YtddipeelmandjaaFFnEnoughx0
namespace Go.Proofs.Ytddipeelmandjaa.Fns
open Go.Proofs.Try Go.Proofs.Ytddipeelmandjaa.Eng Go.RowKit
set_option maxRecDepth 100000
set_option linter.unusedVariables false
set_option linter.unusedSimpArgs false
theorem impl_Peak.lab : ∀ k, (∀ (a0 : (List S49)) (a1 : Int) (x3 : Int) (x4 : Int) (r : Int), impl_Peak.l0 k a0 a1 x3 x4 = some r → J prog (.run 22 [] [l_ 122, b_ 0, c_ 31] [(0, (.sl true a0.length 3 (a0.flatMap e49))), (1, (I a1)), (5, (I x3)), (19, (.sl true a0.length 3 (a0.flatMap e49))), (20, (I (a0.length : Int))), (21, (I x4))] [] (I r) [])) ∧ (∀ (a0 : (List S49)) (a1 : Int) (x3 : Int) (x4 : Int) (x5 : Int) (x6 : Int) (r : Int), impl_Peak.l1 k a0 a1 x3 x4 x5 x6 = some r → J prog (.run 22 [] [l_ 125338, b_ 2, c_ 31335, b_ 1, c_ 1959, l_ 122, b_ 0, c_ 31] [(0, (.sl true a0.length 3 (a0.flatMap e49))), (1, (I a1)), (5, (I x3)), (7, (.pt 1794 0 3)), (8, (I x5)), (19, (.sl true a0.length 3 (a0.flatMap e49))), (20, (I (a0.length : Int))), (21, (I x4)), (25, (.sl true a0.length 3 (a0.flatMap e49))), (26, (I (a0.length : Int))), (27, (I x6))] [(1794, [(I (at_ a0 x4).f0), (I (at_ a0 x4).f1), (I (at_ a0 x4).f2)])] (I r) []))
 | 0 => ⟨(by intro a0 a1 x3 x4 r h; unfold impl_Peak.l0 at h; cases h), (by intro a0 a1 x3 x4 x5 x6 r h; unfold impl_Peak.l1 at h; cases h)⟩
 | k + 1 => by
  obtain ⟨ih0, ih1⟩ := impl_Peak.lab k
  refine ⟨?_, ?_⟩
  · intro a0 a1 x3 x4 r h
    unfold impl_Peak.l0 at h
    refine .loop' [c_ 488, c_ 489, l_ 122, b_ 0, c_ 31] ?_
    refine .reg' [0, 1, 5, 19, 20, 21, 22] [] ⟨[(0, (.sl true a0.length 3 (a0.flatMap e49))), (1, (I a1)), (5, (I x3)), (19, (.sl true a0.length 3 (a0.flatMap e49))), (20, (I (a0.length : Int))), (21, (I x4)), (22, (B (decide (x4 < (a0.length : Int)))))], [], [], []⟩ [c_ 978, c_ 979, l_ 122, b_ 0, c_ 31] aln nocal ?_
    by_cases c3 : x4 < (a0.length : Int)
    · rw [if_pos c3] at h
      refine .cond' (.tmp 22) true [c_ 7832, c_ 7833, b_ 1, c_ 1959, l_ 122, b_ 0, c_ 31] (bT (dT c3)) ?_
      by_cases c4 : 0 ≤ x4
      · rw [if_pos c4] at h
        refine .reg' [0, 1, 5, 7, 19, 20, 21] [.no, .v (.ag [(I (at_ a0 x4).f0), (I (at_ a0 x4).f1), (I (at_ a0 x4).f2)])] ⟨[(0, (.sl true a0.length 3 (a0.flatMap e49))), (1, (I a1)), (5, (I x3)), (7, (.pt 1794 0 3)), (19, (.sl true a0.length 3 (a0.flatMap e49))), (20, (I (a0.length : Int))), (21, (I x4))], [(1794, [(I (at_ a0 x4).f0), (I (at_ a0 x4).f1), (I (at_ a0 x4).f2)])], [(0 : Int) ≤ x4 ∧ x4 < (a0.length : Int), rdC prog 50 ((a0.flatMap e49).drop (x4.toNat * 3)) = (.ag [(I (at_ a0 x4).f0), (I (at_ a0 x4).f1), (I (at_ a0 x4).f2)]), 3 ≤ ((a0.flatMap e49).drop (x4.toNat * 3)).length, 3 = 3 ∧ 0 + 3 ≤ 3], []⟩ [c_ 15666, c_ 15667, b_ 1, c_ 1959, l_ 122, b_ 0, c_ 31] (alc ⟨c4, c3⟩ (alc (ldA e49_ok rfl rfl c4 c3) (alc (okI e49_ok c4 c3 (by decide)) (alc ⟨rfl, by decide⟩ aln)))) nocal ?_
        refine .reg' [0, 1, 5, 7, 8, 19, 20, 21] [] ⟨[(0, (.sl true a0.length 3 (a0.flatMap e49))), (1, (I a1)), (5, (I x3)), (7, (.pt 1794 0 3)), (8, (I 0)), (19, (.sl true a0.length 3 (a0.flatMap e49))), (20, (I (a0.length : Int))), (21, (I x4))], [(1794, [(I (at_ a0 x4).f0), (I (at_ a0 x4).f1), (I (at_ a0 x4).f2)])], [], []⟩ [c_ 62668, c_ 62669, c_ 31335, b_ 1, c_ 1959, l_ 122, b_ 0, c_ 31] aln nocal ?_
        refine .reg' [0, 1, 5, 7, 8, 19, 20, 21, 25, 26, 27] [] ⟨[(0, (.sl true a0.length 3 (a0.flatMap e49))), (1, (I a1)), (5, (I x3)), (7, (.pt 1794 0 3)), (8, (I 0)), (19, (.sl true a0.length 3 (a0.flatMap e49))), (20, (I (a0.length : Int))), (21, (I x4)), (25, (.sl true a0.length 3 (a0.flatMap e49))), (26, (I (a0.length : Int))), (27, (I 0))], [(1794, [(I (at_ a0 x4).f0), (I (at_ a0 x4).f1), (I (at_ a0 x4).f2)])], [], []⟩ [l_ 125338, b_ 2, c_ 31335, b_ 1, c_ 1959, l_ 122, b_ 0, c_ 31] aln nocal ?_
        exact ih1 a0 a1 x3 x4 0 0 _ h
      · rw [if_neg c4] at h
        cases h
    · rw [if_neg c3] at h
      refine .cond' (.tmp 22) false [c_ 62, c_ 63] (bF (dF c3)) ?_
      refine .reg' [4] [] ⟨[(4, (I x3))], [], [], []⟩ [c_ 63] aln nocal ?_
      have h := Option.some.inj h
      subst h
      exact .fin0 [] (I x3) [] aln (.z .s)
  · intro a0 a1 x3 x4 x5 x6 r h
    unfold impl_Peak.l1 at h
    refine .loop' [c_ 501352, c_ 501353, l_ 125338, b_ 2, c_ 31335, b_ 1, c_ 1959, l_ 122, b_ 0, c_ 31] ?_
    refine .reg' [0, 1, 5, 7, 8, 19, 20, 21, 25, 26, 27, 28] [] ⟨[(0, (.sl true a0.length 3 (a0.flatMap e49))), (1, (I a1)), (5, (I x3)), (7, (.pt 1794 0 3)), (8, (I x5)), (19, (.sl true a0.length 3 (a0.flatMap e49))), (20, (I (a0.length : Int))), (21, (I x4)), (25, (.sl true a0.length 3 (a0.flatMap e49))), (26, (I (a0.length : Int))), (27, (I x6)), (28, (B (decide (x6 < (a0.length : Int)))))], [(1794, [(I (at_ a0 x4).f0), (I (at_ a0 x4).f1), (I (at_ a0 x4).f2)])], [], []⟩ [c_ 1002706, c_ 1002707, l_ 125338, b_ 2, c_ 31335, b_ 1, c_ 1959, l_ 122, b_ 0, c_ 31] aln nocal ?_
    by_cases c5 : x6 < (a0.length : Int)
    · rw [if_pos c5] at h
      refine .cond' (.tmp 28) true [c_ 8021656, c_ 8021657, b_ 3, c_ 2005415, l_ 125338, b_ 2, c_ 31335, b_ 1, c_ 1959, l_ 122, b_ 0, c_ 31] (bT (dT c5)) ?_
      by_cases c6 : 0 ≤ x6
      · rw [if_pos c6] at h
        refine .reg' [0, 1, 5, 7, 8, 10, 19, 20, 21, 25, 26, 27] [.no, .v (.ag [(I (at_ a0 x6).f0), (I (at_ a0 x6).f1), (I (at_ a0 x6).f2)])] ⟨[(0, (.sl true a0.length 3 (a0.flatMap e49))), (1, (I a1)), (5, (I x3)), (7, (.pt 1794 0 3)), (8, (I x5)), (10, (.pt 2818 0 3)), (19, (.sl true a0.length 3 (a0.flatMap e49))), (20, (I (a0.length : Int))), (21, (I x4)), (25, (.sl true a0.length 3 (a0.flatMap e49))), (26, (I (a0.length : Int))), (27, (I x6))], [(1794, [(I (at_ a0 x4).f0), (I (at_ a0 x4).f1), (I (at_ a0 x4).f2)]), (2818, [(I (at_ a0 x6).f0), (I (at_ a0 x6).f1), (I (at_ a0 x6).f2)])], [(0 : Int) ≤ x6 ∧ x6 < (a0.length : Int), rdC prog 50 ((a0.flatMap e49).drop (x6.toNat * 3)) = (.ag [(I (at_ a0 x6).f0), (I (at_ a0 x6).f1), (I (at_ a0 x6).f2)]), 3 ≤ ((a0.flatMap e49).drop (x6.toNat * 3)).length, 3 = 3 ∧ 0 + 3 ≤ 3], []⟩ [c_ 16043314, c_ 16043315, b_ 3, c_ 2005415, l_ 125338, b_ 2, c_ 31335, b_ 1, c_ 1959, l_ 122, b_ 0, c_ 31] (alc ⟨c6, c5⟩ (alc (ldA e49_ok rfl rfl c6 c5) (alc (okI e49_ok c6 c5 (by decide)) (alc ⟨rfl, by decide⟩ aln)))) nocal ?_
        obtain ⟨x7, hx7, h⟩ := Option.bind_eq_some_iff.mp h
        refine .reg' [0, 1, 5, 7, 8, 19, 20, 21, 25, 26, 27, 35] [.no, .no, .no, .no, .c ⟨47, [(.ag [(I (at_ a0 x6).f0), (I (at_ a0 x6).f1), (I (at_ a0 x6).f2)]), (I (at_ a0 x4).f0), (I a1)], [], (B x7), [], [], [], [], (B x7), []⟩] ⟨[(0, (.sl true a0.length 3 (a0.flatMap e49))), (1, (I a1)), (5, (I x3)), (7, (.pt 1794 0 3)), (8, (I x5)), (19, (.sl true a0.length 3 (a0.flatMap e49))), (20, (I (a0.length : Int))), (21, (I x4)), (25, (.sl true a0.length 3 (a0.flatMap e49))), (26, (I (a0.length : Int))), (27, (I x6)), (35, (B x7))], [(1794, [(I (at_ a0 x4).f0), (I (at_ a0 x4).f1), (I (at_ a0 x4).f2)]), (2818, [(I (at_ a0 x6).f0), (I (at_ a0 x6).f1), (I (at_ a0 x6).f2)])], [3 = 3 ∧ 0 + 3 ≤ 3, 3 = 3 ∧ 0 + 1 ≤ 3, COK (hget [(1794, [(I (at_ a0 x4).f0), (I (at_ a0 x4).f1), (I (at_ a0 x4).f2)]), (2818, [(I (at_ a0 x6).f0), (I (at_ a0 x6).f1), (I (at_ a0 x6).f2)])]) [(.ag [(I (at_ a0 x6).f0), (I (at_ a0 x6).f1), (I (at_ a0 x6).f2)]), (I (at_ a0 x4).f0), (I a1)] ⟨47, [(.ag [(I (at_ a0 x6).f0), (I (at_ a0 x6).f1), (I (at_ a0 x6).f2)]), (I (at_ a0 x4).f0), (I a1)], [], (B x7), [], [], [], [], (B x7), []⟩], [⟨47, [(.ag [(I (at_ a0 x6).f0), (I (at_ a0 x6).f1), (I (at_ a0 x6).f2)]), (I (at_ a0 x4).f0), (I a1)], [], (B x7), [], [], [], [], (B x7), []⟩]⟩ [c_ 16043315, b_ 3, c_ 2005415, l_ 125338, b_ 2, c_ 31335, b_ 1, c_ 1959, l_ 122, b_ 0, c_ 31] (alc ⟨rfl, by decide⟩ (alc ⟨rfl, by decide⟩ (alc (cok0 false (a2c (.z (frz_ag (a2c .s (a2c .s (a2c .s a2n))))) (a2c (.z .s) (a2c (.z .s) a2n))) (.z .s) (fun h => absurd h (by decide))) aln))) (acal (impl_Stay_holds.J (at_ a0 x6) ((at_ a0 x4).f0) a1 _ hx7) nocal) ?_
        by_cases c7 : x7 = true
        · rw [if_pos c7] at h
          refine .cond' (.tmp 35) true [c_ 32086630, b_ 3, c_ 2005415, l_ 125338, b_ 2, c_ 31335, b_ 1, c_ 1959, l_ 122, b_ 0, c_ 31] (bT c7) ?_
          refine .reg' [0, 1, 5, 7, 8, 19, 20, 21, 25, 26, 27] [] ⟨[(0, (.sl true a0.length 3 (a0.flatMap e49))), (1, (I a1)), (5, (I x3)), (7, (.pt 1794 0 3)), (8, (I (wrap64 (x5 + 1)))), (19, (.sl true a0.length 3 (a0.flatMap e49))), (20, (I (a0.length : Int))), (21, (I x4)), (25, (.sl true a0.length 3 (a0.flatMap e49))), (26, (I (a0.length : Int))), (27, (I x6))], [(1794, [(I (at_ a0 x4).f0), (I (at_ a0 x4).f1), (I (at_ a0 x4).f2)]), (2818, [(I (at_ a0 x6).f0), (I (at_ a0 x6).f1), (I (at_ a0 x6).f2)])], [], []⟩ [c_ 2005415, l_ 125338, b_ 2, c_ 31335, b_ 1, c_ 1959, l_ 122, b_ 0, c_ 31] aln nocal ?_
          refine .reg' [0, 1, 5, 7, 8, 19, 20, 21, 25, 26, 27] [] ⟨[(0, (.sl true a0.length 3 (a0.flatMap e49))), (1, (I a1)), (5, (I x3)), (7, (.pt 1794 0 3)), (8, (I (wrap64 (x5 + 1)))), (19, (.sl true a0.length 3 (a0.flatMap e49))), (20, (I (a0.length : Int))), (21, (I x4)), (25, (.sl true a0.length 3 (a0.flatMap e49))), (26, (I (a0.length : Int))), (27, (I (wrap64 (x6 + 1))))], [(1794, [(I (at_ a0 x4).f0), (I (at_ a0 x4).f1), (I (at_ a0 x4).f2)]), (2818, [(I (at_ a0 x6).f0), (I (at_ a0 x6).f1), (I (at_ a0 x6).f2)])], [], []⟩ [l_ 125338, b_ 2, c_ 31335, b_ 1, c_ 1959, l_ 122, b_ 0, c_ 31] aln nocal ?_
          refine .wk' [] [(1794, 1794)] [(0, (.sl true a0.length 3 (a0.flatMap e49))), (1, (I a1)), (5, (I x3)), (7, (.pt 1794 0 3)), (8, (I (wrap64 (x5 + 1)))), (19, (.sl true a0.length 3 (a0.flatMap e49))), (20, (I (a0.length : Int))), (21, (I x4)), (25, (.sl true a0.length 3 (a0.flatMap e49))), (26, (I (a0.length : Int))), (27, (I (wrap64 (x6 + 1))))] [(1794, [(I (at_ a0 x4).f0), (I (at_ a0 x4).f1), (I (at_ a0 x4).f2)])] (shc 1794 (a2c (.z .s) (a2c (.z .s) (a2c (.z .s) a2n))) shn) (enc_ (.z (frz_sl e49_ok (fun h => h))) (enc_ (.z .s) (enc_ (.z .s) (enc_ (.pt (memP_mem (p := (1794, 1794)) rfl)) (enc_ (.z .s) (enc_ (.z (frz_sl e49_ok (fun h => h))) (enc_ (.z .s) (enc_ (.z .s) (enc_ (.z (frz_sl e49_ok (fun h => h))) (enc_ (.z .s) (enc_ (.z .s) enn))))))))))) ?_
          exact ih1 a0 a1 x3 x4 (wrap64 (x5 + 1)) (wrap64 (x6 + 1)) _ h
        · rw [if_neg c7] at h
          refine .cond' (.tmp 35) false [c_ 2005415, l_ 125338, b_ 2, c_ 31335, b_ 1, c_ 1959, l_ 122, b_ 0, c_ 31] (bF (vF c7)) ?_
          refine .reg' [0, 1, 5, 7, 8, 19, 20, 21, 25, 26, 27] [] ⟨[(0, (.sl true a0.length 3 (a0.flatMap e49))), (1, (I a1)), (5, (I x3)), (7, (.pt 1794 0 3)), (8, (I x5)), (19, (.sl true a0.length 3 (a0.flatMap e49))), (20, (I (a0.length : Int))), (21, (I x4)), (25, (.sl true a0.length 3 (a0.flatMap e49))), (26, (I (a0.length : Int))), (27, (I (wrap64 (x6 + 1))))], [(1794, [(I (at_ a0 x4).f0), (I (at_ a0 x4).f1), (I (at_ a0 x4).f2)]), (2818, [(I (at_ a0 x6).f0), (I (at_ a0 x6).f1), (I (at_ a0 x6).f2)])], [], []⟩ [l_ 125338, b_ 2, c_ 31335, b_ 1, c_ 1959, l_ 122, b_ 0, c_ 31] aln nocal ?_
          refine .wk' [] [(1794, 1794)] [(0, (.sl true a0.length 3 (a0.flatMap e49))), (1, (I a1)), (5, (I x3)), (7, (.pt 1794 0 3)), (8, (I x5)), (19, (.sl true a0.length 3 (a0.flatMap e49))), (20, (I (a0.length : Int))), (21, (I x4)), (25, (.sl true a0.length 3 (a0.flatMap e49))), (26, (I (a0.length : Int))), (27, (I (wrap64 (x6 + 1))))] [(1794, [(I (at_ a0 x4).f0), (I (at_ a0 x4).f1), (I (at_ a0 x4).f2)])] (shc 1794 (a2c (.z .s) (a2c (.z .s) (a2c (.z .s) a2n))) shn) (enc_ (.z (frz_sl e49_ok (fun h => h))) (enc_ (.z .s) (enc_ (.z .s) (enc_ (.pt (memP_mem (p := (1794, 1794)) rfl)) (enc_ (.z .s) (enc_ (.z (frz_sl e49_ok (fun h => h))) (enc_ (.z .s) (enc_ (.z .s) (enc_ (.z (frz_sl e49_ok (fun h => h))) (enc_ (.z .s) (enc_ (.z .s) enn))))))))))) ?_
          exact ih1 a0 a1 x3 x4 x5 (wrap64 (x6 + 1)) _ h
      · rw [if_neg c6] at h
        cases h
    · rw [if_neg c5] at h
      refine .cond' (.tmp 28) false [c_ 31335, b_ 1, c_ 1959, l_ 122, b_ 0, c_ 31] (bF (dF c5)) ?_
      refine .reg' [0, 1, 5, 19, 20, 21] [] ⟨[(0, (.sl true a0.length 3 (a0.flatMap e49))), (1, (I a1)), (5, (I (mx x3 x5))), (19, (.sl true a0.length 3 (a0.flatMap e49))), (20, (I (a0.length : Int))), (21, (I x4))], [(1794, [(I (at_ a0 x4).f0), (I (at_ a0 x4).f1), (I (at_ a0 x4).f2)])], [], []⟩ [c_ 1959, l_ 122, b_ 0, c_ 31] aln nocal ?_
      refine .reg' [0, 1, 5, 19, 20, 21] [] ⟨[(0, (.sl true a0.length 3 (a0.flatMap e49))), (1, (I a1)), (5, (I (mx x3 x5))), (19, (.sl true a0.length 3 (a0.flatMap e49))), (20, (I (a0.length : Int))), (21, (I (wrap64 (x4 + 1))))], [(1794, [(I (at_ a0 x4).f0), (I (at_ a0 x4).f1), (I (at_ a0 x4).f2)])], [], []⟩ [l_ 122, b_ 0, c_ 31] aln nocal ?_
      refine .wk' [] [] [(0, (.sl true a0.length 3 (a0.flatMap e49))), (1, (I a1)), (5, (I (mx x3 x5))), (19, (.sl true a0.length 3 (a0.flatMap e49))), (20, (I (a0.length : Int))), (21, (I (wrap64 (x4 + 1))))] [] shn (enc_ (.z (frz_sl e49_ok (fun h => h))) (enc_ (.z .s) (enc_ (.z .s) (enc_ (.z (frz_sl e49_ok (fun h => h))) (enc_ (.z .s) (enc_ (.z .s) enn)))))) ?_
      exact ih0 a0 a1 (mx x3 x5) (wrap64 (x4 + 1)) _ h
theorem impl_Peak.J (k : Nat) (a0 : (List S49)) (a1 : Int) (r : Int) (h : impl_Peak.f k a0 a1 = some r) : J prog (.call 22 [(.sl true a0.length 3 (a0.flatMap e49)), (I a1)] [] (I r) []) := by
  unfold impl_Peak.f at h
  obtain ⟨ih0, ih1⟩ := impl_Peak.lab k
  refine .call' [c_ 2, c_ 3] ?_
  refine .reg' [0, 1] [] ⟨[(0, (.sl true a0.length 3 (a0.flatMap e49))), (1, (I a1))], [], [], []⟩ [c_ 6, c_ 7] aln nocal ?_
  refine .reg' [0, 1, 5] [] ⟨[(0, (.sl true a0.length 3 (a0.flatMap e49))), (1, (I a1)), (5, (I 0))], [], [], []⟩ [c_ 28, c_ 29, c_ 15] aln nocal ?_
  obtain ⟨x1, hx1, h⟩ := Option.bind_eq_some_iff.mp h
  by_cases c1 : x1 = true
  · rw [if_pos c1] at h
    obtain ⟨x2, hx2, h⟩ := Option.bind_eq_some_iff.mp h
    refine .reg' [0, 1, 5, 18] [.no, .c ⟨19, [(.sl true a0.length 3 (a0.flatMap e49))], [], (B x1), [], [], [], [], (B x1), []⟩, .no, .v (B false), .no, .c ⟨46, [(I a1)], [], (B x2), [], [], [], [], (B x2), []⟩] ⟨[(0, (.sl true a0.length 3 (a0.flatMap e49))), (1, (I a1)), (5, (I 0)), (18, (B (!x2)))], [], [COK (hget []) [(.sl true a0.length 3 (a0.flatMap e49))] ⟨19, [(.sl true a0.length 3 (a0.flatMap e49))], [], (B x1), [], [], [], [], (B x1), []⟩, (B (!x1) : V) = B false, COK (hget []) [(I a1)] ⟨46, [(I a1)], [], (B x2), [], [], [], [], (B x2), []⟩], [⟨19, [(.sl true a0.length 3 (a0.flatMap e49))], [], (B x1), [], [], [], [], (B x1), []⟩, ⟨46, [(I a1)], [], (B x2), [], [], [], [], (B x2), []⟩]⟩ [c_ 29, c_ 15] (alc (cok0 false (a2c (.z (frz_sl e49_ok (fun h => h))) a2n) (.z .s) (fun h => absurd h (by decide))) (alc (bF (nF c1)) (alc (cok0 false (a2c (.z .s) a2n) (.z .s) (fun h => absurd h (by decide))) aln))) (acal (impl_StaysOk.J k a0 _ hx1) (acal (impl_gapOk.J a1 _ hx2) nocal)) ?_
    by_cases c2 : x2 = true
    · rw [if_pos c2] at h
      refine .cond' (.tmp 18) false [c_ 60, c_ 61, c_ 31] (bF (nF c2)) ?_
      refine .reg' [0, 1, 5, 19, 20, 21] [] ⟨[(0, (.sl true a0.length 3 (a0.flatMap e49))), (1, (I a1)), (5, (I 0)), (19, (.sl true a0.length 3 (a0.flatMap e49))), (20, (I (a0.length : Int))), (21, (I 0))], [], [], []⟩ [l_ 122, b_ 0, c_ 31] aln nocal ?_
      exact ih0 a0 a1 0 0 _ h
    · rw [if_neg c2] at h
      refine .cond' (.tmp 18) true [c_ 116, c_ 117, c_ 15] (bT (nT (vF c2))) ?_
      refine .reg' [4] [] ⟨[(4, (I 0))], [], [], []⟩ [c_ 117, c_ 15] aln nocal ?_
      have h := Option.some.inj h
      subst h
      exact .fin0 [] (I 0) [] aln (.z .s)
  · rw [if_neg c1] at h
    refine .reg' [0, 1, 5, 18] [.no, .c ⟨19, [(.sl true a0.length 3 (a0.flatMap e49))], [], (B x1), [], [], [], [], (B x1), []⟩, .no, .v (B true)] ⟨[(0, (.sl true a0.length 3 (a0.flatMap e49))), (1, (I a1)), (5, (I 0)), (18, (B true))], [], [COK (hget []) [(.sl true a0.length 3 (a0.flatMap e49))] ⟨19, [(.sl true a0.length 3 (a0.flatMap e49))], [], (B x1), [], [], [], [], (B x1), []⟩, (B (!x1) : V) = B true], [⟨19, [(.sl true a0.length 3 (a0.flatMap e49))], [], (B x1), [], [], [], [], (B x1), []⟩]⟩ [c_ 29, c_ 15] (alc (cok0 false (a2c (.z (frz_sl e49_ok (fun h => h))) a2n) (.z .s) (fun h => absurd h (by decide))) (alc (bT (nT (vF c1))) aln)) (acal (impl_StaysOk.J k a0 _ hx1) nocal) ?_
    refine .cond' (.tmp 18) true [c_ 116, c_ 117, c_ 15] (rfl) ?_
    refine .reg' [4] [] ⟨[(4, (I 0))], [], [], []⟩ [c_ 117, c_ 15] aln nocal ?_
    have h := Option.some.inj h
    subst h
    exact .fin0 [] (I 0) [] aln (.z .s)
/-! spec_l01In: function 39 -/
def spec_l01In.f (a0 : Int) (a1 : Int) (a2 : Int) : Option Bool := (if a1 ≤ a0 then (some (decide (a0 ≤ a2))) else (some false))
theorem spec_l01In.J (a0 : Int) (a1 : Int) (a2 : Int) (r : Bool) (h : spec_l01In.f a0 a1 a2 = some r) : J prog (.call 39 [(I a0), (I a1), (I a2)] [] (B r) []) := by
  unfold spec_l01In.f at h
  refine .call' [c_ 2, c_ 3] ?_
  refine .reg' [0, 1, 2] [] ⟨[(0, (I a0)), (1, (I a1)), (2, (I a2))], [], [], []⟩ [c_ 6, c_ 7] aln nocal ?_
  by_cases c1 : a1 ≤ a0
  · rw [if_pos c1] at h
    refine .reg' [6] [.no, .no, .no, .v (B true)] ⟨[(6, (B (decide (a0 ≤ a2))))], [], [(B (decide (a1 ≤ a0)) : V) = B true], []⟩ [c_ 7] (alc (bT (dT c1)) aln) nocal ?_
    have h := Option.some.inj h
    subst h
    exact .fin0 [] (B (decide (a0 ≤ a2))) [] aln (.z .s)
  · rw [if_neg c1] at h
    refine .reg' [6] [.no, .no, .no, .v (B false)] ⟨[(6, (B false))], [], [(B (decide (a1 ≤ a0)) : V) = B false], []⟩ [c_ 7] (alc (bF (dF c1)) aln) nocal ?_
    have h := Option.some.inj h
    subst h
    exact .fin0 [] (B false) [] aln (.z .s)
/-! spec_StaysOk: function 17 -/
def spec_StaysOk.l0 : Nat → (List S49) → Int → Option Bool
 | 0, _, _ => none
 | k + 1, a0, x1 => (if x1 < (a0.length : Int) then (if 0 ≤ x1 then ((spec_l01In.f ((at_ a0 x1).f1) 0 100000).bind fun x2 => (if x2 = true then ((spec_l01In.f ((at_ a0 x1).f0) 0 ((at_ a0 x1).f1)).bind fun x3 => (if x3 = true then ((spec_l01In.f ((at_ a0 x1).f2) 1 1000).bind fun x4 => (if x4 = true then (spec_StaysOk.l0 k a0 (wrap64 (x1 + 1))) else (some false))) else (some false))) else (some false))) else none) else (some (decide ((a0.length : Int) ≤ 60))))
def spec_StaysOk.f (k : Nat) (a0 : (List S49)) : Option Bool := (spec_StaysOk.l0 k a0 0)
theorem spec_StaysOk.lab : ∀ k, (∀ (a0 : (List S49)) (x1 : Int) (r : Bool), spec_StaysOk.l0 k a0 x1 = some r → J prog (.run 17 [] [l_ 26, b_ 0, c_ 7] [(0, (.sl true a0.length 3 (a0.flatMap e49))), (3, (I x1))] [] (B r) []))
 | 0 => (by intro a0 x1 r h; unfold spec_StaysOk.l0 at h; cases h)
 | k + 1 => by
  have ih0 := spec_StaysOk.lab k
  · intro a0 x1 r h
    unfold spec_StaysOk.l0 at h
    refine .loop' [c_ 208, c_ 209, c_ 105, l_ 26, b_ 0, c_ 7] ?_
    refine .reg' [0, 3, 8] [] ⟨[(0, (.sl true a0.length 3 (a0.flatMap e49))), (3, (I x1)), (8, (B (decide (x1 < (a0.length : Int)))))], [], [], []⟩ [c_ 209, c_ 105, l_ 26, b_ 0, c_ 7] aln nocal ?_
    by_cases c1 : x1 < (a0.length : Int)
    · rw [if_pos c1] at h
      refine .cond' (.tmp 8) true [c_ 840, c_ 841, b_ 1, c_ 211, l_ 26, b_ 0, c_ 7] (bT (dT c1)) ?_
      by_cases c2 : 0 ≤ x1
      · rw [if_pos c2] at h
        refine .reg' [0, 3, 4] [.no, .no, .no, .v (.ag [(I (at_ a0 x1).f0), (I (at_ a0 x1).f1), (I (at_ a0 x1).f2)])] ⟨[(0, (.sl true a0.length 3 (a0.flatMap e49))), (3, (I x1)), (4, (.pt 1284 0 3))], [(1284, [(I (at_ a0 x1).f0), (I (at_ a0 x1).f1), (I (at_ a0 x1).f2)])], [(0 : Int) ≤ x1 ∧ x1 < (a0.length : Int), rdC prog 50 ((a0.flatMap e49).drop (x1.toNat * 3)) = (.ag [(I (at_ a0 x1).f0), (I (at_ a0 x1).f1), (I (at_ a0 x1).f2)]), 3 ≤ ((a0.flatMap e49).drop (x1.toNat * 3)).length, 3 = 3 ∧ 0 + 3 ≤ 3], []⟩ [c_ 1682, c_ 1683, b_ 1, c_ 211, l_ 26, b_ 0, c_ 7] (alc ⟨c2, c1⟩ (alc (ldA e49_ok rfl rfl c2 c1) (alc (okI e49_ok c2 c1 (by decide)) (alc ⟨rfl, by decide⟩ aln)))) nocal ?_
        obtain ⟨x2, hx2, h⟩ := Option.bind_eq_some_iff.mp h
        by_cases c3 : x2 = true
        · rw [if_pos c3] at h
          obtain ⟨x3, hx3, h⟩ := Option.bind_eq_some_iff.mp h
          by_cases c4 : x3 = true
          · rw [if_pos c4] at h
            obtain ⟨x4, hx4, h⟩ := Option.bind_eq_some_iff.mp h
            refine .reg' [0, 3, 32] [.no, .no, .c ⟨39, [(I (at_ a0 x1).f1), (I 0), (I 100000)], [], (B x2), [], [], [], [], (B x2), []⟩, .no, .v (B false), .no, .no, .no, .no, .c ⟨39, [(I (at_ a0 x1).f0), (I 0), (I (at_ a0 x1).f1)], [], (B x3), [], [], [], [], (B x3), []⟩, .no, .no, .v (B false), .no, .no, .c ⟨39, [(I (at_ a0 x1).f2), (I 1), (I 1000)], [], (B x4), [], [], [], [], (B x4), []⟩] ⟨[(0, (.sl true a0.length 3 (a0.flatMap e49))), (3, (I x1)), (32, (B (!x4)))], [(1284, [(I (at_ a0 x1).f0), (I (at_ a0 x1).f1), (I (at_ a0 x1).f2)])], [3 = 3 ∧ 1 + 1 ≤ 3, COK (hget [(1284, [(I (at_ a0 x1).f0), (I (at_ a0 x1).f1), (I (at_ a0 x1).f2)])]) [(I (at_ a0 x1).f1), (I 0), (I 100000)] ⟨39, [(I (at_ a0 x1).f1), (I 0), (I 100000)], [], (B x2), [], [], [], [], (B x2), []⟩, (B (!x2) : V) = B false, 3 = 3 ∧ 0 + 1 ≤ 3, 3 = 3 ∧ 1 + 1 ≤ 3, COK (hget [(1284, [(I (at_ a0 x1).f0), (I (at_ a0 x1).f1), (I (at_ a0 x1).f2)])]) [(I (at_ a0 x1).f0), (I 0), (I (at_ a0 x1).f1)] ⟨39, [(I (at_ a0 x1).f0), (I 0), (I (at_ a0 x1).f1)], [], (B x3), [], [], [], [], (B x3), []⟩, (B (!x3) : V) = B false, 3 = 3 ∧ 2 + 1 ≤ 3, COK (hget [(1284, [(I (at_ a0 x1).f0), (I (at_ a0 x1).f1), (I (at_ a0 x1).f2)])]) [(I (at_ a0 x1).f2), (I 1), (I 1000)] ⟨39, [(I (at_ a0 x1).f2), (I 1), (I 1000)], [], (B x4), [], [], [], [], (B x4), []⟩], [⟨39, [(I (at_ a0 x1).f1), (I 0), (I 100000)], [], (B x2), [], [], [], [], (B x2), []⟩, ⟨39, [(I (at_ a0 x1).f0), (I 0), (I (at_ a0 x1).f1)], [], (B x3), [], [], [], [], (B x3), []⟩, ⟨39, [(I (at_ a0 x1).f2), (I 1), (I 1000)], [], (B x4), [], [], [], [], (B x4), []⟩]⟩ [c_ 1683, b_ 1, c_ 211, l_ 26, b_ 0, c_ 7] (alc ⟨rfl, by decide⟩ (alc (cok0 false (a2c (.z .s) (a2c (.z .s) (a2c (.z .s) a2n))) (.z .s) (fun h => absurd h (by decide))) (alc (bF (nF c3)) (alc ⟨rfl, by decide⟩ (alc ⟨rfl, by decide⟩ (alc (cok0 false (a2c (.z .s) (a2c (.z .s) (a2c (.z .s) a2n))) (.z .s) (fun h => absurd h (by decide))) (alc (bF (nF c4)) (alc ⟨rfl, by decide⟩ (alc (cok0 false (a2c (.z .s) (a2c (.z .s) (a2c (.z .s) a2n))) (.z .s) (fun h => absurd h (by decide))) aln))))))))) (acal (spec_l01In.J ((at_ a0 x1).f1) 0 100000 _ hx2) (acal (spec_l01In.J ((at_ a0 x1).f0) 0 ((at_ a0 x1).f1) _ hx3) (acal (spec_l01In.J ((at_ a0 x1).f2) 1 1000 _ hx4) nocal))) ?_
            by_cases c5 : x4 = true
            · rw [if_pos c5] at h
              refine .cond' (.tmp 32) false [c_ 211, l_ 26, b_ 0, c_ 7] (bF (nF c5)) ?_
              refine .reg' [0, 3] [] ⟨[(0, (.sl true a0.length 3 (a0.flatMap e49))), (3, (I (wrap64 (x1 + 1))))], [(1284, [(I (at_ a0 x1).f0), (I (at_ a0 x1).f1), (I (at_ a0 x1).f2)])], [], []⟩ [l_ 26, b_ 0, c_ 7] aln nocal ?_
              refine .wk' [] [] [(0, (.sl true a0.length 3 (a0.flatMap e49))), (3, (I (wrap64 (x1 + 1))))] [] shn (enc_ (.z (frz_sl e49_ok (fun h => h))) (enc_ (.z .s) enn)) ?_
              exact ih0 a0 (wrap64 (x1 + 1)) _ h
            · rw [if_neg c5] at h
              refine .cond' (.tmp 32) true [c_ 6732, c_ 6733, b_ 1, c_ 211, l_ 26, b_ 0, c_ 7] (bT (nT (vF c5))) ?_
              refine .reg' [2] [] ⟨[(2, (B false))], [(1284, [(I (at_ a0 x1).f0), (I (at_ a0 x1).f1), (I (at_ a0 x1).f2)])], [], []⟩ [c_ 6733, b_ 1, c_ 211, l_ 26, b_ 0, c_ 7] aln nocal ?_
              have h := Option.some.inj h
              subst h
              exact .fin0 [] (B false) [] aln (.z .s)
          · rw [if_neg c4] at h
            refine .reg' [0, 3, 32] [.no, .no, .c ⟨39, [(I (at_ a0 x1).f1), (I 0), (I 100000)], [], (B x2), [], [], [], [], (B x2), []⟩, .no, .v (B false), .no, .no, .no, .no, .c ⟨39, [(I (at_ a0 x1).f0), (I 0), (I (at_ a0 x1).f1)], [], (B x3), [], [], [], [], (B x3), []⟩, .no, .no, .v (B true)] ⟨[(0, (.sl true a0.length 3 (a0.flatMap e49))), (3, (I x1)), (32, (B true))], [(1284, [(I (at_ a0 x1).f0), (I (at_ a0 x1).f1), (I (at_ a0 x1).f2)])], [3 = 3 ∧ 1 + 1 ≤ 3, COK (hget [(1284, [(I (at_ a0 x1).f0), (I (at_ a0 x1).f1), (I (at_ a0 x1).f2)])]) [(I (at_ a0 x1).f1), (I 0), (I 100000)] ⟨39, [(I (at_ a0 x1).f1), (I 0), (I 100000)], [], (B x2), [], [], [], [], (B x2), []⟩, (B (!x2) : V) = B false, 3 = 3 ∧ 0 + 1 ≤ 3, 3 = 3 ∧ 1 + 1 ≤ 3, COK (hget [(1284, [(I (at_ a0 x1).f0), (I (at_ a0 x1).f1), (I (at_ a0 x1).f2)])]) [(I (at_ a0 x1).f0), (I 0), (I (at_ a0 x1).f1)] ⟨39, [(I (at_ a0 x1).f0), (I 0), (I (at_ a0 x1).f1)], [], (B x3), [], [], [], [], (B x3), []⟩, (B (!x3) : V) = B true], [⟨39, [(I (at_ a0 x1).f1), (I 0), (I 100000)], [], (B x2), [], [], [], [], (B x2), []⟩, ⟨39, [(I (at_ a0 x1).f0), (I 0), (I (at_ a0 x1).f1)], [], (B x3), [], [], [], [], (B x3), []⟩]⟩ [c_ 1683, b_ 1, c_ 211, l_ 26, b_ 0, c_ 7] (alc ⟨rfl, by decide⟩ (alc (cok0 false (a2c (.z .s) (a2c (.z .s) (a2c (.z .s) a2n))) (.z .s) (fun h => absurd h (by decide))) (alc (bF (nF c3)) (alc ⟨rfl, by decide⟩ (alc ⟨rfl, by decide⟩ (alc (cok0 false (a2c (.z .s) (a2c (.z .s) (a2c (.z .s) a2n))) (.z .s) (fun h => absurd h (by decide))) (alc (bT (nT (vF c4))) aln))))))) (acal (spec_l01In.J ((at_ a0 x1).f1) 0 100000 _ hx2) (acal (spec_l01In.J ((at_ a0 x1).f0) 0 ((at_ a0 x1).f1) _ hx3) nocal)) ?_
            refine .cond' (.tmp 32) true [c_ 6732, c_ 6733, b_ 1, c_ 211, l_ 26, b_ 0, c_ 7] (rfl) ?_
            refine .reg' [2] [] ⟨[(2, (B false))], [(1284, [(I (at_ a0 x1).f0), (I (at_ a0 x1).f1), (I (at_ a0 x1).f2)])], [], []⟩ [c_ 6733, b_ 1, c_ 211, l_ 26, b_ 0, c_ 7] aln nocal ?_
            have h := Option.some.inj h
            subst h
            exact .fin0 [] (B false) [] aln (.z .s)
        · rw [if_neg c3] at h
          refine .reg' [0, 3, 32] [.no, .no, .c ⟨39, [(I (at_ a0 x1).f1), (I 0), (I 100000)], [], (B x2), [], [], [], [], (B x2), []⟩, .no, .v (B true)] ⟨[(0, (.sl true a0.length 3 (a0.flatMap e49))), (3, (I x1)), (32, (B true))], [(1284, [(I (at_ a0 x1).f0), (I (at_ a0 x1).f1), (I (at_ a0 x1).f2)])], [3 = 3 ∧ 1 + 1 ≤ 3, COK (hget [(1284, [(I (at_ a0 x1).f0), (I (at_ a0 x1).f1), (I (at_ a0 x1).f2)])]) [(I (at_ a0 x1).f1), (I 0), (I 100000)] ⟨39, [(I (at_ a0 x1).f1), (I 0), (I 100000)], [], (B x2), [], [], [], [], (B x2), []⟩, (B (!x2) : V) = B true], [⟨39, [(I (at_ a0 x1).f1), (I 0), (I 100000)], [], (B x2), [], [], [], [], (B x2), []⟩]⟩ [c_ 1683, b_ 1, c_ 211, l_ 26, b_ 0, c_ 7] (alc ⟨rfl, by decide⟩ (alc (cok0 false (a2c (.z .s) (a2c (.z .s) (a2c (.z .s) a2n))) (.z .s) (fun h => absurd h (by decide))) (alc (bT (nT (vF c3))) aln))) (acal (spec_l01In.J ((at_ a0 x1).f1) 0 100000 _ hx2) nocal) ?_
          refine .cond' (.tmp 32) true [c_ 6732, c_ 6733, b_ 1, c_ 211, l_ 26, b_ 0, c_ 7] (rfl) ?_
          refine .reg' [2] [] ⟨[(2, (B false))], [(1284, [(I (at_ a0 x1).f0), (I (at_ a0 x1).f1), (I (at_ a0 x1).f2)])], [], []⟩ [c_ 6733, b_ 1, c_ 211, l_ 26, b_ 0, c_ 7] aln nocal ?_
          have h := Option.some.inj h
          subst h
          exact .fin0 [] (B false) [] aln (.z .s)
      · rw [if_neg c2] at h
        cases h
    · rw [if_neg c1] at h
      refine .cond' (.tmp 8) false [c_ 14, c_ 15] (bF (dF c1)) ?_
      refine .reg' [2] [] ⟨[(2, (B (decide ((a0.length : Int) ≤ 60))))], [], [], []⟩ [c_ 15] aln nocal ?_
      have h := Option.some.inj h
      subst h
      exact .fin0 [] (B (decide ((a0.length : Int) ≤ 60))) [] aln (.z .s)
theorem spec_StaysOk.J (k : Nat) (a0 : (List S49)) (r : Bool) (h : spec_StaysOk.f k a0 = some r) : J prog (.call 17 [(.sl true a0.length 3 (a0.flatMap e49))] [] (B r) []) := by
  unfold spec_StaysOk.f at h
  have ih0 := spec_StaysOk.lab k
  refine .call' [c_ 2, c_ 3] ?_
  refine .reg' [0] [] ⟨[(0, (.sl true a0.length 3 (a0.flatMap e49)))], [], [], []⟩ [c_ 12, c_ 13, c_ 7] aln nocal ?_
  refine .reg' [0, 3] [] ⟨[(0, (.sl true a0.length 3 (a0.flatMap e49))), (3, (I 0))], [], [], []⟩ [l_ 26, b_ 0, c_ 7] aln nocal ?_
  exact ih0 a0 0 _ h
/-! spec_l10Gap: function 44 -/
def spec_l10Gap.f (a0 : Int) : Option Bool := ((spec_l01In.f a0 1 60).bind fun x1 => (some x1))
theorem spec_l10Gap.J (a0 : Int) (r : Bool) (h : spec_l10Gap.f a0 = some r) : J prog (.call 44 [(I a0)] [] (B r) []) := by
  unfold spec_l10Gap.f at h
  refine .call' [c_ 2, c_ 3] ?_
  refine .reg' [0] [] ⟨[(0, (I a0))], [], [], []⟩ [c_ 6, c_ 7] aln nocal ?_
  obtain ⟨x1, hx1, h⟩ := Option.bind_eq_some_iff.mp h
  refine .reg' [2] [.no, .c ⟨39, [(I a0), (I 1), (I 60)], [], (B x1), [], [], [], [], (B x1), []⟩] ⟨[(2, (B x1))], [], [COK (hget []) [(I a0), (I 1), (I 60)] ⟨39, [(I a0), (I 1), (I 60)], [], (B x1), [], [], [], [], (B x1), []⟩], [⟨39, [(I a0), (I 1), (I 60)], [], (B x1), [], [], [], [], (B x1), []⟩]⟩ [c_ 7] (alc (cok0 false (a2c (.z .s) (a2c (.z .s) (a2c (.z .s) a2n))) (.z .s) (fun h => absurd h (by decide))) aln) (acal (spec_l01In.J a0 1 60 _ hx1) nocal) ?_
  have h := Option.some.inj h
  subst h
  exact .fin0 [] (B x1) [] aln (.z .s)
/-! spec_l10Holds: function 45 -/
def spec_l10Holds.f (a0 : S49) (a1 : Int) (a2 : Int) : Option Bool := ((spec_l01In.f a2 a0.f0 (wrap64 ((wrap64 (a0.f1 + a1)) - 1))).bind fun x1 => (some x1))
theorem spec_l10Holds.J (a0 : S49) (a1 : Int) (a2 : Int) (r : Bool) (h : spec_l10Holds.f a0 a1 a2 = some r) : J prog (.call 45 [(.ag [(I a0.f0), (I a0.f1), (I a0.f2)]), (I a1), (I a2)] [] (B r) []) := by
  unfold spec_l10Holds.f at h
  refine .call' [c_ 2, c_ 3] ?_
  refine .reg' [1, 2, 3] [] ⟨[(1, (I a1)), (2, (I a2)), (3, (.pt 256 0 3))], [(256, [(I a0.f0), (I a0.f1), (I a0.f2)])], [], []⟩ [c_ 6, c_ 7] aln nocal ?_
  obtain ⟨x1, hx1, h⟩ := Option.bind_eq_some_iff.mp h
  refine .reg' [6] [.no, .no, .no, .no, .no, .no, .no, .no, .c ⟨39, [(I a2), (I a0.f0), (I (wrap64 ((wrap64 (a0.f1 + a1)) - 1)))], [], (B x1), [], [], [], [], (B x1), []⟩] ⟨[(6, (B x1))], [(256, [(I a0.f0), (I a0.f1), (I a0.f2)])], [3 = 3 ∧ 0 + 1 ≤ 3, 3 = 3 ∧ 1 + 1 ≤ 3, COK (hget [(256, [(I a0.f0), (I a0.f1), (I a0.f2)])]) [(I a2), (I a0.f0), (I (wrap64 ((wrap64 (a0.f1 + a1)) - 1)))] ⟨39, [(I a2), (I a0.f0), (I (wrap64 ((wrap64 (a0.f1 + a1)) - 1)))], [], (B x1), [], [], [], [], (B x1), []⟩], [⟨39, [(I a2), (I a0.f0), (I (wrap64 ((wrap64 (a0.f1 + a1)) - 1)))], [], (B x1), [], [], [], [], (B x1), []⟩]⟩ [c_ 7] (alc ⟨rfl, by decide⟩ (alc ⟨rfl, by decide⟩ (alc (cok0 false (a2c (.z .s) (a2c (.z .s) (a2c (.z .s) a2n))) (.z .s) (fun h => absurd h (by decide))) aln))) (acal (spec_l01In.J a2 a0.f0 (wrap64 ((wrap64 (a0.f1 + a1)) - 1)) _ hx1) nocal) ?_
  have h := Option.some.inj h
  subst h
  exact .fin0 [] (B x1) [] aln (.z .s)
/-! spec_Peak: function 21 -/
mutual
def spec_Peak.l0 : Nat → (List S49) → Int → Int → Int → Option Int
 | 0, _, _, _, _ => none
 | k + 1, a0, a1, x3, x4 => (if x4 < (a0.length : Int) then (spec_Peak.l1 k a0 a1 x3 x4 0 0) else (some x3))
def spec_Peak.l1 : Nat → (List S49) → Int → Int → Int → Int → Int → Option Int
 | 0, _, _, _, _, _, _ => none
 | k + 1, a0, a1, x3, x4, x5, x6 => (if x6 < (a0.length : Int) then (if 0 ≤ x6 then (if 0 ≤ x4 then (if x4 < (a0.length : Int) then ((spec_l10Holds.f (at_ a0 x6) a1 ((at_ a0 x4).f0)).bind fun x7 => (if x7 = true then (spec_Peak.l1 k a0 a1 x3 x4 (wrap64 (x5 + 1)) (wrap64 (x6 + 1))) else (spec_Peak.l1 k a0 a1 x3 x4 x5 (wrap64 (x6 + 1))))) else none) else none) else none) else (if x5 > x3 then (spec_Peak.l0 k a0 a1 x5 (wrap64 (x4 + 1))) else (spec_Peak.l0 k a0 a1 x3 (wrap64 (x4 + 1)))))
end
def spec_Peak.f (k : Nat) (a0 : (List S49)) (a1 : Int) : Option Int := ((spec_StaysOk.f k a0).bind fun x1 => (if x1 = true then ((spec_l10Gap.f a1).bind fun x2 => (if x2 = true then (spec_Peak.l0 k a0 a1 0 0) else (some 0))) else (some 0)))
theorem spec_Peak.lab : ∀ k, (∀ (a0 : (List S49)) (a1 : Int) (x3 : Int) (x4 : Int) (r : Int), spec_Peak.l0 k a0 a1 x3 x4 = some r → J prog (.run 21 [] [l_ 122, b_ 0, c_ 31] [(0, (.sl true a0.length 3 (a0.flatMap e49))), (1, (I a1)), (5, (I x3)), (6, (I x4))] [] (I r) [])) ∧ (∀ (a0 : (List S49)) (a1 : Int) (x3 : Int) (x4 : Int) (x5 : Int) (x6 : Int) (r : Int), spec_Peak.l1 k a0 a1 x3 x4 x5 x6 = some r → J prog (.run 21 [] [l_ 31306, b_ 2, c_ 7827, b_ 1, c_ 979, l_ 122, b_ 0, c_ 31] [(0, (.sl true a0.length 3 (a0.flatMap e49))), (1, (I a1)), (5, (I x3)), (6, (I x4)), (7, (I x5)), (8, (I x6))] [] (I r) []))
 | 0 => ⟨(by intro a0 a1 x3 x4 r h; unfold spec_Peak.l0 at h; cases h), (by intro a0 a1 x3 x4 x5 x6 r h; unfold spec_Peak.l1 at h; cases h)⟩
 | k + 1 => by
  obtain ⟨ih0, ih1⟩ := spec_Peak.lab k
  refine ⟨?_, ?_⟩
  · intro a0 a1 x3 x4 r h
    unfold spec_Peak.l0 at h
    refine .loop' [c_ 976, c_ 977, c_ 489, l_ 122, b_ 0, c_ 31] ?_
    refine .reg' [0, 1, 5, 6, 20] [] ⟨[(0, (.sl true a0.length 3 (a0.flatMap e49))), (1, (I a1)), (5, (I x3)), (6, (I x4)), (20, (B (decide (x4 < (a0.length : Int)))))], [], [], []⟩ [c_ 977, c_ 489, l_ 122, b_ 0, c_ 31] aln nocal ?_
    by_cases c3 : x4 < (a0.length : Int)
    · rw [if_pos c3] at h
      refine .cond' (.tmp 20) true [c_ 3912, c_ 3913, b_ 1, c_ 979, l_ 122, b_ 0, c_ 31] (bT (dT c3)) ?_
      refine .reg' [0, 1, 5, 6, 7] [] ⟨[(0, (.sl true a0.length 3 (a0.flatMap e49))), (1, (I a1)), (5, (I x3)), (6, (I x4)), (7, (I 0))], [], [], []⟩ [c_ 15652, c_ 15653, c_ 7827, b_ 1, c_ 979, l_ 122, b_ 0, c_ 31] aln nocal ?_
      refine .reg' [0, 1, 5, 6, 7, 8] [] ⟨[(0, (.sl true a0.length 3 (a0.flatMap e49))), (1, (I a1)), (5, (I x3)), (6, (I x4)), (7, (I 0)), (8, (I 0))], [], [], []⟩ [l_ 31306, b_ 2, c_ 7827, b_ 1, c_ 979, l_ 122, b_ 0, c_ 31] aln nocal ?_
      exact ih1 a0 a1 x3 x4 0 0 _ h
    · rw [if_neg c3] at h
      refine .cond' (.tmp 20) false [c_ 62, c_ 63] (bF (dF c3)) ?_
      refine .reg' [4] [] ⟨[(4, (I x3))], [], [], []⟩ [c_ 63] aln nocal ?_
      have h := Option.some.inj h
      subst h
      exact .fin0 [] (I x3) [] aln (.z .s)
  · intro a0 a1 x3 x4 x5 x6 r h
    unfold spec_Peak.l1 at h
    refine .loop' [c_ 250448, c_ 250449, c_ 125225, l_ 31306, b_ 2, c_ 7827, b_ 1, c_ 979, l_ 122, b_ 0, c_ 31] ?_
    refine .reg' [0, 1, 5, 6, 7, 8, 26] [] ⟨[(0, (.sl true a0.length 3 (a0.flatMap e49))), (1, (I a1)), (5, (I x3)), (6, (I x4)), (7, (I x5)), (8, (I x6)), (26, (B (decide (x6 < (a0.length : Int)))))], [], [], []⟩ [c_ 250449, c_ 125225, l_ 31306, b_ 2, c_ 7827, b_ 1, c_ 979, l_ 122, b_ 0, c_ 31] aln nocal ?_
    by_cases c4 : x6 < (a0.length : Int)
    · rw [if_pos c4] at h
      refine .cond' (.tmp 26) true [c_ 1001800, c_ 1001801, b_ 3, c_ 250451, l_ 31306, b_ 2, c_ 7827, b_ 1, c_ 979, l_ 122, b_ 0, c_ 31] (bT (dT c4)) ?_
      by_cases c5 : 0 ≤ x6
      · rw [if_pos c5] at h
        by_cases c6 : 0 ≤ x4
        · rw [if_pos c6] at h
          by_cases c7 : x4 < (a0.length : Int)
          · rw [if_pos c7] at h
            obtain ⟨x7, hx7, h⟩ := Option.bind_eq_some_iff.mp h
            refine .reg' [0, 1, 5, 6, 7, 8, 39] [.no, .no, .no, .v (.ag [(I (at_ a0 x6).f0), (I (at_ a0 x6).f1), (I (at_ a0 x6).f2)]), .no, .no, .no, .no, .no, .v (I (at_ a0 x4).f0), .c ⟨45, [(.ag [(I (at_ a0 x6).f0), (I (at_ a0 x6).f1), (I (at_ a0 x6).f2)]), (I a1), (I (at_ a0 x4).f0)], [], (B x7), [], [], [], [], (B x7), []⟩] ⟨[(0, (.sl true a0.length 3 (a0.flatMap e49))), (1, (I a1)), (5, (I x3)), (6, (I x4)), (7, (I x5)), (8, (I x6)), (39, (B x7))], [], [(0 : Int) ≤ x6 ∧ x6 < (a0.length : Int), rdC prog 50 ((a0.flatMap e49).drop (x6.toNat * 3)) = (.ag [(I (at_ a0 x6).f0), (I (at_ a0 x6).f1), (I (at_ a0 x6).f2)]), 3 ≤ ((a0.flatMap e49).drop (x6.toNat * 3)).length, (0 : Int) ≤ x4 ∧ x4 < (a0.length : Int), rdC prog 3 (((a0.flatMap e49).drop (x4.toNat * 3)).drop 0) = (I (at_ a0 x4).f0), 1 ≤ (((a0.flatMap e49).drop (x4.toNat * 3)).drop 0).length, COK (hget []) [(.ag [(I (at_ a0 x6).f0), (I (at_ a0 x6).f1), (I (at_ a0 x6).f2)]), (I a1), (I (at_ a0 x4).f0)] ⟨45, [(.ag [(I (at_ a0 x6).f0), (I (at_ a0 x6).f1), (I (at_ a0 x6).f2)]), (I a1), (I (at_ a0 x4).f0)], [], (B x7), [], [], [], [], (B x7), []⟩], [⟨45, [(.ag [(I (at_ a0 x6).f0), (I (at_ a0 x6).f1), (I (at_ a0 x6).f2)]), (I a1), (I (at_ a0 x4).f0)], [], (B x7), [], [], [], [], (B x7), []⟩]⟩ [c_ 1001801, b_ 3, c_ 250451, l_ 31306, b_ 2, c_ 7827, b_ 1, c_ 979, l_ 122, b_ 0, c_ 31] (alc ⟨c5, c4⟩ (alc (ldA e49_ok rfl rfl c5 c4) (alc (okI e49_ok c5 c4 (by decide)) (alc ⟨c6, c7⟩ (alc (ldC e49_ok 0 (by decide) rfl c6 c7) (alc (okIj e49_ok c6 c7 (by decide)) (alc (cok0 false (a2c (.z (frz_ag (a2c .s (a2c .s (a2c .s a2n))))) (a2c (.z .s) (a2c (.z .s) a2n))) (.z .s) (fun h => absurd h (by decide))) aln))))))) (acal (spec_l10Holds.J (at_ a0 x6) a1 ((at_ a0 x4).f0) _ hx7) nocal) ?_
            by_cases c8 : x7 = true
            · rw [if_pos c8] at h
              refine .cond' (.tmp 39) true [c_ 2003602, b_ 3, c_ 250451, l_ 31306, b_ 2, c_ 7827, b_ 1, c_ 979, l_ 122, b_ 0, c_ 31] (bT c8) ?_
              refine .reg' [0, 1, 5, 6, 7, 8] [] ⟨[(0, (.sl true a0.length 3 (a0.flatMap e49))), (1, (I a1)), (5, (I x3)), (6, (I x4)), (7, (I (wrap64 (x5 + 1)))), (8, (I x6))], [], [], []⟩ [c_ 250451, l_ 31306, b_ 2, c_ 7827, b_ 1, c_ 979, l_ 122, b_ 0, c_ 31] aln nocal ?_
              refine .reg' [0, 1, 5, 6, 7, 8] [] ⟨[(0, (.sl true a0.length 3 (a0.flatMap e49))), (1, (I a1)), (5, (I x3)), (6, (I x4)), (7, (I (wrap64 (x5 + 1)))), (8, (I (wrap64 (x6 + 1))))], [], [], []⟩ [l_ 31306, b_ 2, c_ 7827, b_ 1, c_ 979, l_ 122, b_ 0, c_ 31] aln nocal ?_
              exact ih1 a0 a1 x3 x4 (wrap64 (x5 + 1)) (wrap64 (x6 + 1)) _ h
            · rw [if_neg c8] at h
              refine .cond' (.tmp 39) false [c_ 250451, l_ 31306, b_ 2, c_ 7827, b_ 1, c_ 979, l_ 122, b_ 0, c_ 31] (bF (vF c8)) ?_
              refine .reg' [0, 1, 5, 6, 7, 8] [] ⟨[(0, (.sl true a0.length 3 (a0.flatMap e49))), (1, (I a1)), (5, (I x3)), (6, (I x4)), (7, (I x5)), (8, (I (wrap64 (x6 + 1))))], [], [], []⟩ [l_ 31306, b_ 2, c_ 7827, b_ 1, c_ 979, l_ 122, b_ 0, c_ 31] aln nocal ?_
              exact ih1 a0 a1 x3 x4 x5 (wrap64 (x6 + 1)) _ h
          · rw [if_neg c7] at h
            cases h
        · rw [if_neg c6] at h
          cases h
      · rw [if_neg c5] at h
        cases h
    · rw [if_neg c4] at h
      refine .cond' (.tmp 26) false [c_ 15654, c_ 15655, b_ 1, c_ 979, l_ 122, b_ 0, c_ 31] (bF (dF c4)) ?_
      refine .reg' [0, 1, 5, 6, 7, 44] [] ⟨[(0, (.sl true a0.length 3 (a0.flatMap e49))), (1, (I a1)), (5, (I x3)), (6, (I x4)), (7, (I x5)), (44, (B (decide (x5 > x3))))], [], [], []⟩ [c_ 15655, b_ 1, c_ 979, l_ 122, b_ 0, c_ 31] aln nocal ?_
      by_cases c9 : x5 > x3
      · rw [if_pos c9] at h
        refine .cond' (.tmp 44) true [c_ 31310, b_ 1, c_ 979, l_ 122, b_ 0, c_ 31] (bT (dT c9)) ?_
        refine .reg' [0, 1, 5, 6] [] ⟨[(0, (.sl true a0.length 3 (a0.flatMap e49))), (1, (I a1)), (5, (I x5)), (6, (I x4))], [], [], []⟩ [c_ 979, l_ 122, b_ 0, c_ 31] aln nocal ?_
        refine .reg' [0, 1, 5, 6] [] ⟨[(0, (.sl true a0.length 3 (a0.flatMap e49))), (1, (I a1)), (5, (I x5)), (6, (I (wrap64 (x4 + 1))))], [], [], []⟩ [l_ 122, b_ 0, c_ 31] aln nocal ?_
        exact ih0 a0 a1 x5 (wrap64 (x4 + 1)) _ h
      · rw [if_neg c9] at h
        refine .cond' (.tmp 44) false [c_ 979, l_ 122, b_ 0, c_ 31] (bF (dF c9)) ?_
        refine .reg' [0, 1, 5, 6] [] ⟨[(0, (.sl true a0.length 3 (a0.flatMap e49))), (1, (I a1)), (5, (I x3)), (6, (I (wrap64 (x4 + 1))))], [], [], []⟩ [l_ 122, b_ 0, c_ 31] aln nocal ?_
        exact ih0 a0 a1 x3 (wrap64 (x4 + 1)) _ h
theorem spec_Peak.J (k : Nat) (a0 : (List S49)) (a1 : Int) (r : Int) (h : spec_Peak.f k a0 a1 = some r) : J prog (.call 21 [(.sl true a0.length 3 (a0.flatMap e49)), (I a1)] [] (I r) []) := by
  unfold spec_Peak.f at h
  obtain ⟨ih0, ih1⟩ := spec_Peak.lab k
  refine .call' [c_ 2, c_ 3] ?_
  refine .reg' [0, 1] [] ⟨[(0, (.sl true a0.length 3 (a0.flatMap e49))), (1, (I a1))], [], [], []⟩ [c_ 12, c_ 13, c_ 7] aln nocal ?_
  obtain ⟨x1, hx1, h⟩ := Option.bind_eq_some_iff.mp h
  by_cases c1 : x1 = true
  · rw [if_pos c1] at h
    obtain ⟨x2, hx2, h⟩ := Option.bind_eq_some_iff.mp h
    refine .reg' [0, 1, 16] [.no, .c ⟨17, [(.sl true a0.length 3 (a0.flatMap e49))], [], (B x1), [], [], [], [], (B x1), []⟩, .no, .v (B false), .no, .c ⟨44, [(I a1)], [], (B x2), [], [], [], [], (B x2), []⟩] ⟨[(0, (.sl true a0.length 3 (a0.flatMap e49))), (1, (I a1)), (16, (B (!x2)))], [], [COK (hget []) [(.sl true a0.length 3 (a0.flatMap e49))] ⟨17, [(.sl true a0.length 3 (a0.flatMap e49))], [], (B x1), [], [], [], [], (B x1), []⟩, (B (!x1) : V) = B false, COK (hget []) [(I a1)] ⟨44, [(I a1)], [], (B x2), [], [], [], [], (B x2), []⟩], [⟨17, [(.sl true a0.length 3 (a0.flatMap e49))], [], (B x1), [], [], [], [], (B x1), []⟩, ⟨44, [(I a1)], [], (B x2), [], [], [], [], (B x2), []⟩]⟩ [c_ 13, c_ 7] (alc (cok0 false (a2c (.z (frz_sl e49_ok (fun h => h))) a2n) (.z .s) (fun h => absurd h (by decide))) (alc (bF (nF c1)) (alc (cok0 false (a2c (.z .s) a2n) (.z .s) (fun h => absurd h (by decide))) aln))) (acal (spec_StaysOk.J k a0 _ hx1) (acal (spec_l10Gap.J a1 _ hx2) nocal)) ?_
    by_cases c2 : x2 = true
    · rw [if_pos c2] at h
      refine .cond' (.tmp 16) false [c_ 14, c_ 15] (bF (nF c2)) ?_
      refine .reg' [0, 1, 5] [] ⟨[(0, (.sl true a0.length 3 (a0.flatMap e49))), (1, (I a1)), (5, (I 0))], [], [], []⟩ [c_ 60, c_ 61, c_ 31] aln nocal ?_
      refine .reg' [0, 1, 5, 6] [] ⟨[(0, (.sl true a0.length 3 (a0.flatMap e49))), (1, (I a1)), (5, (I 0)), (6, (I 0))], [], [], []⟩ [l_ 122, b_ 0, c_ 31] aln nocal ?_
      exact ih0 a0 a1 0 0 _ h
    · rw [if_neg c2] at h
      refine .cond' (.tmp 16) true [c_ 52, c_ 53, c_ 7] (bT (nT (vF c2))) ?_
      refine .reg' [4] [] ⟨[(4, (I 0))], [], [], []⟩ [c_ 53, c_ 7] aln nocal ?_
      have h := Option.some.inj h
      subst h
      exact .fin0 [] (I 0) [] aln (.z .s)
  · rw [if_neg c1] at h
    refine .reg' [0, 1, 16] [.no, .c ⟨17, [(.sl true a0.length 3 (a0.flatMap e49))], [], (B x1), [], [], [], [], (B x1), []⟩, .no, .v (B true)] ⟨[(0, (.sl true a0.length 3 (a0.flatMap e49))), (1, (I a1)), (16, (B true))], [], [COK (hget []) [(.sl true a0.length 3 (a0.flatMap e49))] ⟨17, [(.sl true a0.length 3 (a0.flatMap e49))], [], (B x1), [], [], [], [], (B x1), []⟩, (B (!x1) : V) = B true], [⟨17, [(.sl true a0.length 3 (a0.flatMap e49))], [], (B x1), [], [], [], [], (B x1), []⟩]⟩ [c_ 13, c_ 7] (alc (cok0 false (a2c (.z (frz_sl e49_ok (fun h => h))) a2n) (.z .s) (fun h => absurd h (by decide))) (alc (bT (nT (vF c1))) aln)) (acal (spec_StaysOk.J k a0 _ hx1) nocal) ?_
    refine .cond' (.tmp 16) true [c_ 52, c_ 53, c_ 7] (rfl) ?_
    refine .reg' [4] [] ⟨[(4, (I 0))], [], [], []⟩ [c_ 53, c_ 7] aln nocal ?_
    have h := Option.some.inj h
    subst h
    exact .fin0 [] (I 0) [] aln (.z .s)
/-! impl_BaysOk: function 14 -/
def impl_BaysOk.l0 : Nat → (List Int) → Int → Option Bool
 | 0, _, _ => none
 | k + 1, a0, x2 => (if x2 < (a0.length : Int) then (if 0 ≤ x2 then ((impl_between.f (at_ a0 x2) 1 1000).bind fun x3 => (if x3 = true then (impl_BaysOk.l0 k a0 (wrap64 (x2 + 1))) else (some false))) else none) else (some true))
def impl_BaysOk.f (k : Nat) (a0 : (List Int)) : Option Bool := ((impl_between.f (a0.length : Int) 1 12).bind fun x1 => (if x1 = true then (impl_BaysOk.l0 k a0 0) else (some false)))
theorem impl_BaysOk.lab : ∀ k, (∀ (a0 : (List Int)) (x2 : Int) (r : Bool), impl_BaysOk.l0 k a0 x2 = some r → J prog (.run 14 [] [l_ 58, b_ 0, c_ 15] [(9, (.sl true a0.length 1 (a0.flatMap encI))), (10, (I (a0.length : Int))), (11, (I x2))] [] (B r) []))
 | 0 => (by intro a0 x2 r h; unfold impl_BaysOk.l0 at h; cases h)
 | k + 1 => by
  have ih0 := impl_BaysOk.lab k
  · intro a0 x2 r h
    unfold impl_BaysOk.l0 at h
    refine .loop' [c_ 232, c_ 233, l_ 58, b_ 0, c_ 15] ?_
    refine .reg' [9, 10, 11, 12] [] ⟨[(9, (.sl true a0.length 1 (a0.flatMap encI))), (10, (I (a0.length : Int))), (11, (I x2)), (12, (B (decide (x2 < (a0.length : Int)))))], [], [], []⟩ [c_ 466, c_ 467, l_ 58, b_ 0, c_ 15] aln nocal ?_
    by_cases c2 : x2 < (a0.length : Int)
    · rw [if_pos c2] at h
      refine .cond' (.tmp 12) true [c_ 3736, c_ 3737, b_ 1, c_ 935, l_ 58, b_ 0, c_ 15] (bT (dT c2)) ?_
      by_cases c3 : 0 ≤ x2
      · rw [if_pos c3] at h
        refine .reg' [4, 9, 10, 11] [.no, .v (I (at_ a0 x2))] ⟨[(4, (I (at_ a0 x2))), (9, (.sl true a0.length 1 (a0.flatMap encI))), (10, (I (a0.length : Int))), (11, (I x2))], [], [(0 : Int) ≤ x2 ∧ x2 < (a0.length : Int), rdC prog 3 ((a0.flatMap encI).drop (x2.toNat * 1)) = (I (at_ a0 x2)), 1 ≤ ((a0.flatMap encI).drop (x2.toNat * 1)).length], []⟩ [c_ 7474, c_ 7475, b_ 1, c_ 935, l_ 58, b_ 0, c_ 15] (alc ⟨c3, c2⟩ (alc (ldC1 encI_ok rfl c3 c2) (alc (okI encI_ok c3 c2 (by decide)) aln))) nocal ?_
        obtain ⟨x3, hx3, h⟩ := Option.bind_eq_some_iff.mp h
        refine .reg' [9, 10, 11, 17] [.no, .c ⟨40, [(I (at_ a0 x2)), (I 1), (I 1000)], [], (B x3), [], [], [], [], (B x3), []⟩] ⟨[(9, (.sl true a0.length 1 (a0.flatMap encI))), (10, (I (a0.length : Int))), (11, (I x2)), (17, (B (!x3)))], [], [COK (hget []) [(I (at_ a0 x2)), (I 1), (I 1000)] ⟨40, [(I (at_ a0 x2)), (I 1), (I 1000)], [], (B x3), [], [], [], [], (B x3), []⟩], [⟨40, [(I (at_ a0 x2)), (I 1), (I 1000)], [], (B x3), [], [], [], [], (B x3), []⟩]⟩ [c_ 7475, b_ 1, c_ 935, l_ 58, b_ 0, c_ 15] (alc (cok0 false (a2c (.z .s) (a2c (.z .s) (a2c (.z .s) a2n))) (.z .s) (fun h => absurd h (by decide))) aln) (acal (impl_between.J (at_ a0 x2) 1 1000 _ hx3) nocal) ?_
        by_cases c4 : x3 = true
        · rw [if_pos c4] at h
          refine .cond' (.tmp 17) false [c_ 935, l_ 58, b_ 0, c_ 15] (bF (nF c4)) ?_
          refine .reg' [9, 10, 11] [] ⟨[(9, (.sl true a0.length 1 (a0.flatMap encI))), (10, (I (a0.length : Int))), (11, (I (wrap64 (x2 + 1))))], [], [], []⟩ [l_ 58, b_ 0, c_ 15] aln nocal ?_
          exact ih0 a0 (wrap64 (x2 + 1)) _ h
        · rw [if_neg c4] at h
          refine .cond' (.tmp 17) true [c_ 29900, c_ 29901, b_ 1, c_ 935, l_ 58, b_ 0, c_ 15] (bT (nT (vF c4))) ?_
          refine .reg' [2] [] ⟨[(2, (B false))], [], [], []⟩ [c_ 29901, b_ 1, c_ 935, l_ 58, b_ 0, c_ 15] aln nocal ?_
          have h := Option.some.inj h
          subst h
          exact .fin0 [] (B false) [] aln (.z .s)
      · rw [if_neg c3] at h
        cases h
    · rw [if_neg c2] at h
      refine .cond' (.tmp 12) false [c_ 30, c_ 31] (bF (dF c2)) ?_
      refine .reg' [2] [] ⟨[(2, (B true))], [], [], []⟩ [c_ 31] aln nocal ?_
      have h := Option.some.inj h
      subst h
      exact .fin0 [] (B true) [] aln (.z .s)
theorem impl_BaysOk.J (k : Nat) (a0 : (List Int)) (r : Bool) (h : impl_BaysOk.f k a0 = some r) : J prog (.call 14 [(.sl true a0.length 1 (a0.flatMap encI))] [] (B r) []) := by
  unfold impl_BaysOk.f at h
  have ih0 := impl_BaysOk.lab k
  refine .call' [c_ 2, c_ 3] ?_
  refine .reg' [0] [] ⟨[(0, (.sl true a0.length 1 (a0.flatMap encI)))], [], [], []⟩ [c_ 12, c_ 13, c_ 7] aln nocal ?_
  obtain ⟨x1, hx1, h⟩ := Option.bind_eq_some_iff.mp h
  refine .reg' [0, 8] [.no, .no, .c ⟨40, [(I (a0.length : Int)), (I 1), (I 12)], [], (B x1), [], [], [], [], (B x1), []⟩] ⟨[(0, (.sl true a0.length 1 (a0.flatMap encI))), (8, (B (!x1)))], [], [COK (hget []) [(I (a0.length : Int)), (I 1), (I 12)] ⟨40, [(I (a0.length : Int)), (I 1), (I 12)], [], (B x1), [], [], [], [], (B x1), []⟩], [⟨40, [(I (a0.length : Int)), (I 1), (I 12)], [], (B x1), [], [], [], [], (B x1), []⟩]⟩ [c_ 13, c_ 7] (alc (cok0 false (a2c (.z .s) (a2c (.z .s) (a2c (.z .s) a2n))) (.z .s) (fun h => absurd h (by decide))) aln) (acal (impl_between.J (a0.length : Int) 1 12 _ hx1) nocal) ?_
  by_cases c1 : x1 = true
  · rw [if_pos c1] at h
    refine .cond' (.tmp 8) false [c_ 28, c_ 29, c_ 15] (bF (nF c1)) ?_
    refine .reg' [9, 10, 11] [] ⟨[(9, (.sl true a0.length 1 (a0.flatMap encI))), (10, (I (a0.length : Int))), (11, (I 0))], [], [], []⟩ [l_ 58, b_ 0, c_ 15] aln nocal ?_
    exact ih0 a0 0 _ h
  · rw [if_neg c1] at h
    refine .cond' (.tmp 8) true [c_ 52, c_ 53, c_ 7] (bT (nT (vF c1))) ?_
    refine .reg' [2] [] ⟨[(2, (B false))], [], [], []⟩ [c_ 53, c_ 7] aln nocal ?_
    have h := Option.some.inj h
    subst h
    exact .fin0 [] (B false) [] aln (.z .s)
/-! cmp_isNaN: function 64 -/
def cmp_isNaN.f (a0 : Int) : Option Bool := (some (!(a0 == a0)))
theorem cmp_isNaN.J (a0 : Int) (r : Bool) (h : cmp_isNaN.f a0 = some r) : J prog (.call 64 [(I a0)] [] (B r) []) := by
  unfold cmp_isNaN.f at h
  refine .call' [c_ 2, c_ 3] ?_
  refine .reg' [0] [] ⟨[(0, (I a0))], [], [], []⟩ [c_ 6, c_ 7] aln nocal ?_
  refine .reg' [2] [] ⟨[(2, (B (!(a0 == a0))))], [], [], []⟩ [c_ 7] aln nocal ?_
  have h := Option.some.inj h
  subst h
  exact .fin0 [] (B (!(a0 == a0))) [] aln (.z .s)
/-! cmp_Compare: function 60 -/
def cmp_Compare.f (a0 : Int) (a1 : Int) : Option Int := ((cmp_isNaN.f a0).bind fun x1 => ((cmp_isNaN.f a1).bind fun x2 => (if x1 = true then (if x2 = true then (some 0) else (some (-1))) else (if x2 = true then (some 1) else (if a0 < a1 then (some (-1)) else (if a0 > a1 then (some 1) else (some 0)))))))
theorem cmp_Compare.J (a0 : Int) (a1 : Int) (r : Int) (h : cmp_Compare.f a0 a1 = some r) : J prog (.call 60 [(I a0), (I a1)] [] (I r) []) := by
  unfold cmp_Compare.f at h
  refine .call' [c_ 2, c_ 3] ?_
  refine .reg' [0, 1] [] ⟨[(0, (I a0)), (1, (I a1))], [], [], []⟩ [c_ 6, c_ 7] aln nocal ?_
  obtain ⟨x1, hx1, h⟩ := Option.bind_eq_some_iff.mp h
  refine .reg' [0, 1, 5] [.no, .c ⟨64, [(I a0)], [], (B x1), [], [], [], [], (B x1), []⟩] ⟨[(0, (I a0)), (1, (I a1)), (5, (B x1))], [], [COK (hget []) [(I a0)] ⟨64, [(I a0)], [], (B x1), [], [], [], [], (B x1), []⟩], [⟨64, [(I a0)], [], (B x1), [], [], [], [], (B x1), []⟩]⟩ [c_ 14, c_ 15] (alc (cok0 false (a2c (.z .s) a2n) (.z .s) (fun h => absurd h (by decide))) aln) (acal (cmp_isNaN.J a0 _ hx1) nocal) ?_
  obtain ⟨x2, hx2, h⟩ := Option.bind_eq_some_iff.mp h
  refine .reg' [0, 1, 5, 6] [.no, .c ⟨64, [(I a1)], [], (B x2), [], [], [], [], (B x2), []⟩] ⟨[(0, (I a0)), (1, (I a1)), (5, (B x1)), (6, (B x2))], [], [COK (hget []) [(I a1)] ⟨64, [(I a1)], [], (B x2), [], [], [], [], (B x2), []⟩], [⟨64, [(I a1)], [], (B x2), [], [], [], [], (B x2), []⟩]⟩ [c_ 60, c_ 61, c_ 31] (alc (cok0 false (a2c (.z .s) a2n) (.z .s) (fun h => absurd h (by decide))) aln) (acal (cmp_isNaN.J a1 _ hx2) nocal) ?_
  refine .reg' [0, 1, 6, 11] [] ⟨[(0, (I a0)), (1, (I a1)), (6, (B x2)), (11, (B x1))], [], [], []⟩ [c_ 61, c_ 31] aln nocal ?_
  by_cases c1 : x1 = true
  · rw [if_pos c1] at h
    refine .cond' (.tmp 11) true [c_ 488, c_ 489, c_ 245, c_ 31] (bT c1) ?_
    refine .reg' [12] [] ⟨[(12, (B x2))], [], [], []⟩ [c_ 489, c_ 245, c_ 31] aln nocal ?_
    by_cases c2 : x2 = true
    · rw [if_pos c2] at h
      refine .cond' (.tmp 12) true [c_ 1956, c_ 1957, c_ 245, c_ 31] (bT c2) ?_
      refine .reg' [4] [] ⟨[(4, (I 0))], [], [], []⟩ [c_ 1957, c_ 245, c_ 31] aln nocal ?_
      have h := Option.some.inj h
      subst h
      exact .fin0 [] (I 0) [] aln (.z .s)
    · rw [if_neg c2] at h
      refine .cond' (.tmp 12) false [c_ 490, c_ 491, c_ 31] (bF (vF c2)) ?_
      refine .reg' [4] [] ⟨[(4, (I (-1)))], [], [], []⟩ [c_ 491, c_ 31] aln nocal ?_
      have h := Option.some.inj h
      subst h
      exact .fin0 [] (I (-1)) [] aln (.z .s)
  · rw [if_neg c1] at h
    refine .cond' (.tmp 11) false [c_ 124, c_ 125, c_ 63] (bF (vF c1)) ?_
    refine .reg' [0, 1, 13] [] ⟨[(0, (I a0)), (1, (I a1)), (13, (B x2))], [], [], []⟩ [c_ 125, c_ 63] aln nocal ?_
    by_cases c3 : x2 = true
    · rw [if_pos c3] at h
      refine .cond' (.tmp 13) true [c_ 500, c_ 501, c_ 63] (bT c3) ?_
      refine .reg' [4] [] ⟨[(4, (I 1))], [], [], []⟩ [c_ 501, c_ 63] aln nocal ?_
      have h := Option.some.inj h
      subst h
      exact .fin0 [] (I 1) [] aln (.z .s)
    · rw [if_neg c3] at h
      refine .cond' (.tmp 13) false [c_ 252, c_ 253, c_ 127] (bF (vF c3)) ?_
      refine .reg' [0, 1, 16] [] ⟨[(0, (I a0)), (1, (I a1)), (16, (B (decide (a0 < a1))))], [], [], []⟩ [c_ 253, c_ 127] aln nocal ?_
      by_cases c4 : a0 < a1
      · rw [if_pos c4] at h
        refine .cond' (.tmp 16) true [c_ 1012, c_ 1013, c_ 127] (bT (dT c4)) ?_
        refine .reg' [4] [] ⟨[(4, (I (-1)))], [], [], []⟩ [c_ 1013, c_ 127] aln nocal ?_
        have h := Option.some.inj h
        subst h
        exact .fin0 [] (I (-1)) [] aln (.z .s)
      · rw [if_neg c4] at h
        refine .cond' (.tmp 16) false [c_ 508, c_ 509, c_ 255] (bF (dF c4)) ?_
        refine .reg' [19] [] ⟨[(19, (B (decide (a0 > a1))))], [], [], []⟩ [c_ 509, c_ 255] aln nocal ?_
        by_cases c5 : a0 > a1
        · rw [if_pos c5] at h
          refine .cond' (.tmp 19) true [c_ 2036, c_ 2037, c_ 255] (bT (dT c5)) ?_
          refine .reg' [4] [] ⟨[(4, (I 1))], [], [], []⟩ [c_ 2037, c_ 255] aln nocal ?_
          have h := Option.some.inj h
          subst h
          exact .fin0 [] (I 1) [] aln (.z .s)
        · rw [if_neg c5] at h
          refine .cond' (.tmp 19) false [c_ 510, c_ 511] (bF (dF c5)) ?_
          refine .reg' [4] [] ⟨[(4, (I 0))], [], [], []⟩ [c_ 511] aln nocal ?_
          have h := Option.some.inj h
          subst h
          exact .fin0 [] (I 0) [] aln (.z .s)
/-! impl_inTurn_1: function 59 -/
def impl_inTurn_1.f (a0 : Int) (a1 : Int) (a2c0 : (List S49)) : Option (Int × (List S49)) := (if 0 ≤ a0 then (if a0 < (a2c0.length : Int) then (if 0 ≤ a1 then (if a1 < (a2c0.length : Int) then ((cmp_Compare.f ((at_ a2c0 a0).f0) ((at_ a2c0 a1).f0)).bind fun x1 => (some (x1, a2c0))) else none) else none) else none) else none)
theorem impl_inTurn_1.J (a0 : Int) (a1 : Int) (a2c0 : (List S49)) (r : (Int × (List S49))) (h : impl_inTurn_1.f a0 a1 a2c0 = some r) : J prog (.call 59 [(I a0), (I a1), (.pt 40 0 1)] [(40, [(.sl true a2c0.length 3 (a2c0.flatMap e49))])] (I r.1) [(40, [(.sl true r.2.length 3 (r.2.flatMap e49))])]) := by
  unfold impl_inTurn_1.f at h
  refine .call' [c_ 2, c_ 3] ?_
  refine .reg' [0, 1, 2] [] ⟨[(0, (I a0)), (1, (I a1)), (2, (.pt 40 0 1))], [(40, [(.sl true a2c0.length 3 (a2c0.flatMap e49))])], [], []⟩ [c_ 6, c_ 7] aln nocal ?_
  by_cases c1 : 0 ≤ a0
  · rw [if_pos c1] at h
    by_cases c2 : a0 < (a2c0.length : Int)
    · rw [if_pos c2] at h
      by_cases c3 : 0 ≤ a1
      · rw [if_pos c3] at h
        by_cases c4 : a1 < (a2c0.length : Int)
        · rw [if_pos c4] at h
          obtain ⟨x1, hx1, h⟩ := Option.bind_eq_some_iff.mp h
          refine .reg' [5] [.no, .no, .no, .no, .v (I (at_ a2c0 a0).f0), .no, .no, .no, .no, .v (I (at_ a2c0 a1).f0), .c ⟨60, [(I (at_ a2c0 a0).f0), (I (at_ a2c0 a1).f0)], [], (I x1), [], [], [], [], (I x1), []⟩] ⟨[(5, (I x1))], [(40, [(.sl true a2c0.length 3 (a2c0.flatMap e49))])], [1 = 1 ∧ 0 + 1 ≤ 1, (0 : Int) ≤ a0 ∧ a0 < (a2c0.length : Int), rdC prog 3 (((a2c0.flatMap e49).drop (a0.toNat * 3)).drop 0) = (I (at_ a2c0 a0).f0), 1 ≤ (((a2c0.flatMap e49).drop (a0.toNat * 3)).drop 0).length, 1 = 1 ∧ 0 + 1 ≤ 1, (0 : Int) ≤ a1 ∧ a1 < (a2c0.length : Int), rdC prog 3 (((a2c0.flatMap e49).drop (a1.toNat * 3)).drop 0) = (I (at_ a2c0 a1).f0), 1 ≤ (((a2c0.flatMap e49).drop (a1.toNat * 3)).drop 0).length, COK (hget [(40, [(.sl true a2c0.length 3 (a2c0.flatMap e49))])]) [(I (at_ a2c0 a0).f0), (I (at_ a2c0 a1).f0)] ⟨60, [(I (at_ a2c0 a0).f0), (I (at_ a2c0 a1).f0)], [], (I x1), [], [], [], [], (I x1), []⟩], [⟨60, [(I (at_ a2c0 a0).f0), (I (at_ a2c0 a1).f0)], [], (I x1), [], [], [], [], (I x1), []⟩]⟩ [c_ 7] (alc ⟨rfl, by decide⟩ (alc ⟨c1, c2⟩ (alc (ldC e49_ok 0 (by decide) rfl c1 c2) (alc (okIj e49_ok c1 c2 (by decide)) (alc ⟨rfl, by decide⟩ (alc ⟨c3, c4⟩ (alc (ldC e49_ok 0 (by decide) rfl c3 c4) (alc (okIj e49_ok c3 c4 (by decide)) (alc (cok0 false (a2c (.z .s) (a2c (.z .s) a2n)) (.z .s) (fun h => absurd h (by decide))) aln))))))))) (acal (cmp_Compare.J ((at_ a2c0 a0).f0) ((at_ a2c0 a1).f0) _ hx1) nocal) ?_
          have h := Option.some.inj h
          subst h
          exact .fin' [] [(40, 40)] (I x1) [] aln (shc 40 (a2c (.z (frz_sl e49_ok (fun h => h))) a2n) shn) (.z .s)
        · rw [if_neg c4] at h
          cases h
      · rw [if_neg c3] at h
        cases h
    · rw [if_neg c2] at h
      cases h
  · rw [if_neg c1] at h
    cases h
/-! slices_insertionSortCmpFunc_1: function 65 -/
mutual
def slices_insertionSortCmpFunc_1.l0 : Nat → Int → Int → (List Int) → (List S49) → Int → Option ((List Int) × (List S49))
 | 0, _, _, _, _, _ => none
 | k + 1, a1, a2, x1, x2, x3 => (if x3 < a2 then (slices_insertionSortCmpFunc_1.l1 k a1 a2 x3 x1 x2 x3) else (some (x1, x2)))
def slices_insertionSortCmpFunc_1.l1 : Nat → Int → Int → Int → (List Int) → (List S49) → Int → Option ((List Int) × (List S49))
 | 0, _, _, _, _, _, _ => none
 | k + 1, a1, a2, x3, x4, x5, x6 => (if x6 > a1 then (if 0 ≤ x6 then (if x6 < (x4.length : Int) then (if 0 ≤ (wrap64 (x6 - 1)) then (if (wrap64 (x6 - 1)) < (x4.length : Int) then ((impl_inTurn_1.f (at_ x4 x6) (at_ x4 (wrap64 (x6 - 1))) x5).bind fun x7 => (if x7.1 < 0 then (slices_insertionSortCmpFunc_1.l1 k a1 a2 x3 ((x4.set x6.toNat (at_ x4 (wrap64 (x6 - 1)))).set (wrap64 (x6 - 1)).toNat (at_ x4 x6)) x7.2 (wrap64 (x6 - 1))) else (slices_insertionSortCmpFunc_1.l0 k a1 a2 x4 x7.2 (wrap64 (x3 + 1))))) else none) else none) else none) else none) else (slices_insertionSortCmpFunc_1.l0 k a1 a2 x4 x5 (wrap64 (x3 + 1))))
end
def slices_insertionSortCmpFunc_1.f (k : Nat) (a0 : (List Int)) (a1 : Int) (a2 : Int) (a3c0 : (List S49)) : Option ((List Int) × (List S49)) := (slices_insertionSortCmpFunc_1.l0 k a1 a2 a0 a3c0 (wrap64 (a1 + 1)))
theorem slices_insertionSortCmpFunc_1.lab : ∀ k, (∀ (a1 : Int) (a2 : Int) (x1 : (List Int)) (x2 : (List S49)) (x3 : Int) (r : ((List Int) × (List S49))), slices_insertionSortCmpFunc_1.l0 k a1 a2 x1 x2 x3 = some r → J prog (.run 65 [0, 56] [l_ 6, b_ 0] [(0, (.rf 0 0 x1.length 1 (x1.length * 1))), (1, (I a1)), (2, (I a2)), (3, (.fn (.func 59) [] [(.pt 56 0 1)])), (8, (I x3))] [(0, (x1.flatMap encI)), (56, [(.sl true x2.length 3 (x2.flatMap e49))])] (.tp []) [(0, (r.1.flatMap encI)), (56, [(.sl true r.2.length 3 (r.2.flatMap e49))])])) ∧ (∀ (a1 : Int) (a2 : Int) (x3 : Int) (x4 : (List Int)) (x5 : (List S49)) (x6 : Int) (r : ((List Int) × (List S49))), slices_insertionSortCmpFunc_1.l1 k a1 a2 x3 x4 x5 x6 = some r → J prog (.run 65 [0, 56] [l_ 402, b_ 2, b_ 1, c_ 51, l_ 6, b_ 0] [(0, (.rf 0 0 x4.length 1 (x4.length * 1))), (1, (I a1)), (2, (I a2)), (3, (.fn (.func 59) [] [(.pt 56 0 1)])), (8, (I x3)), (9, (I x6))] [(0, (x4.flatMap encI)), (56, [(.sl true x5.length 3 (x5.flatMap e49))])] (.tp []) [(0, (r.1.flatMap encI)), (56, [(.sl true r.2.length 3 (r.2.flatMap e49))])]))
 | 0 => ⟨(by intro a1 a2 x1 x2 x3 r h; unfold slices_insertionSortCmpFunc_1.l0 at h; cases h), (by intro a1 a2 x3 x4 x5 x6 r h; unfold slices_insertionSortCmpFunc_1.l1 at h; cases h)⟩
 | k + 1 => by
  obtain ⟨ih0, ih1⟩ := slices_insertionSortCmpFunc_1.lab k
  refine ⟨?_, ?_⟩
  · intro a1 a2 x1 x2 x3 r h
    unfold slices_insertionSortCmpFunc_1.l0 at h
    refine .loop' [c_ 48, c_ 49, c_ 25, l_ 6, b_ 0] ?_
    refine .reg' [0, 1, 2, 3, 8, 14] [] ⟨[(0, (.rf 0 0 x1.length 1 (x1.length * 1))), (1, (I a1)), (2, (I a2)), (3, (.fn (.func 59) [] [(.pt 56 0 1)])), (8, (I x3)), (14, (B (decide (x3 < a2))))], [(0, (x1.flatMap encI)), (56, [(.sl true x2.length 3 (x2.flatMap e49))])], [], []⟩ [c_ 49, c_ 25, l_ 6, b_ 0] aln nocal ?_
    by_cases c1 : x3 < a2
    · rw [if_pos c1] at h
      refine .cond' (.tmp 14) true [c_ 200, c_ 201, b_ 1, c_ 51, l_ 6, b_ 0] (bT (dT c1)) ?_
      refine .reg' [0, 1, 2, 3, 8, 9] [] ⟨[(0, (.rf 0 0 x1.length 1 (x1.length * 1))), (1, (I a1)), (2, (I a2)), (3, (.fn (.func 59) [] [(.pt 56 0 1)])), (8, (I x3)), (9, (I x3))], [(0, (x1.flatMap encI)), (56, [(.sl true x2.length 3 (x2.flatMap e49))])], [], []⟩ [l_ 402, b_ 2, b_ 1, c_ 51, l_ 6, b_ 0] aln nocal ?_
      exact ih1 a1 a2 x3 x1 x2 x3 _ h
    · rw [if_neg c1] at h
      refine .cond' (.tmp 14) false [] (bF (dF c1)) ?_
      have h := Option.some.inj h
      subst h
      exact .fin' [] [(0, 0), (56, 56)] (.tp []) [] aln (shc 0 (rowF encI_ok _) (shc 56 (a2c (.z (frz_sl e49_ok (fun h => h))) a2n) shn)) (cnv_tp a2n)
  · intro a1 a2 x3 x4 x5 x6 r h
    unfold slices_insertionSortCmpFunc_1.l1 at h
    refine .loop' [c_ 3216, c_ 3217, c_ 1609, l_ 402, b_ 2, b_ 1, c_ 51, l_ 6, b_ 0] ?_
    by_cases c2 : x6 > a1
    · rw [if_pos c2] at h
      by_cases c3 : 0 ≤ x6
      · rw [if_pos c3] at h
        by_cases c4 : x6 < (x4.length : Int)
        · rw [if_pos c4] at h
          by_cases c5 : 0 ≤ (wrap64 (x6 - 1))
          · rw [if_pos c5] at h
            by_cases c6 : (wrap64 (x6 - 1)) < (x4.length : Int)
            · rw [if_pos c6] at h
              obtain ⟨x7, hx7, h⟩ := Option.bind_eq_some_iff.mp h
              refine .reg' [0, 1, 2, 3, 8, 9, 34] [.no, .no, .no, .v (B true), .no, .no, .no, .no, .v (I (at_ x4 x6)), .no, .no, .no, .no, .v (I (at_ x4 (wrap64 (x6 - 1)))), .c ⟨59, [(I (at_ x4 x6)), (I (at_ x4 (wrap64 (x6 - 1)))), (.pt 40 0 1)], [(40, [(.sl true x5.length 3 (x5.flatMap e49))])], (I x7.1), [(40, [(.sl true x7.2.length 3 (x7.2.flatMap e49))])], [], [(56, 40)], [(56, 40)], (I x7.1), [(56, [(.sl true x7.2.length 3 (x7.2.flatMap e49))])]⟩] ⟨[(0, (.rf 0 0 x4.length 1 (x4.length * 1))), (1, (I a1)), (2, (I a2)), (3, (.fn (.func 59) [] [(.pt 56 0 1)])), (8, (I x3)), (9, (I x6)), (34, (B (decide (x7.1 < 0))))], [(0, (x4.flatMap encI)), (56, [(.sl true x7.2.length 3 (x7.2.flatMap e49))])], [(B (decide (x6 > a1)) : V) = B true, (0 : Int) ≤ x6 ∧ x6 < (x4.length : Int), rdC prog 3 ((x4.flatMap encI).drop (0 + x6.toNat * 1)) = (I (at_ x4 x6)), x4.length * 1 = (x4.flatMap encI).length ∧ 0 + x6.toNat * 1 + 1 ≤ (x4.flatMap encI).length, (0 : Int) ≤ (wrap64 (x6 - 1)) ∧ (wrap64 (x6 - 1)) < (x4.length : Int), rdC prog 3 ((x4.flatMap encI).drop (0 + (wrap64 (x6 - 1)).toNat * 1)) = (I (at_ x4 (wrap64 (x6 - 1)))), x4.length * 1 = (x4.flatMap encI).length ∧ 0 + (wrap64 (x6 - 1)).toNat * 1 + 1 ≤ (x4.flatMap encI).length, COK (hget [(0, (x4.flatMap encI)), (56, [(.sl true x5.length 3 (x5.flatMap e49))])]) [(I (at_ x4 x6)), (I (at_ x4 (wrap64 (x6 - 1)))), (.pt 56 0 1)] ⟨59, [(I (at_ x4 x6)), (I (at_ x4 (wrap64 (x6 - 1)))), (.pt 40 0 1)], [(40, [(.sl true x5.length 3 (x5.flatMap e49))])], (I x7.1), [(40, [(.sl true x7.2.length 3 (x7.2.flatMap e49))])], [], [(56, 40)], [(56, 40)], (I x7.1), [(56, [(.sl true x7.2.length 3 (x7.2.flatMap e49))])]⟩], [⟨59, [(I (at_ x4 x6)), (I (at_ x4 (wrap64 (x6 - 1)))), (.pt 40 0 1)], [(40, [(.sl true x5.length 3 (x5.flatMap e49))])], (I x7.1), [(40, [(.sl true x7.2.length 3 (x7.2.flatMap e49))])], [], [(56, 40)], [(56, 40)], (I x7.1), [(56, [(.sl true x7.2.length 3 (x7.2.flatMap e49))])]⟩]⟩ [c_ 3217, c_ 1609, l_ 402, b_ 2, b_ 1, c_ 51, l_ 6, b_ 0] (alc (bT (dT c2)) (alc ⟨c3, c4⟩ (alc (ldC01 encI_ok rfl c3 c4) (alc (okA0 encI_ok c3 c4 (by decide)) (alc ⟨c5, c6⟩ (alc (ldC01 encI_ok rfl c5 c6) (alc (okA0 encI_ok c5 c6 (by decide)) (alc (cokW true (a2c (.z .s) (a2c (.z .s) (a2c (.pt (memP_mem (p := (56, 40)) rfl)) a2n))) (akc ⟨_, _, rfl, rfl, (a2c (.z (frz_sl e49_ok (fun h => h))) a2n)⟩ akn) (akc (.inl rfl) akn) (.z .s) (akc ⟨_, _, rfl, rfl, (a2c (.z (clnS e49_c (fun h => rfl))) a2n)⟩ akn) (fun h => rfl)) aln)))))))) (acal (impl_inTurn_1.J (at_ x4 x6) (at_ x4 (wrap64 (x6 - 1))) x5 _ hx7) nocal) ?_
              by_cases c7 : x7.1 < 0
              · rw [if_pos c7] at h
                refine .cond' (.tmp 34) true [c_ 6436, b_ 3, c_ 3219, l_ 402, b_ 2, b_ 1, c_ 51, l_ 6, b_ 0] (bT (dT c7)) ?_
                refine .reg' [0, 1, 2, 3, 8, 9] [.no, .no, .no, .no, .no, .no, .no, .no, .no, .v (I (at_ x4 (wrap64 (x6 - 1)))), .no, .no, .no, .v (I (at_ x4 x6)), .no, .w .un ((x4.set x6.toNat (at_ x4 (wrap64 (x6 - 1)))).flatMap encI), .no, .w .un (((x4.set x6.toNat (at_ x4 (wrap64 (x6 - 1)))).set (wrap64 (x6 - 1)).toNat (at_ x4 x6)).flatMap encI)] ⟨[(0, (.rf 0 0 x4.length 1 (x4.length * 1))), (1, (I a1)), (2, (I a2)), (3, (.fn (.func 59) [] [(.pt 56 0 1)])), (8, (I x3)), (9, (I x6))], [(0, (((x4.set x6.toNat (at_ x4 (wrap64 (x6 - 1)))).set (wrap64 (x6 - 1)).toNat (at_ x4 x6)).flatMap encI)), (56, [(.sl true x7.2.length 3 (x7.2.flatMap e49))])], [(0 : Int) ≤ (wrap64 (x6 - 1)) ∧ (wrap64 (x6 - 1)) < (x4.length : Int), rdC prog 3 ((x4.flatMap encI).drop (0 + (wrap64 (x6 - 1)).toNat * 1)) = (I (at_ x4 (wrap64 (x6 - 1)))), x4.length * 1 = (x4.flatMap encI).length ∧ 0 + (wrap64 (x6 - 1)).toNat * 1 + 1 ≤ (x4.flatMap encI).length, (0 : Int) ≤ x6 ∧ x6 < (x4.length : Int), rdC prog 3 ((x4.flatMap encI).drop (0 + x6.toNat * 1)) = (I (at_ x4 x6)), x4.length * 1 = (x4.flatMap encI).length ∧ 0 + x6.toNat * 1 + 1 ≤ (x4.flatMap encI).length, (0 : Int) ≤ x6 ∧ x6 < (x4.length : Int), V.un = V.un, spl (x4.flatMap encI) (0 + x6.toNat * 1) [(I (at_ x4 (wrap64 (x6 - 1))))] = ((x4.set x6.toNat (at_ x4 (wrap64 (x6 - 1)))).flatMap encI), x4.length * 1 = (x4.flatMap encI).length ∧ 0 + x6.toNat * 1 + 1 ≤ (x4.flatMap encI).length, (0 : Int) ≤ (wrap64 (x6 - 1)) ∧ (wrap64 (x6 - 1)) < (x4.length : Int), V.un = V.un, spl ((x4.set x6.toNat (at_ x4 (wrap64 (x6 - 1)))).flatMap encI) (0 + (wrap64 (x6 - 1)).toNat * 1) [(I (at_ x4 x6))] = (((x4.set x6.toNat (at_ x4 (wrap64 (x6 - 1)))).set (wrap64 (x6 - 1)).toNat (at_ x4 x6)).flatMap encI), x4.length * 1 = ((x4.set x6.toNat (at_ x4 (wrap64 (x6 - 1)))).flatMap encI).length ∧ 0 + (wrap64 (x6 - 1)).toNat * 1 + 1 ≤ ((x4.set x6.toNat (at_ x4 (wrap64 (x6 - 1)))).flatMap encI).length], []⟩ [c_ 3219, l_ 402, b_ 2, b_ 1, c_ 51, l_ 6, b_ 0] (alc ⟨c5, c6⟩ (alc (ldC01 encI_ok rfl c5 c6) (alc (okA0 encI_ok c5 c6 (by decide)) (alc ⟨c3, c4⟩ (alc (ldC01 encI_ok rfl c3 c4) (alc (okA0 encI_ok c3 c4 (by decide)) (alc ⟨c3, c4⟩ (alc rfl (alc (st_row1 encI_ok c3 c4 (I (at_ x4 (wrap64 (x6 - 1)))) rfl) (alc (okA0 encI_ok c3 c4 (by decide)) (alc ⟨c5, c6⟩ (alc rfl (alc (st_row1 encI_ok c5 (ls c6) (I (at_ x4 x6)) rfl) (alc (okL (by simp only [List.length_set]) (okA0 encI_ok c5 (ls c6) (by decide))) aln)))))))))))))) nocal ?_
                refine .eqs (env2 := [(0, (.rf 0 0 (((x4.set x6.toNat (at_ x4 (wrap64 (x6 - 1)))).set (wrap64 (x6 - 1)).toNat (at_ x4 x6)).length) 1 (((x4.set x6.toNat (at_ x4 (wrap64 (x6 - 1)))).set (wrap64 (x6 - 1)).toNat (at_ x4 x6)).length * 1))), (1, (I a1)), (2, (I a2)), (3, (.fn (.func 59) [] [(.pt 56 0 1)])), (8, (I x3)), (9, (I x6))]) (H2 := [(0, (((x4.set x6.toNat (at_ x4 (wrap64 (x6 - 1)))).set (wrap64 (x6 - 1)).toNat (at_ x4 x6)).flatMap encI)), (56, [(.sl true x7.2.length 3 (x7.2.flatMap e49))])]) (by first | (simp only [List.length_set]; done) | simp) (by first | rfl | (simp only [List.length_set]; done) | simp) ?_
                refine .reg' [0, 1, 2, 3, 8, 9] [] ⟨[(0, (.rf 0 0 (((x4.set x6.toNat (at_ x4 (wrap64 (x6 - 1)))).set (wrap64 (x6 - 1)).toNat (at_ x4 x6)).length) 1 (((x4.set x6.toNat (at_ x4 (wrap64 (x6 - 1)))).set (wrap64 (x6 - 1)).toNat (at_ x4 x6)).length * 1))), (1, (I a1)), (2, (I a2)), (3, (.fn (.func 59) [] [(.pt 56 0 1)])), (8, (I x3)), (9, (I (wrap64 (x6 - 1))))], [(0, (((x4.set x6.toNat (at_ x4 (wrap64 (x6 - 1)))).set (wrap64 (x6 - 1)).toNat (at_ x4 x6)).flatMap encI)), (56, [(.sl true x7.2.length 3 (x7.2.flatMap e49))])], [], []⟩ [l_ 402, b_ 2, b_ 1, c_ 51, l_ 6, b_ 0] aln nocal ?_
                exact ih1 a1 a2 x3 ((x4.set x6.toNat (at_ x4 (wrap64 (x6 - 1)))).set (wrap64 (x6 - 1)).toNat (at_ x4 x6)) x7.2 (wrap64 (x6 - 1)) _ h
              · rw [if_neg c7] at h
                refine .cond' (.tmp 34) false [c_ 51, l_ 6, b_ 0] (bF (dF c7)) ?_
                refine .reg' [0, 1, 2, 3, 8] [] ⟨[(0, (.rf 0 0 x4.length 1 (x4.length * 1))), (1, (I a1)), (2, (I a2)), (3, (.fn (.func 59) [] [(.pt 56 0 1)])), (8, (I (wrap64 (x3 + 1))))], [(0, (x4.flatMap encI)), (56, [(.sl true x7.2.length 3 (x7.2.flatMap e49))])], [], []⟩ [l_ 6, b_ 0] aln nocal ?_
                exact ih0 a1 a2 x4 x7.2 (wrap64 (x3 + 1)) _ h
            · rw [if_neg c6] at h
              cases h
          · rw [if_neg c5] at h
            cases h
        · rw [if_neg c4] at h
          cases h
      · rw [if_neg c3] at h
        cases h
    · rw [if_neg c2] at h
      refine .reg' [0, 1, 2, 3, 8, 9, 34] [.no, .no, .no, .v (B false)] ⟨[(0, (.rf 0 0 x4.length 1 (x4.length * 1))), (1, (I a1)), (2, (I a2)), (3, (.fn (.func 59) [] [(.pt 56 0 1)])), (8, (I x3)), (9, (I x6)), (34, (B false))], [(0, (x4.flatMap encI)), (56, [(.sl true x5.length 3 (x5.flatMap e49))])], [(B (decide (x6 > a1)) : V) = B false], []⟩ [c_ 3217, c_ 1609, l_ 402, b_ 2, b_ 1, c_ 51, l_ 6, b_ 0] (alc (bF (dF c2)) aln) nocal ?_
      refine .cond' (.tmp 34) false [c_ 51, l_ 6, b_ 0] (rfl) ?_
      refine .reg' [0, 1, 2, 3, 8] [] ⟨[(0, (.rf 0 0 x4.length 1 (x4.length * 1))), (1, (I a1)), (2, (I a2)), (3, (.fn (.func 59) [] [(.pt 56 0 1)])), (8, (I (wrap64 (x3 + 1))))], [(0, (x4.flatMap encI)), (56, [(.sl true x5.length 3 (x5.flatMap e49))])], [], []⟩ [l_ 6, b_ 0] aln nocal ?_
      exact ih0 a1 a2 x4 x5 (wrap64 (x3 + 1)) _ h
theorem slices_insertionSortCmpFunc_1.J (k : Nat) (a0 : (List Int)) (a1 : Int) (a2 : Int) (a3c0 : (List S49)) (r : ((List Int) × (List S49))) (h : slices_insertionSortCmpFunc_1.f k a0 a1 a2 a3c0 = some r) : J prog (.call 65 [(.rf 0 0 a0.length 1 (a0.length * 1)), (I a1), (I a2), (.fn (.func 59) [] [(.pt 56 0 1)])] [(0, (a0.flatMap encI)), (56, [(.sl true a3c0.length 3 (a3c0.flatMap e49))])] (.tp []) [(0, (r.1.flatMap encI)), (56, [(.sl true r.2.length 3 (r.2.flatMap e49))])]) := by
  unfold slices_insertionSortCmpFunc_1.f at h
  obtain ⟨ih0, ih1⟩ := slices_insertionSortCmpFunc_1.lab k
  refine .call' [c_ 2, c_ 3] ?_
  refine .reg' [0, 1, 2, 3, 8] [] ⟨[(0, (.rf 0 0 a0.length 1 (a0.length * 1))), (1, (I a1)), (2, (I a2)), (3, (.fn (.func 59) [] [(.pt 56 0 1)])), (8, (I (wrap64 (a1 + 1))))], [(0, (a0.flatMap encI)), (56, [(.sl true a3c0.length 3 (a3c0.flatMap e49))])], [], []⟩ [l_ 6, b_ 0] aln nocal ?_
  exact ih0 a1 a2 a0 a3c0 (wrap64 (a1 + 1)) _ h
theorem slices_insertionSortCmpFunc_1.lenl : ∀ k, (∀ (a1 : Int) (a2 : Int) (x1 : (List Int)) (x2 : (List S49)) (x3 : Int) (r : ((List Int) × (List S49))), slices_insertionSortCmpFunc_1.l0 k a1 a2 x1 x2 x3 = some r → r.1.length = x1.length) ∧ (∀ (a1 : Int) (a2 : Int) (x3 : Int) (x4 : (List Int)) (x5 : (List S49)) (x6 : Int) (r : ((List Int) × (List S49))), slices_insertionSortCmpFunc_1.l1 k a1 a2 x3 x4 x5 x6 = some r → r.1.length = x4.length)
 | 0 => ⟨(by intro a1 a2 x1 x2 x3 r h; unfold slices_insertionSortCmpFunc_1.l0 at h; cases h), (by intro a1 a2 x3 x4 x5 x6 r h; unfold slices_insertionSortCmpFunc_1.l1 at h; cases h)⟩
 | k + 1 => by
  obtain ⟨ih0, ih1⟩ := slices_insertionSortCmpFunc_1.lenl k
  refine ⟨?_, ?_⟩
  · intro a1 a2 x1 x2 x3 r h
    unfold slices_insertionSortCmpFunc_1.l0 at h
    by_cases c1 : x3 < a2
    · rw [if_pos c1] at h
      have q := ih1 a1 a2 x3 x1 x2 x3 _ h
      first | exact q | (simp only [List.length_set] at q; exact q)
    · rw [if_neg c1] at h
      have h := Option.some.inj h
      subst h
      first | rfl | (simp only [List.length_set]; done) | exact ⟨by first | rfl | simp only [List.length_set]⟩
  · intro a1 a2 x3 x4 x5 x6 r h
    unfold slices_insertionSortCmpFunc_1.l1 at h
    by_cases c2 : x6 > a1
    · rw [if_pos c2] at h
      by_cases c3 : 0 ≤ x6
      · rw [if_pos c3] at h
        by_cases c4 : x6 < (x4.length : Int)
        · rw [if_pos c4] at h
          by_cases c5 : 0 ≤ (wrap64 (x6 - 1))
          · rw [if_pos c5] at h
            by_cases c6 : (wrap64 (x6 - 1)) < (x4.length : Int)
            · rw [if_pos c6] at h
              obtain ⟨x7, hx7, h⟩ := Option.bind_eq_some_iff.mp h
              by_cases c7 : x7.1 < 0
              · rw [if_pos c7] at h
                have q := ih1 a1 a2 x3 ((x4.set x6.toNat (at_ x4 (wrap64 (x6 - 1)))).set (wrap64 (x6 - 1)).toNat (at_ x4 x6)) x7.2 (wrap64 (x6 - 1)) _ h
                first | exact q | (simp only [List.length_set] at q; exact q)
              · rw [if_neg c7] at h
                have q := ih0 a1 a2 x4 x7.2 (wrap64 (x3 + 1)) _ h
                first | exact q | (simp only [List.length_set] at q; exact q)
            · rw [if_neg c6] at h
              cases h
          · rw [if_neg c5] at h
            cases h
        · rw [if_neg c4] at h
          cases h
      · rw [if_neg c3] at h
        cases h
    · rw [if_neg c2] at h
      have q := ih0 a1 a2 x4 x5 (wrap64 (x3 + 1)) _ h
      first | exact q | (simp only [List.length_set] at q; exact q)
theorem slices_insertionSortCmpFunc_1.len (k : Nat) (a0 : (List Int)) (a1 : Int) (a2 : Int) (a3c0 : (List S49)) (r : ((List Int) × (List S49))) (h : slices_insertionSortCmpFunc_1.f k a0 a1 a2 a3c0 = some r) : r.1.length = a0.length := by
  unfold slices_insertionSortCmpFunc_1.f at h
  obtain ⟨ih0, ih1⟩ := slices_insertionSortCmpFunc_1.lenl k
  have q := ih0 a1 a2 a0 a3c0 (wrap64 (a1 + 1)) _ h
  first | exact q | (simp only [List.length_set] at q; exact q)
/-! slices_swapRangeCmpFunc_1: function 68 -/
def slices_swapRangeCmpFunc_1.l0 : Nat → Int → Int → Int → (List S49) → (List Int) → Int → Option ((List Int) × (List S49))
 | 0, _, _, _, _, _, _ => none
 | k + 1, a1, a2, a3, a4c0, x1, x2 => (if x2 < a3 then (if 0 ≤ (wrap64 (a2 + x2)) then (if (wrap64 (a2 + x2)) < (x1.length : Int) then (if 0 ≤ (wrap64 (a1 + x2)) then (if (wrap64 (a1 + x2)) < (x1.length : Int) then (slices_swapRangeCmpFunc_1.l0 k a1 a2 a3 a4c0 ((x1.set (wrap64 (a1 + x2)).toNat (at_ x1 (wrap64 (a2 + x2)))).set (wrap64 (a2 + x2)).toNat (at_ x1 (wrap64 (a1 + x2)))) (wrap64 (x2 + 1))) else none) else none) else none) else none) else (some (x1, a4c0)))
def slices_swapRangeCmpFunc_1.f (k : Nat) (a0 : (List Int)) (a1 : Int) (a2 : Int) (a3 : Int) (a4c0 : (List S49)) : Option ((List Int) × (List S49)) := (slices_swapRangeCmpFunc_1.l0 k a1 a2 a3 a4c0 a0 0)
theorem slices_swapRangeCmpFunc_1.lab : ∀ k, (∀ (a1 : Int) (a2 : Int) (a3 : Int) (a4c0 : (List S49)) (x1 : (List Int)) (x2 : Int) (r : ((List Int) × (List S49))), slices_swapRangeCmpFunc_1.l0 k a1 a2 a3 a4c0 x1 x2 = some r → J prog (.run 68 [0, 72] [l_ 6, b_ 0] [(0, (.rf 0 0 x1.length 1 (x1.length * 1))), (1, (I a1)), (2, (I a2)), (3, (I a3)), (10, (I x2))] [(0, (x1.flatMap encI)), (72, [(.sl true a4c0.length 3 (a4c0.flatMap e49))])] (.tp []) [(0, (r.1.flatMap encI)), (72, [(.sl true r.2.length 3 (r.2.flatMap e49))])]))
 | 0 => (by intro a1 a2 a3 a4c0 x1 x2 r h; unfold slices_swapRangeCmpFunc_1.l0 at h; cases h)
 | k + 1 => by
  have ih0 := slices_swapRangeCmpFunc_1.lab k
  · intro a1 a2 a3 a4c0 x1 x2 r h
    unfold slices_swapRangeCmpFunc_1.l0 at h
    refine .loop' [c_ 48, c_ 49, c_ 25, l_ 6, b_ 0] ?_
    refine .reg' [0, 1, 2, 3, 10, 13] [] ⟨[(0, (.rf 0 0 x1.length 1 (x1.length * 1))), (1, (I a1)), (2, (I a2)), (3, (I a3)), (10, (I x2)), (13, (B (decide (x2 < a3))))], [(0, (x1.flatMap encI)), (72, [(.sl true a4c0.length 3 (a4c0.flatMap e49))])], [], []⟩ [c_ 49, c_ 25, l_ 6, b_ 0] aln nocal ?_
    by_cases c1 : x2 < a3
    · rw [if_pos c1] at h
      refine .cond' (.tmp 13) true [c_ 100, b_ 1, c_ 51, l_ 6, b_ 0] (bT (dT c1)) ?_
      by_cases c2 : 0 ≤ (wrap64 (a2 + x2))
      · rw [if_pos c2] at h
        by_cases c3 : (wrap64 (a2 + x2)) < (x1.length : Int)
        · rw [if_pos c3] at h
          by_cases c4 : 0 ≤ (wrap64 (a1 + x2))
          · rw [if_pos c4] at h
            by_cases c5 : (wrap64 (a1 + x2)) < (x1.length : Int)
            · rw [if_pos c5] at h
              refine .reg' [0, 1, 2, 3, 10] [.no, .no, .no, .no, .no, .no, .no, .no, .no, .no, .no, .no, .no, .v (I (at_ x1 (wrap64 (a2 + x2)))), .no, .no, .no, .no, .no, .v (I (at_ x1 (wrap64 (a1 + x2)))), .no, .w .un ((x1.set (wrap64 (a1 + x2)).toNat (at_ x1 (wrap64 (a2 + x2)))).flatMap encI), .no, .w .un (((x1.set (wrap64 (a1 + x2)).toNat (at_ x1 (wrap64 (a2 + x2)))).set (wrap64 (a2 + x2)).toNat (at_ x1 (wrap64 (a1 + x2)))).flatMap encI)] ⟨[(0, (.rf 0 0 x1.length 1 (x1.length * 1))), (1, (I a1)), (2, (I a2)), (3, (I a3)), (10, (I x2))], [(0, (((x1.set (wrap64 (a1 + x2)).toNat (at_ x1 (wrap64 (a2 + x2)))).set (wrap64 (a2 + x2)).toNat (at_ x1 (wrap64 (a1 + x2)))).flatMap encI)), (72, [(.sl true a4c0.length 3 (a4c0.flatMap e49))])], [(0 : Int) ≤ (wrap64 (a2 + x2)) ∧ (wrap64 (a2 + x2)) < (x1.length : Int), rdC prog 3 ((x1.flatMap encI).drop (0 + (wrap64 (a2 + x2)).toNat * 1)) = (I (at_ x1 (wrap64 (a2 + x2)))), x1.length * 1 = (x1.flatMap encI).length ∧ 0 + (wrap64 (a2 + x2)).toNat * 1 + 1 ≤ (x1.flatMap encI).length, (0 : Int) ≤ (wrap64 (a1 + x2)) ∧ (wrap64 (a1 + x2)) < (x1.length : Int), rdC prog 3 ((x1.flatMap encI).drop (0 + (wrap64 (a1 + x2)).toNat * 1)) = (I (at_ x1 (wrap64 (a1 + x2)))), x1.length * 1 = (x1.flatMap encI).length ∧ 0 + (wrap64 (a1 + x2)).toNat * 1 + 1 ≤ (x1.flatMap encI).length, (0 : Int) ≤ (wrap64 (a1 + x2)) ∧ (wrap64 (a1 + x2)) < (x1.length : Int), V.un = V.un, spl (x1.flatMap encI) (0 + (wrap64 (a1 + x2)).toNat * 1) [(I (at_ x1 (wrap64 (a2 + x2))))] = ((x1.set (wrap64 (a1 + x2)).toNat (at_ x1 (wrap64 (a2 + x2)))).flatMap encI), x1.length * 1 = (x1.flatMap encI).length ∧ 0 + (wrap64 (a1 + x2)).toNat * 1 + 1 ≤ (x1.flatMap encI).length, (0 : Int) ≤ (wrap64 (a2 + x2)) ∧ (wrap64 (a2 + x2)) < (x1.length : Int), V.un = V.un, spl ((x1.set (wrap64 (a1 + x2)).toNat (at_ x1 (wrap64 (a2 + x2)))).flatMap encI) (0 + (wrap64 (a2 + x2)).toNat * 1) [(I (at_ x1 (wrap64 (a1 + x2))))] = (((x1.set (wrap64 (a1 + x2)).toNat (at_ x1 (wrap64 (a2 + x2)))).set (wrap64 (a2 + x2)).toNat (at_ x1 (wrap64 (a1 + x2)))).flatMap encI), x1.length * 1 = ((x1.set (wrap64 (a1 + x2)).toNat (at_ x1 (wrap64 (a2 + x2)))).flatMap encI).length ∧ 0 + (wrap64 (a2 + x2)).toNat * 1 + 1 ≤ ((x1.set (wrap64 (a1 + x2)).toNat (at_ x1 (wrap64 (a2 + x2)))).flatMap encI).length], []⟩ [c_ 51, l_ 6, b_ 0] (alc ⟨c2, c3⟩ (alc (ldC01 encI_ok rfl c2 c3) (alc (okA0 encI_ok c2 c3 (by decide)) (alc ⟨c4, c5⟩ (alc (ldC01 encI_ok rfl c4 c5) (alc (okA0 encI_ok c4 c5 (by decide)) (alc ⟨c4, c5⟩ (alc rfl (alc (st_row1 encI_ok c4 c5 (I (at_ x1 (wrap64 (a2 + x2)))) rfl) (alc (okA0 encI_ok c4 c5 (by decide)) (alc ⟨c2, c3⟩ (alc rfl (alc (st_row1 encI_ok c2 (ls c3) (I (at_ x1 (wrap64 (a1 + x2)))) rfl) (alc (okL (by simp only [List.length_set]) (okA0 encI_ok c2 (ls c3) (by decide))) aln)))))))))))))) nocal ?_
              refine .eqs (env2 := [(0, (.rf 0 0 (((x1.set (wrap64 (a1 + x2)).toNat (at_ x1 (wrap64 (a2 + x2)))).set (wrap64 (a2 + x2)).toNat (at_ x1 (wrap64 (a1 + x2)))).length) 1 (((x1.set (wrap64 (a1 + x2)).toNat (at_ x1 (wrap64 (a2 + x2)))).set (wrap64 (a2 + x2)).toNat (at_ x1 (wrap64 (a1 + x2)))).length * 1))), (1, (I a1)), (2, (I a2)), (3, (I a3)), (10, (I x2))]) (H2 := [(0, (((x1.set (wrap64 (a1 + x2)).toNat (at_ x1 (wrap64 (a2 + x2)))).set (wrap64 (a2 + x2)).toNat (at_ x1 (wrap64 (a1 + x2)))).flatMap encI)), (72, [(.sl true a4c0.length 3 (a4c0.flatMap e49))])]) (by first | (simp only [List.length_set]; done) | simp) (by first | rfl | (simp only [List.length_set]; done) | simp) ?_
              refine .reg' [0, 1, 2, 3, 10] [] ⟨[(0, (.rf 0 0 (((x1.set (wrap64 (a1 + x2)).toNat (at_ x1 (wrap64 (a2 + x2)))).set (wrap64 (a2 + x2)).toNat (at_ x1 (wrap64 (a1 + x2)))).length) 1 (((x1.set (wrap64 (a1 + x2)).toNat (at_ x1 (wrap64 (a2 + x2)))).set (wrap64 (a2 + x2)).toNat (at_ x1 (wrap64 (a1 + x2)))).length * 1))), (1, (I a1)), (2, (I a2)), (3, (I a3)), (10, (I (wrap64 (x2 + 1))))], [(0, (((x1.set (wrap64 (a1 + x2)).toNat (at_ x1 (wrap64 (a2 + x2)))).set (wrap64 (a2 + x2)).toNat (at_ x1 (wrap64 (a1 + x2)))).flatMap encI)), (72, [(.sl true a4c0.length 3 (a4c0.flatMap e49))])], [], []⟩ [l_ 6, b_ 0] aln nocal ?_
              exact ih0 a1 a2 a3 a4c0 ((x1.set (wrap64 (a1 + x2)).toNat (at_ x1 (wrap64 (a2 + x2)))).set (wrap64 (a2 + x2)).toNat (at_ x1 (wrap64 (a1 + x2)))) (wrap64 (x2 + 1)) _ h
            · rw [if_neg c5] at h
              cases h
          · rw [if_neg c4] at h
            cases h
        · rw [if_neg c3] at h
          cases h
      · rw [if_neg c2] at h
        cases h
    · rw [if_neg c1] at h
      refine .cond' (.tmp 13) false [] (bF (dF c1)) ?_
      have h := Option.some.inj h
      subst h
      exact .fin' [] [(0, 0), (72, 72)] (.tp []) [] aln (shc 0 (rowF encI_ok _) (shc 72 (a2c (.z (frz_sl e49_ok (fun h => h))) a2n) shn)) (cnv_tp a2n)
theorem slices_swapRangeCmpFunc_1.J (k : Nat) (a0 : (List Int)) (a1 : Int) (a2 : Int) (a3 : Int) (a4c0 : (List S49)) (r : ((List Int) × (List S49))) (h : slices_swapRangeCmpFunc_1.f k a0 a1 a2 a3 a4c0 = some r) : J prog (.call 68 [(.rf 0 0 a0.length 1 (a0.length * 1)), (I a1), (I a2), (I a3), (.fn (.func 59) [] [(.pt 72 0 1)])] [(0, (a0.flatMap encI)), (72, [(.sl true a4c0.length 3 (a4c0.flatMap e49))])] (.tp []) [(0, (r.1.flatMap encI)), (72, [(.sl true r.2.length 3 (r.2.flatMap e49))])]) := by
  unfold slices_swapRangeCmpFunc_1.f at h
  have ih0 := slices_swapRangeCmpFunc_1.lab k
  refine .call' [c_ 2, c_ 3] ?_
  refine .reg' [0, 1, 2, 3, 10] [] ⟨[(0, (.rf 0 0 a0.length 1 (a0.length * 1))), (1, (I a1)), (2, (I a2)), (3, (I a3)), (10, (I 0))], [(0, (a0.flatMap encI)), (72, [(.sl true a4c0.length 3 (a4c0.flatMap e49))])], [], []⟩ [l_ 6, b_ 0] aln nocal ?_
  exact ih0 a1 a2 a3 a4c0 a0 0 _ h
theorem slices_swapRangeCmpFunc_1.lenl : ∀ k, (∀ (a1 : Int) (a2 : Int) (a3 : Int) (a4c0 : (List S49)) (x1 : (List Int)) (x2 : Int) (r : ((List Int) × (List S49))), slices_swapRangeCmpFunc_1.l0 k a1 a2 a3 a4c0 x1 x2 = some r → r.1.length = x1.length)
 | 0 => (by intro a1 a2 a3 a4c0 x1 x2 r h; unfold slices_swapRangeCmpFunc_1.l0 at h; cases h)
 | k + 1 => by
  have ih0 := slices_swapRangeCmpFunc_1.lenl k
  · intro a1 a2 a3 a4c0 x1 x2 r h
    unfold slices_swapRangeCmpFunc_1.l0 at h
    by_cases c1 : x2 < a3
    · rw [if_pos c1] at h
      by_cases c2 : 0 ≤ (wrap64 (a2 + x2))
      · rw [if_pos c2] at h
        by_cases c3 : (wrap64 (a2 + x2)) < (x1.length : Int)
        · rw [if_pos c3] at h
          by_cases c4 : 0 ≤ (wrap64 (a1 + x2))
          · rw [if_pos c4] at h
            by_cases c5 : (wrap64 (a1 + x2)) < (x1.length : Int)
            · rw [if_pos c5] at h
              have q := ih0 a1 a2 a3 a4c0 ((x1.set (wrap64 (a1 + x2)).toNat (at_ x1 (wrap64 (a2 + x2)))).set (wrap64 (a2 + x2)).toNat (at_ x1 (wrap64 (a1 + x2)))) (wrap64 (x2 + 1)) _ h
              first | exact q | (simp only [List.length_set] at q; exact q)
            · rw [if_neg c5] at h
              cases h
          · rw [if_neg c4] at h
            cases h
        · rw [if_neg c3] at h
          cases h
      · rw [if_neg c2] at h
        cases h
    · rw [if_neg c1] at h
      have h := Option.some.inj h
      subst h
      first | rfl | (simp only [List.length_set]; done) | exact ⟨by first | rfl | simp only [List.length_set]⟩
theorem slices_swapRangeCmpFunc_1.len (k : Nat) (a0 : (List Int)) (a1 : Int) (a2 : Int) (a3 : Int) (a4c0 : (List S49)) (r : ((List Int) × (List S49))) (h : slices_swapRangeCmpFunc_1.f k a0 a1 a2 a3 a4c0 = some r) : r.1.length = a0.length := by
  unfold slices_swapRangeCmpFunc_1.f at h
  have ih0 := slices_swapRangeCmpFunc_1.lenl k
  have q := ih0 a1 a2 a3 a4c0 a0 0 _ h
  first | exact q | (simp only [List.length_set] at q; exact q)
/-! slices_rotateCmpFunc_1: function 67 -/
def slices_rotateCmpFunc_1.l0 : Nat → Int → (List Int) → (List S49) → Int → Int → Option ((List Int) × (List S49))
 | 0, _, _, _, _, _ => none
 | k + 1, a2, x1, x2, x3, x4 => (if x3 = x4 then ((slices_swapRangeCmpFunc_1.f k x1 (wrap64 (a2 - x3)) a2 x3 x2).bind fun x5 => (some (x5.1, x5.2))) else (if x3 > x4 then ((slices_swapRangeCmpFunc_1.f k x1 (wrap64 (a2 - x3)) a2 x4 x2).bind fun x6 => (slices_rotateCmpFunc_1.l0 k a2 x6.1 x6.2 (wrap64 (x3 - x4)) x4)) else ((slices_swapRangeCmpFunc_1.f k x1 (wrap64 (a2 - x3)) (wrap64 ((wrap64 (a2 + x4)) - x3)) x3 x2).bind fun x7 => (slices_rotateCmpFunc_1.l0 k a2 x7.1 x7.2 x3 (wrap64 (x4 - x3))))))
def slices_rotateCmpFunc_1.f (k : Nat) (a0 : (List Int)) (a1 : Int) (a2 : Int) (a3 : Int) (a4c0 : (List S49)) : Option ((List Int) × (List S49)) := (slices_rotateCmpFunc_1.l0 k a2 a0 a4c0 (wrap64 (a2 - a1)) (wrap64 (a3 - a2)))
end Go.Proofs.Ytddipeelmandjaa.Fns
