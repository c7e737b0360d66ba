/- The functions that the law FnExactLockingOk reaches, by the engine. Printed by a program of this seat. -/
import Derived.Test.YtjfjifnmfnlfoaaE5
import Derived.Test.YtjfjifnmfnlfoaaProg
import Derived.Test.YtjfjifnmfnlfoaaFFnExactLockingOkx1
namespace Go.Proofs.Ytjfjifnmfnlfoaa.Fns
open Go.Proofs.Try Go.Proofs.Ytjfjifnmfnlfoaa.Eng Go.RowKit
set_option maxRecDepth 100000
set_option linter.unusedVariables false
set_option linter.unusedSimpArgs false
theorem spec_LockingOk.lab : ∀ k, (∀ (a0 : S29) (a1 : S37) (x2 : Int) (r : Bool), spec_LockingOk.l0 k a0 a1 x2 = some r → J prog (.run 24 [] [l_ 58, b_ 0, c_ 15] [(2, (.pt 256 0 3)), (3, (.pt 257 0 3)), (5, (I x2))] [(256, [(.sl true a0.f0.length 1 (a0.f0.flatMap encI)), (I a0.f1), (.sl true a0.f2.length 2 (a0.f2.flatMap (e83 true)))]), (257, [(.sl true a1.f0.length 1 (a1.f0.flatMap encI)), (.sl true a1.f1.length 1 (a1.f1.flatMap encB)), (.sl true a1.f2.length 1 (a1.f2.flatMap encB))])] (B r) [])) ∧ (∀ (a0 : S29) (a1 : S37) (x4 : Int) (r : Bool), spec_LockingOk.l1 k a0 a1 x4 = some r → J prog (.run 24 [] [l_ 122, b_ 2, c_ 31] [(2, (.pt 256 0 3)), (3, (.pt 257 0 3)), (6, (I x4))] [(256, [(.sl true a0.f0.length 1 (a0.f0.flatMap encI)), (I a0.f1), (.sl true a0.f2.length 2 (a0.f2.flatMap (e83 true)))]), (257, [(.sl true a1.f0.length 1 (a1.f0.flatMap encI)), (.sl true a1.f1.length 1 (a1.f1.flatMap encB)), (.sl true a1.f2.length 1 (a1.f2.flatMap encB))])] (B r) [])) ∧ (∀ (a0 : S29) (a1 : S37) (x4 : Int) (x5 : Int) (r : Bool), spec_LockingOk.l2 k a0 a1 x4 x5 = some r → J prog (.run 24 [] [l_ 31306, b_ 4, c_ 7827, b_ 3, c_ 979, l_ 122, b_ 2, c_ 31] [(2, (.pt 256 0 3)), (3, (.pt 257 0 3)), (6, (I x4)), (7, (I x5))] [(256, [(.sl true a0.f0.length 1 (a0.f0.flatMap encI)), (I a0.f1), (.sl true a0.f2.length 2 (a0.f2.flatMap (e83 true)))]), (257, [(.sl true a1.f0.length 1 (a1.f0.flatMap encI)), (.sl true a1.f1.length 1 (a1.f1.flatMap encB)), (.sl true a1.f2.length 1 (a1.f2.flatMap encB))])] (B r) [])) ∧ (∀ (a0 : S29) (a1 : S37) (x4 : Int) (x7 : Int) (r : Bool), spec_LockingOk.l3 k a0 a1 x4 x7 = some r → J prog (.run 24 [] [l_ 31310, b_ 6, b_ 3, c_ 979, l_ 122, b_ 2, c_ 31] [(2, (.pt 256 0 3)), (3, (.pt 257 0 3)), (6, (I x4)), (8, (I x7))] [(256, [(.sl true a0.f0.length 1 (a0.f0.flatMap encI)), (I a0.f1), (.sl true a0.f2.length 2 (a0.f2.flatMap (e83 true)))]), (257, [(.sl true a1.f0.length 1 (a1.f0.flatMap encI)), (.sl true a1.f1.length 1 (a1.f1.flatMap encB)), (.sl true a1.f2.length 1 (a1.f2.flatMap encB))])] (B r) []))
 | 0 => ⟨(by intro a0 a1 x2 r h; unfold spec_LockingOk.l0 at h; cases h), (by intro a0 a1 x4 r h; unfold spec_LockingOk.l1 at h; cases h), (by intro a0 a1 x4 x5 r h; unfold spec_LockingOk.l2 at h; cases h), (by intro a0 a1 x4 x7 r h; unfold spec_LockingOk.l3 at h; cases h)⟩
 | k + 1 => by
  obtain ⟨ih0, ih1, ih2, ih3⟩ := spec_LockingOk.lab k
  refine ⟨?_, ?_, ?_, ?_⟩
  · intro a0 a1 x2 r h
    unfold spec_LockingOk.l0 at h
    refine .loop' [c_ 464, c_ 465, c_ 233, l_ 58, b_ 0, c_ 15] ?_
    refine .reg' [2, 3, 5, 42] [] ⟨[(2, (.pt 256 0 3)), (3, (.pt 257 0 3)), (5, (I x2)), (42, (B (decide (x2 < (a1.f0.length : Int)))))], [(256, [(.sl true a0.f0.length 1 (a0.f0.flatMap encI)), (I a0.f1), (.sl true a0.f2.length 2 (a0.f2.flatMap (e83 true)))]), (257, [(.sl true a1.f0.length 1 (a1.f0.flatMap encI)), (.sl true a1.f1.length 1 (a1.f1.flatMap encB)), (.sl true a1.f2.length 1 (a1.f2.flatMap encB))])], [3 = 3 ∧ 0 + 1 ≤ 3], []⟩ [c_ 465, c_ 233, l_ 58, b_ 0, c_ 15] (alc ⟨rfl, by decide⟩ aln) nocal ?_
    by_cases c5 : x2 < (a1.f0.length : Int)
    · rw [if_pos c5] at h
      refine .cond' (.tmp 42) true [c_ 1864, c_ 1865, b_ 1, c_ 467, l_ 58, b_ 0, c_ 15] (bT (dT c5)) ?_
      by_cases c6 : 0 ≤ x2
      · rw [if_pos c6] at h
        obtain ⟨x3, hx3, h⟩ := Option.bind_eq_some_iff.mp h
        refine .reg' [2, 3, 5, 51] [.no, .no, .no, .no, .v (I (at_ a1.f0 x2)), .c ⟨54, [(I (at_ a1.f0 x2)), (I 0), (I 1)], [], (B x3), [], [], [], [], (B x3), []⟩] ⟨[(2, (.pt 256 0 3)), (3, (.pt 257 0 3)), (5, (I x2)), (51, (B (!x3)))], [(256, [(.sl true a0.f0.length 1 (a0.f0.flatMap encI)), (I a0.f1), (.sl true a0.f2.length 2 (a0.f2.flatMap (e83 true)))]), (257, [(.sl true a1.f0.length 1 (a1.f0.flatMap encI)), (.sl true a1.f1.length 1 (a1.f1.flatMap encB)), (.sl true a1.f2.length 1 (a1.f2.flatMap encB))])], [3 = 3 ∧ 0 + 1 ≤ 3, (0 : Int) ≤ x2 ∧ x2 < (a1.f0.length : Int), rdC prog 3 ((a1.f0.flatMap encI).drop (x2.toNat * 1)) = (I (at_ a1.f0 x2)), 1 ≤ ((a1.f0.flatMap encI).drop (x2.toNat * 1)).length, COK (hget [(256, [(.sl true a0.f0.length 1 (a0.f0.flatMap encI)), (I a0.f1), (.sl true a0.f2.length 2 (a0.f2.flatMap (e83 true)))]), (257, [(.sl true a1.f0.length 1 (a1.f0.flatMap encI)), (.sl true a1.f1.length 1 (a1.f1.flatMap encB)), (.sl true a1.f2.length 1 (a1.f2.flatMap encB))])]) [(I (at_ a1.f0 x2)), (I 0), (I 1)] ⟨54, [(I (at_ a1.f0 x2)), (I 0), (I 1)], [], (B x3), [], [], [], [], (B x3), []⟩], [⟨54, [(I (at_ a1.f0 x2)), (I 0), (I 1)], [], (B x3), [], [], [], [], (B x3), []⟩]⟩ [c_ 1865, b_ 1, c_ 467, l_ 58, b_ 0, c_ 15] (alc ⟨rfl, by decide⟩ (alc ⟨c6, c5⟩ (alc (ldC1 encI_ok rfl c6 c5) (alc (okI encI_ok c6 c5 (by decide)) (alc (cok0 false (a2c (.z .s) (a2c (.z .s) (a2c (.z .s) a2n))) (.z .s) (fun h => absurd h (by decide))) aln))))) (acal (spec_l01In.J (at_ a1.f0 x2) 0 1 _ hx3) nocal) ?_
        by_cases c7 : x3 = true
        · rw [if_pos c7] at h
          refine .cond' (.tmp 51) false [c_ 467, l_ 58, b_ 0, c_ 15] (bF (nF c7)) ?_
          refine .reg' [2, 3, 5] [] ⟨[(2, (.pt 256 0 3)), (3, (.pt 257 0 3)), (5, (I (wrap64 (x2 + 1))))], [(256, [(.sl true a0.f0.length 1 (a0.f0.flatMap encI)), (I a0.f1), (.sl true a0.f2.length 2 (a0.f2.flatMap (e83 true)))]), (257, [(.sl true a1.f0.length 1 (a1.f0.flatMap encI)), (.sl true a1.f1.length 1 (a1.f1.flatMap encB)), (.sl true a1.f2.length 1 (a1.f2.flatMap encB))])], [], []⟩ [l_ 58, b_ 0, c_ 15] aln nocal ?_
          exact ih0 a0 a1 (wrap64 (x2 + 1)) _ h
        · rw [if_neg c7] at h
          refine .cond' (.tmp 51) true [c_ 7460, c_ 7461, b_ 1, c_ 467, l_ 58, b_ 0, c_ 15] (bT (nT (vF c7))) ?_
          refine .reg' [4] [] ⟨[(4, (B false))], [(256, [(.sl true a0.f0.length 1 (a0.f0.flatMap encI)), (I a0.f1), (.sl true a0.f2.length 2 (a0.f2.flatMap (e83 true)))]), (257, [(.sl true a1.f0.length 1 (a1.f0.flatMap encI)), (.sl true a1.f1.length 1 (a1.f1.flatMap encB)), (.sl true a1.f2.length 1 (a1.f2.flatMap encB))])], [], []⟩ [c_ 7461, b_ 1, c_ 467, l_ 58, b_ 0, c_ 15] aln nocal ?_
          have h := Option.some.inj h
          subst h
          exact .fin0 [] (B false) [] aln (.z .s)
      · rw [if_neg c6] at h
        cases h
    · rw [if_neg c5] at h
      refine .cond' (.tmp 42) false [c_ 60, c_ 61, c_ 31] (bF (dF c5)) ?_
      refine .reg' [2, 3, 6] [] ⟨[(2, (.pt 256 0 3)), (3, (.pt 257 0 3)), (6, (I 0))], [(256, [(.sl true a0.f0.length 1 (a0.f0.flatMap encI)), (I a0.f1), (.sl true a0.f2.length 2 (a0.f2.flatMap (e83 true)))]), (257, [(.sl true a1.f0.length 1 (a1.f0.flatMap encI)), (.sl true a1.f1.length 1 (a1.f1.flatMap encB)), (.sl true a1.f2.length 1 (a1.f2.flatMap encB))])], [], []⟩ [l_ 122, b_ 2, c_ 31] aln nocal ?_
      exact ih1 a0 a1 0 _ h
  · intro a0 a1 x4 r h
    unfold spec_LockingOk.l1 at h
    refine .loop' [c_ 976, c_ 977, c_ 489, l_ 122, b_ 2, c_ 31] ?_
    refine .reg' [2, 3, 6, 56] [] ⟨[(2, (.pt 256 0 3)), (3, (.pt 257 0 3)), (6, (I x4)), (56, (B (decide (x4 < (a0.f2.length : Int)))))], [(256, [(.sl true a0.f0.length 1 (a0.f0.flatMap encI)), (I a0.f1), (.sl true a0.f2.length 2 (a0.f2.flatMap (e83 true)))]), (257, [(.sl true a1.f0.length 1 (a1.f0.flatMap encI)), (.sl true a1.f1.length 1 (a1.f1.flatMap encB)), (.sl true a1.f2.length 1 (a1.f2.flatMap encB))])], [3 = 3 ∧ 2 + 1 ≤ 3], []⟩ [c_ 977, c_ 489, l_ 122, b_ 2, c_ 31] (alc ⟨rfl, by decide⟩ aln) nocal ?_
    by_cases c8 : x4 < (a0.f2.length : Int)
    · rw [if_pos c8] at h
      refine .cond' (.tmp 56) true [c_ 7824, c_ 7825, c_ 3913, b_ 3, c_ 979, l_ 122, b_ 2, c_ 31] (bT (dT c8)) ?_
      by_cases c9 : 0 ≤ x4
      · rw [if_pos c9] at h
        by_cases c10 : x4 < (a1.f1.length : Int)
        · rw [if_pos c10] at h
          refine .reg' [2, 3, 6, 64] [.no, .no, .no, .no, .v (B (at_ a1.f1 x4))] ⟨[(2, (.pt 256 0 3)), (3, (.pt 257 0 3)), (6, (I x4)), (64, (B (!(at_ a1.f1 x4))))], [(256, [(.sl true a0.f0.length 1 (a0.f0.flatMap encI)), (I a0.f1), (.sl true a0.f2.length 2 (a0.f2.flatMap (e83 true)))]), (257, [(.sl true a1.f0.length 1 (a1.f0.flatMap encI)), (.sl true a1.f1.length 1 (a1.f1.flatMap encB)), (.sl true a1.f2.length 1 (a1.f2.flatMap encB))])], [3 = 3 ∧ 1 + 1 ≤ 3, (0 : Int) ≤ x4 ∧ x4 < (a1.f1.length : Int), rdC prog 4 ((a1.f1.flatMap encB).drop (x4.toNat * 1)) = (B (at_ a1.f1 x4)), 1 ≤ ((a1.f1.flatMap encB).drop (x4.toNat * 1)).length], []⟩ [c_ 7825, c_ 3913, b_ 3, c_ 979, l_ 122, b_ 2, c_ 31] (alc ⟨rfl, by decide⟩ (alc ⟨c9, c10⟩ (alc (ldC1 encB_ok rfl c9 c10) (alc (okI encB_ok c9 c10 (by decide)) aln)))) nocal ?_
          by_cases c11 : (at_ a1.f1 x4) = true
          · rw [if_pos c11] at h
            refine .cond' (.tmp 64) false [c_ 15652, c_ 15653, c_ 7827, b_ 3, c_ 979, l_ 122, b_ 2, c_ 31] (bF (nF c11)) ?_
            refine .reg' [2, 3, 6, 7] [] ⟨[(2, (.pt 256 0 3)), (3, (.pt 257 0 3)), (6, (I x4)), (7, (I 0))], [(256, [(.sl true a0.f0.length 1 (a0.f0.flatMap encI)), (I a0.f1), (.sl true a0.f2.length 2 (a0.f2.flatMap (e83 true)))]), (257, [(.sl true a1.f0.length 1 (a1.f0.flatMap encI)), (.sl true a1.f1.length 1 (a1.f1.flatMap encB)), (.sl true a1.f2.length 1 (a1.f2.flatMap encB))])], [], []⟩ [l_ 31306, b_ 4, c_ 7827, b_ 3, c_ 979, l_ 122, b_ 2, c_ 31] aln nocal ?_
            exact ih2 a0 a1 x4 0 _ h
          · rw [if_neg c11] at h
            refine .cond' (.tmp 64) true [c_ 979, l_ 122, b_ 2, c_ 31] (bT (nT (vF c11))) ?_
            refine .reg' [2, 3, 6] [] ⟨[(2, (.pt 256 0 3)), (3, (.pt 257 0 3)), (6, (I (wrap64 (x4 + 1))))], [(256, [(.sl true a0.f0.length 1 (a0.f0.flatMap encI)), (I a0.f1), (.sl true a0.f2.length 2 (a0.f2.flatMap (e83 true)))]), (257, [(.sl true a1.f0.length 1 (a1.f0.flatMap encI)), (.sl true a1.f1.length 1 (a1.f1.flatMap encB)), (.sl true a1.f2.length 1 (a1.f2.flatMap encB))])], [], []⟩ [l_ 122, b_ 2, c_ 31] aln nocal ?_
            exact ih1 a0 a1 (wrap64 (x4 + 1)) _ h
        · rw [if_neg c10] at h
          cases h
      · rw [if_neg c9] at h
        cases h
    · rw [if_neg c8] at h
      refine .cond' (.tmp 56) false [c_ 62, c_ 63] (bF (dF c8)) ?_
      refine .reg' [4] [] ⟨[(4, (B true))], [(256, [(.sl true a0.f0.length 1 (a0.f0.flatMap encI)), (I a0.f1), (.sl true a0.f2.length 2 (a0.f2.flatMap (e83 true)))]), (257, [(.sl true a1.f0.length 1 (a1.f0.flatMap encI)), (.sl true a1.f1.length 1 (a1.f1.flatMap encB)), (.sl true a1.f2.length 1 (a1.f2.flatMap encB))])], [], []⟩ [c_ 63] aln nocal ?_
      have h := Option.some.inj h
      subst h
      exact .fin0 [] (B true) [] aln (.z .s)
  · intro a0 a1 x4 x5 r h
    unfold spec_LockingOk.l2 at h
    refine .loop' [c_ 250448, c_ 250449, c_ 125225, l_ 31306, b_ 4, c_ 7827, b_ 3, c_ 979, l_ 122, b_ 2, c_ 31] ?_
    refine .reg' [2, 3, 6, 7, 67] [] ⟨[(2, (.pt 256 0 3)), (3, (.pt 257 0 3)), (6, (I x4)), (7, (I x5)), (67, (B (decide (x5 < x4))))], [(256, [(.sl true a0.f0.length 1 (a0.f0.flatMap encI)), (I a0.f1), (.sl true a0.f2.length 2 (a0.f2.flatMap (e83 true)))]), (257, [(.sl true a1.f0.length 1 (a1.f0.flatMap encI)), (.sl true a1.f1.length 1 (a1.f1.flatMap encB)), (.sl true a1.f2.length 1 (a1.f2.flatMap encB))])], [], []⟩ [c_ 250449, c_ 125225, l_ 31306, b_ 4, c_ 7827, b_ 3, c_ 979, l_ 122, b_ 2, c_ 31] aln nocal ?_
    by_cases c12 : x5 < x4
    · rw [if_pos c12] at h
      refine .cond' (.tmp 67) true [c_ 1001800, c_ 1001801, b_ 5, c_ 250451, l_ 31306, b_ 4, c_ 7827, b_ 3, c_ 979, l_ 122, b_ 2, c_ 31] (bT (dT c12)) ?_
      by_cases c13 : 0 ≤ x5
      · rw [if_pos c13] at h
        by_cases c14 : x5 < (a1.f1.length : Int)
        · rw [if_pos c14] at h
          by_cases c15 : (at_ a1.f1 x5) = true
          · rw [if_pos c15] at h
            by_cases c16 : 0 ≤ x4
            · rw [if_pos c16] at h
              by_cases c17 : x4 < (a0.f2.length : Int)
              · rw [if_pos c17] at h
                by_cases c18 : x5 < (a0.f2.length : Int)
                · rw [if_pos c18] at h
                  obtain ⟨x6, hx6, h⟩ := Option.bind_eq_some_iff.mp h
                  refine .reg' [2, 3, 6, 7, 87] [.no, .no, .no, .no, .v (B (at_ a1.f1 x5)), .v (B true), .no, .no, .no, .no, .v (.ag [(.sl true (at_ a0.f2 x4).f0.length 2 ((at_ a0.f2 x4).f0.flatMap e93)), (.sl true (at_ a0.f2 x4).f1.length 1 ((at_ a0.f2 x4).f1.flatMap encI))]), .no, .no, .no, .no, .v (.ag [(.sl true (at_ a0.f2 x5).f0.length 2 ((at_ a0.f2 x5).f0.flatMap e93)), (.sl true (at_ a0.f2 x5).f1.length 1 ((at_ a0.f2 x5).f1.flatMap encI))]), .c ⟨60, [(.ag [(.sl true (at_ a0.f2 x4).f0.length 2 ((at_ a0.f2 x4).f0.flatMap e93)), (.sl true (at_ a0.f2 x4).f1.length 1 ((at_ a0.f2 x4).f1.flatMap encI))]), (.ag [(.sl true (at_ a0.f2 x5).f0.length 2 ((at_ a0.f2 x5).f0.flatMap e93)), (.sl true (at_ a0.f2 x5).f1.length 1 ((at_ a0.f2 x5).f1.flatMap encI))])], [], (B x6), [], [], [], [], (B x6), []⟩] ⟨[(2, (.pt 256 0 3)), (3, (.pt 257 0 3)), (6, (I x4)), (7, (I x5)), (87, (B x6))], [(256, [(.sl true a0.f0.length 1 (a0.f0.flatMap encI)), (I a0.f1), (.sl true a0.f2.length 2 (a0.f2.flatMap (e83 true)))]), (257, [(.sl true a1.f0.length 1 (a1.f0.flatMap encI)), (.sl true a1.f1.length 1 (a1.f1.flatMap encB)), (.sl true a1.f2.length 1 (a1.f2.flatMap encB))])], [3 = 3 ∧ 1 + 1 ≤ 3, (0 : Int) ≤ x5 ∧ x5 < (a1.f1.length : Int), rdC prog 4 ((a1.f1.flatMap encB).drop (x5.toNat * 1)) = (B (at_ a1.f1 x5)), 1 ≤ ((a1.f1.flatMap encB).drop (x5.toNat * 1)).length, (B (at_ a1.f1 x5) : V) = B true, 3 = 3 ∧ 2 + 1 ≤ 3, (0 : Int) ≤ x4 ∧ x4 < (a0.f2.length : Int), rdC prog 84 ((a0.f2.flatMap (e83 true)).drop (x4.toNat * 2)) = (.ag [(.sl true (at_ a0.f2 x4).f0.length 2 ((at_ a0.f2 x4).f0.flatMap e93)), (.sl true (at_ a0.f2 x4).f1.length 1 ((at_ a0.f2 x4).f1.flatMap encI))]), 2 ≤ ((a0.f2.flatMap (e83 true)).drop (x4.toNat * 2)).length, 3 = 3 ∧ 2 + 1 ≤ 3, (0 : Int) ≤ x5 ∧ x5 < (a0.f2.length : Int), rdC prog 84 ((a0.f2.flatMap (e83 true)).drop (x5.toNat * 2)) = (.ag [(.sl true (at_ a0.f2 x5).f0.length 2 ((at_ a0.f2 x5).f0.flatMap e93)), (.sl true (at_ a0.f2 x5).f1.length 1 ((at_ a0.f2 x5).f1.flatMap encI))]), 2 ≤ ((a0.f2.flatMap (e83 true)).drop (x5.toNat * 2)).length, COK (hget [(256, [(.sl true a0.f0.length 1 (a0.f0.flatMap encI)), (I a0.f1), (.sl true a0.f2.length 2 (a0.f2.flatMap (e83 true)))]), (257, [(.sl true a1.f0.length 1 (a1.f0.flatMap encI)), (.sl true a1.f1.length 1 (a1.f1.flatMap encB)), (.sl true a1.f2.length 1 (a1.f2.flatMap encB))])]) [(.ag [(.sl true (at_ a0.f2 x4).f0.length 2 ((at_ a0.f2 x4).f0.flatMap e93)), (.sl true (at_ a0.f2 x4).f1.length 1 ((at_ a0.f2 x4).f1.flatMap encI))]), (.ag [(.sl true (at_ a0.f2 x5).f0.length 2 ((at_ a0.f2 x5).f0.flatMap e93)), (.sl true (at_ a0.f2 x5).f1.length 1 ((at_ a0.f2 x5).f1.flatMap encI))])] ⟨60, [(.ag [(.sl true (at_ a0.f2 x4).f0.length 2 ((at_ a0.f2 x4).f0.flatMap e93)), (.sl true (at_ a0.f2 x4).f1.length 1 ((at_ a0.f2 x4).f1.flatMap encI))]), (.ag [(.sl true (at_ a0.f2 x5).f0.length 2 ((at_ a0.f2 x5).f0.flatMap e93)), (.sl true (at_ a0.f2 x5).f1.length 1 ((at_ a0.f2 x5).f1.flatMap encI))])], [], (B x6), [], [], [], [], (B x6), []⟩], [⟨60, [(.ag [(.sl true (at_ a0.f2 x4).f0.length 2 ((at_ a0.f2 x4).f0.flatMap e93)), (.sl true (at_ a0.f2 x4).f1.length 1 ((at_ a0.f2 x4).f1.flatMap encI))]), (.ag [(.sl true (at_ a0.f2 x5).f0.length 2 ((at_ a0.f2 x5).f0.flatMap e93)), (.sl true (at_ a0.f2 x5).f1.length 1 ((at_ a0.f2 x5).f1.flatMap encI))])], [], (B x6), [], [], [], [], (B x6), []⟩]⟩ [c_ 1001801, b_ 5, c_ 250451, l_ 31306, b_ 4, c_ 7827, b_ 3, c_ 979, l_ 122, b_ 2, c_ 31] (alc ⟨rfl, by decide⟩ (alc ⟨c13, c14⟩ (alc (ldC1 encB_ok rfl c13 c14) (alc (okI encB_ok c13 c14 (by decide)) (alc (bT c15) (alc ⟨rfl, by decide⟩ (alc ⟨c16, c17⟩ (alc (ldA (e83_ok true) rfl rfl c16 c17) (alc (okI (e83_ok true) c16 c17 (by decide)) (alc ⟨rfl, by decide⟩ (alc ⟨c13, c18⟩ (alc (ldA (e83_ok true) rfl rfl c13 c18) (alc (okI (e83_ok true) c13 c18 (by decide)) (alc (cok0 false (a2c (.z (frz_ag (a2c (frz_sl e93_ok (fun h => h)) (a2c (frz_sl encI_ok (fun h => h)) a2n)))) (a2c (.z (frz_ag (a2c (frz_sl e93_ok (fun h => h)) (a2c (frz_sl encI_ok (fun h => h)) a2n)))) a2n)) (.z .s) (fun h => absurd h (by decide))) aln)))))))))))))) (acal (spec_l06Against.J k (at_ a0.f2 x4) (at_ a0.f2 x5) _ hx6) nocal) ?_
                  by_cases c19 : x6 = true
                  · rw [if_pos c19] at h
                    refine .cond' (.tmp 87) true [c_ 4007204, c_ 4007205, b_ 5, c_ 250451, l_ 31306, b_ 4, c_ 7827, b_ 3, c_ 979, l_ 122, b_ 2, c_ 31] (bT c19) ?_
                    refine .reg' [4] [] ⟨[(4, (B false))], [(256, [(.sl true a0.f0.length 1 (a0.f0.flatMap encI)), (I a0.f1), (.sl true a0.f2.length 2 (a0.f2.flatMap (e83 true)))]), (257, [(.sl true a1.f0.length 1 (a1.f0.flatMap encI)), (.sl true a1.f1.length 1 (a1.f1.flatMap encB)), (.sl true a1.f2.length 1 (a1.f2.flatMap encB))])], [], []⟩ [c_ 4007205, b_ 5, c_ 250451, l_ 31306, b_ 4, c_ 7827, b_ 3, c_ 979, l_ 122, b_ 2, c_ 31] aln nocal ?_
                    have h := Option.some.inj h
                    subst h
                    exact .fin0 [] (B false) [] aln (.z .s)
                  · rw [if_neg c19] at h
                    refine .cond' (.tmp 87) false [c_ 250451, l_ 31306, b_ 4, c_ 7827, b_ 3, c_ 979, l_ 122, b_ 2, c_ 31] (bF (vF c19)) ?_
                    refine .reg' [2, 3, 6, 7] [] ⟨[(2, (.pt 256 0 3)), (3, (.pt 257 0 3)), (6, (I x4)), (7, (I (wrap64 (x5 + 1))))], [(256, [(.sl true a0.f0.length 1 (a0.f0.flatMap encI)), (I a0.f1), (.sl true a0.f2.length 2 (a0.f2.flatMap (e83 true)))]), (257, [(.sl true a1.f0.length 1 (a1.f0.flatMap encI)), (.sl true a1.f1.length 1 (a1.f1.flatMap encB)), (.sl true a1.f2.length 1 (a1.f2.flatMap encB))])], [], []⟩ [l_ 31306, b_ 4, c_ 7827, b_ 3, c_ 979, l_ 122, b_ 2, c_ 31] aln nocal ?_
                    exact ih2 a0 a1 x4 (wrap64 (x5 + 1)) _ h
                · rw [if_neg c18] at h
                  cases h
              · rw [if_neg c17] at h
                cases h
            · rw [if_neg c16] at h
              cases h
          · rw [if_neg c15] at h
            refine .reg' [2, 3, 6, 7, 87] [.no, .no, .no, .no, .v (B (at_ a1.f1 x5)), .v (B false)] ⟨[(2, (.pt 256 0 3)), (3, (.pt 257 0 3)), (6, (I x4)), (7, (I x5)), (87, (B false))], [(256, [(.sl true a0.f0.length 1 (a0.f0.flatMap encI)), (I a0.f1), (.sl true a0.f2.length 2 (a0.f2.flatMap (e83 true)))]), (257, [(.sl true a1.f0.length 1 (a1.f0.flatMap encI)), (.sl true a1.f1.length 1 (a1.f1.flatMap encB)), (.sl true a1.f2.length 1 (a1.f2.flatMap encB))])], [3 = 3 ∧ 1 + 1 ≤ 3, (0 : Int) ≤ x5 ∧ x5 < (a1.f1.length : Int), rdC prog 4 ((a1.f1.flatMap encB).drop (x5.toNat * 1)) = (B (at_ a1.f1 x5)), 1 ≤ ((a1.f1.flatMap encB).drop (x5.toNat * 1)).length, (B (at_ a1.f1 x5) : V) = B false], []⟩ [c_ 1001801, b_ 5, c_ 250451, l_ 31306, b_ 4, c_ 7827, b_ 3, c_ 979, l_ 122, b_ 2, c_ 31] (alc ⟨rfl, by decide⟩ (alc ⟨c13, c14⟩ (alc (ldC1 encB_ok rfl c13 c14) (alc (okI encB_ok c13 c14 (by decide)) (alc (bF (vF c15)) aln))))) nocal ?_
            refine .cond' (.tmp 87) false [c_ 250451, l_ 31306, b_ 4, c_ 7827, b_ 3, c_ 979, l_ 122, b_ 2, c_ 31] (rfl) ?_
            refine .reg' [2, 3, 6, 7] [] ⟨[(2, (.pt 256 0 3)), (3, (.pt 257 0 3)), (6, (I x4)), (7, (I (wrap64 (x5 + 1))))], [(256, [(.sl true a0.f0.length 1 (a0.f0.flatMap encI)), (I a0.f1), (.sl true a0.f2.length 2 (a0.f2.flatMap (e83 true)))]), (257, [(.sl true a1.f0.length 1 (a1.f0.flatMap encI)), (.sl true a1.f1.length 1 (a1.f1.flatMap encB)), (.sl true a1.f2.length 1 (a1.f2.flatMap encB))])], [], []⟩ [l_ 31306, b_ 4, c_ 7827, b_ 3, c_ 979, l_ 122, b_ 2, c_ 31] aln nocal ?_
            exact ih2 a0 a1 x4 (wrap64 (x5 + 1)) _ h
        · rw [if_neg c14] at h
          cases h
      · rw [if_neg c13] at h
        cases h
    · rw [if_neg c12] at h
      refine .cond' (.tmp 67) false [c_ 15654, c_ 15655, b_ 3, c_ 979, l_ 122, b_ 2, c_ 31] (bF (dF c12)) ?_
      refine .reg' [2, 3, 6, 8] [] ⟨[(2, (.pt 256 0 3)), (3, (.pt 257 0 3)), (6, (I x4)), (8, (I 0))], [(256, [(.sl true a0.f0.length 1 (a0.f0.flatMap encI)), (I a0.f1), (.sl true a0.f2.length 2 (a0.f2.flatMap (e83 true)))]), (257, [(.sl true a1.f0.length 1 (a1.f0.flatMap encI)), (.sl true a1.f1.length 1 (a1.f1.flatMap encB)), (.sl true a1.f2.length 1 (a1.f2.flatMap encB))])], [], []⟩ [l_ 31310, b_ 6, b_ 3, c_ 979, l_ 122, b_ 2, c_ 31] aln nocal ?_
      exact ih3 a0 a1 x4 0 _ h
  · intro a0 a1 x4 x7 r h
    unfold spec_LockingOk.l3 at h
    refine .loop' [c_ 250480, c_ 250481, c_ 125241, l_ 31310, b_ 6, b_ 3, c_ 979, l_ 122, b_ 2, c_ 31] ?_
    by_cases c20 : 0 ≤ x4
    · rw [if_pos c20] at h
      by_cases c21 : x4 < (a0.f2.length : Int)
      · rw [if_pos c21] at h
        refine .reg' [2, 3, 6, 8, 96] [.no, .no, .no, .no, .no, .no, .v (.sl true (at_ a0.f2 x4).f0.length 2 ((at_ a0.f2 x4).f0.flatMap e93))] ⟨[(2, (.pt 256 0 3)), (3, (.pt 257 0 3)), (6, (I x4)), (8, (I x7)), (96, (B (decide (x7 < ((at_ a0.f2 x4).f0.length : Int)))))], [(256, [(.sl true a0.f0.length 1 (a0.f0.flatMap encI)), (I a0.f1), (.sl true a0.f2.length 2 (a0.f2.flatMap (e83 true)))]), (257, [(.sl true a1.f0.length 1 (a1.f0.flatMap encI)), (.sl true a1.f1.length 1 (a1.f1.flatMap encB)), (.sl true a1.f2.length 1 (a1.f2.flatMap encB))])], [3 = 3 ∧ 2 + 1 ≤ 3, (0 : Int) ≤ x4 ∧ x4 < (a0.f2.length : Int), rdC prog 82 (((a0.f2.flatMap (e83 true)).drop (x4.toNat * 2)).drop 0) = (.sl true (at_ a0.f2 x4).f0.length 2 ((at_ a0.f2 x4).f0.flatMap e93)), 1 ≤ (((a0.f2.flatMap (e83 true)).drop (x4.toNat * 2)).drop 0).length], []⟩ [c_ 250481, c_ 125241, l_ 31310, b_ 6, b_ 3, c_ 979, l_ 122, b_ 2, c_ 31] (alc ⟨rfl, by decide⟩ (alc ⟨c20, c21⟩ (alc (ldC (e83_ok true) 0 (by decide) rfl c20 c21) (alc (okIj (e83_ok true) c20 c21 (by decide)) aln)))) nocal ?_
        by_cases c22 : x7 < ((at_ a0.f2 x4).f0.length : Int)
        · rw [if_pos c22] at h
          refine .cond' (.tmp 96) true [c_ 1001928, c_ 1001929, b_ 7, c_ 250483, l_ 31310, b_ 6, b_ 3, c_ 979, l_ 122, b_ 2, c_ 31] (bT (dT c22)) ?_
          by_cases c23 : 0 ≤ x7
          · rw [if_pos c23] at h
            by_cases c24 : 0 ≤ (at_ (at_ a0.f2 x4).f0 x7).f0
            · rw [if_pos c24] at h
              by_cases c25 : (at_ (at_ a0.f2 x4).f0 x7).f0 < (a1.f0.length : Int)
              · rw [if_pos c25] at h
                refine .reg' [2, 3, 6, 8, 123] [.no, .no, .no, .no, .no, .no, .no, .v (.sl true (at_ a0.f2 x4).f0.length 2 ((at_ a0.f2 x4).f0.flatMap e93)), .no, .no, .no, .v (I (at_ (at_ a0.f2 x4).f0 x7).f0), .no, .v (I (at_ a1.f0 (at_ (at_ a0.f2 x4).f0 x7).f0)), .no, .no, .no, .no, .no, .v (.sl true (at_ a0.f2 x4).f0.length 2 ((at_ a0.f2 x4).f0.flatMap e93)), .no, .no, .no, .v (I (at_ (at_ a0.f2 x4).f0 x7).f1)] ⟨[(2, (.pt 256 0 3)), (3, (.pt 257 0 3)), (6, (I x4)), (8, (I x7)), (123, (B (!((at_ a1.f0 (at_ (at_ a0.f2 x4).f0 x7).f0) == (at_ (at_ a0.f2 x4).f0 x7).f1))))], [(256, [(.sl true a0.f0.length 1 (a0.f0.flatMap encI)), (I a0.f1), (.sl true a0.f2.length 2 (a0.f2.flatMap (e83 true)))]), (257, [(.sl true a1.f0.length 1 (a1.f0.flatMap encI)), (.sl true a1.f1.length 1 (a1.f1.flatMap encB)), (.sl true a1.f2.length 1 (a1.f2.flatMap encB))])], [3 = 3 ∧ 0 + 1 ≤ 3, 3 = 3 ∧ 2 + 1 ≤ 3, (0 : Int) ≤ x4 ∧ x4 < (a0.f2.length : Int), rdC prog 82 (((a0.f2.flatMap (e83 true)).drop (x4.toNat * 2)).drop 0) = (.sl true (at_ a0.f2 x4).f0.length 2 ((at_ a0.f2 x4).f0.flatMap e93)), 1 ≤ (((a0.f2.flatMap (e83 true)).drop (x4.toNat * 2)).drop 0).length, (0 : Int) ≤ x7 ∧ x7 < ((at_ a0.f2 x4).f0.length : Int), rdC prog 3 ((((at_ a0.f2 x4).f0.flatMap e93).drop (x7.toNat * 2)).drop 0) = (I (at_ (at_ a0.f2 x4).f0 x7).f0), 1 ≤ ((((at_ a0.f2 x4).f0.flatMap e93).drop (x7.toNat * 2)).drop 0).length, (0 : Int) ≤ (at_ (at_ a0.f2 x4).f0 x7).f0 ∧ (at_ (at_ a0.f2 x4).f0 x7).f0 < (a1.f0.length : Int), rdC prog 3 ((a1.f0.flatMap encI).drop ((at_ (at_ a0.f2 x4).f0 x7).f0.toNat * 1)) = (I (at_ a1.f0 (at_ (at_ a0.f2 x4).f0 x7).f0)), 1 ≤ ((a1.f0.flatMap encI).drop ((at_ (at_ a0.f2 x4).f0 x7).f0.toNat * 1)).length, 3 = 3 ∧ 2 + 1 ≤ 3, (0 : Int) ≤ x4 ∧ x4 < (a0.f2.length : Int), rdC prog 82 (((a0.f2.flatMap (e83 true)).drop (x4.toNat * 2)).drop 0) = (.sl true (at_ a0.f2 x4).f0.length 2 ((at_ a0.f2 x4).f0.flatMap e93)), 1 ≤ (((a0.f2.flatMap (e83 true)).drop (x4.toNat * 2)).drop 0).length, (0 : Int) ≤ x7 ∧ x7 < ((at_ a0.f2 x4).f0.length : Int), rdC prog 3 ((((at_ a0.f2 x4).f0.flatMap e93).drop (x7.toNat * 2)).drop 1) = (I (at_ (at_ a0.f2 x4).f0 x7).f1), 1 ≤ ((((at_ a0.f2 x4).f0.flatMap e93).drop (x7.toNat * 2)).drop 1).length], []⟩ [c_ 1001929, b_ 7, c_ 250483, l_ 31310, b_ 6, b_ 3, c_ 979, l_ 122, b_ 2, c_ 31] (alc ⟨rfl, by decide⟩ (alc ⟨rfl, by decide⟩ (alc ⟨c20, c21⟩ (alc (ldC (e83_ok true) 0 (by decide) rfl c20 c21) (alc (okIj (e83_ok true) c20 c21 (by decide)) (alc ⟨c23, c22⟩ (alc (ldC e93_ok 0 (by decide) rfl c23 c22) (alc (okIj e93_ok c23 c22 (by decide)) (alc ⟨c24, c25⟩ (alc (ldC1 encI_ok rfl c24 c25) (alc (okI encI_ok c24 c25 (by decide)) (alc ⟨rfl, by decide⟩ (alc ⟨c20, c21⟩ (alc (ldC (e83_ok true) 0 (by decide) rfl c20 c21) (alc (okIj (e83_ok true) c20 c21 (by decide)) (alc ⟨c23, c22⟩ (alc (ldC e93_ok 1 (by decide) rfl c23 c22) (alc (okIj e93_ok c23 c22 (by decide)) aln)))))))))))))))))) nocal ?_
                by_cases c26 : (at_ a1.f0 (at_ (at_ a0.f2 x4).f0 x7).f0) = (at_ (at_ a0.f2 x4).f0 x7).f1
                · rw [if_pos c26] at h
                  refine .cond' (.tmp 123) false [c_ 250483, l_ 31310, b_ 6, b_ 3, c_ 979, l_ 122, b_ 2, c_ 31] (bF (nF (qT c26))) ?_
                  refine .reg' [2, 3, 6, 8] [] ⟨[(2, (.pt 256 0 3)), (3, (.pt 257 0 3)), (6, (I x4)), (8, (I (wrap64 (x7 + 1))))], [(256, [(.sl true a0.f0.length 1 (a0.f0.flatMap encI)), (I a0.f1), (.sl true a0.f2.length 2 (a0.f2.flatMap (e83 true)))]), (257, [(.sl true a1.f0.length 1 (a1.f0.flatMap encI)), (.sl true a1.f1.length 1 (a1.f1.flatMap encB)), (.sl true a1.f2.length 1 (a1.f2.flatMap encB))])], [], []⟩ [l_ 31310, b_ 6, b_ 3, c_ 979, l_ 122, b_ 2, c_ 31] aln nocal ?_
                  exact ih3 a0 a1 x4 (wrap64 (x7 + 1)) _ h
                · rw [if_neg c26] at h
                  refine .cond' (.tmp 123) true [c_ 4007716, c_ 4007717, b_ 7, c_ 250483, l_ 31310, b_ 6, b_ 3, c_ 979, l_ 122, b_ 2, c_ 31] (bT (nT (qF c26))) ?_
                  refine .reg' [4] [] ⟨[(4, (B false))], [(256, [(.sl true a0.f0.length 1 (a0.f0.flatMap encI)), (I a0.f1), (.sl true a0.f2.length 2 (a0.f2.flatMap (e83 true)))]), (257, [(.sl true a1.f0.length 1 (a1.f0.flatMap encI)), (.sl true a1.f1.length 1 (a1.f1.flatMap encB)), (.sl true a1.f2.length 1 (a1.f2.flatMap encB))])], [], []⟩ [c_ 4007717, b_ 7, c_ 250483, l_ 31310, b_ 6, b_ 3, c_ 979, l_ 122, b_ 2, c_ 31] aln nocal ?_
                  have h := Option.some.inj h
                  subst h
                  exact .fin0 [] (B false) [] aln (.z .s)
              · rw [if_neg c25] at h
                cases h
            · rw [if_neg c24] at h
              cases h
          · rw [if_neg c23] at h
            cases h
        · rw [if_neg c22] at h
          refine .cond' (.tmp 96) false [c_ 979, l_ 122, b_ 2, c_ 31] (bF (dF c22)) ?_
          refine .reg' [2, 3, 6] [] ⟨[(2, (.pt 256 0 3)), (3, (.pt 257 0 3)), (6, (I (wrap64 (x4 + 1))))], [(256, [(.sl true a0.f0.length 1 (a0.f0.flatMap encI)), (I a0.f1), (.sl true a0.f2.length 2 (a0.f2.flatMap (e83 true)))]), (257, [(.sl true a1.f0.length 1 (a1.f0.flatMap encI)), (.sl true a1.f1.length 1 (a1.f1.flatMap encB)), (.sl true a1.f2.length 1 (a1.f2.flatMap encB))])], [], []⟩ [l_ 122, b_ 2, c_ 31] aln nocal ?_
          exact ih1 a0 a1 (wrap64 (x4 + 1)) _ h
      · rw [if_neg c21] at h
        cases h
    · rw [if_neg c20] at h
      cases h
theorem spec_LockingOk.J (k : Nat) (a0 : S29) (a1 : S37) (r : Bool) (h : spec_LockingOk.f k a0 a1 = some r) : J prog (.call 24 [(.ag [(.sl true a0.f0.length 1 (a0.f0.flatMap encI)), (I a0.f1), (.sl true a0.f2.length 2 (a0.f2.flatMap (e83 true)))]), (.ag [(.sl true a1.f0.length 1 (a1.f0.flatMap encI)), (.sl true a1.f1.length 1 (a1.f1.flatMap encB)), (.sl true a1.f2.length 1 (a1.f2.flatMap encB))])] [] (B r) []) := by
  unfold spec_LockingOk.f at h
  obtain ⟨ih0, ih1, ih2, ih3⟩ := spec_LockingOk.lab k
  refine .call' [c_ 2, c_ 3] ?_
  refine .reg' [2, 3] [] ⟨[(2, (.pt 256 0 3)), (3, (.pt 257 0 3))], [(256, [(.sl true a0.f0.length 1 (a0.f0.flatMap encI)), (I a0.f1), (.sl true a0.f2.length 2 (a0.f2.flatMap (e83 true)))]), (257, [(.sl true a1.f0.length 1 (a1.f0.flatMap encI)), (.sl true a1.f1.length 1 (a1.f1.flatMap encB)), (.sl true a1.f2.length 1 (a1.f2.flatMap encB))])], [], []⟩ [c_ 12, c_ 13, c_ 7] aln nocal ?_
  obtain ⟨x1, hx1, h⟩ := Option.bind_eq_some_iff.mp h
  by_cases c1 : x1 = true
  · rw [if_pos c1] at h
    by_cases c2 : (a1.f0.length : Int) = (a0.f0.length : Int)
    · rw [if_pos c2] at h
      by_cases c3 : (a1.f1.length : Int) = (a0.f2.length : Int)
      · rw [if_pos c3] at h
        refine .reg' [2, 3, 37] [.no, .c ⟨11, [(.ag [(.sl true a0.f0.length 1 (a0.f0.flatMap encI)), (I a0.f1), (.sl true a0.f2.length 2 (a0.f2.flatMap (e83 true)))])], [], (B x1), [], [], [], [], (B x1), []⟩, .no, .v (B false), .no, .no, .no, .no, .no, .no, .no, .no, .v (B false), .no, .no, .no, .no, .no, .no, .no, .no, .v (B false)] ⟨[(2, (.pt 256 0 3)), (3, (.pt 257 0 3)), (37, (B (!((a1.f2.length : Int) == a0.f1))))], [(256, [(.sl true a0.f0.length 1 (a0.f0.flatMap encI)), (I a0.f1), (.sl true a0.f2.length 2 (a0.f2.flatMap (e83 true)))]), (257, [(.sl true a1.f0.length 1 (a1.f0.flatMap encI)), (.sl true a1.f1.length 1 (a1.f1.flatMap encB)), (.sl true a1.f2.length 1 (a1.f2.flatMap encB))])], [3 = 3 ∧ 0 + 3 ≤ 3, COK (hget [(256, [(.sl true a0.f0.length 1 (a0.f0.flatMap encI)), (I a0.f1), (.sl true a0.f2.length 2 (a0.f2.flatMap (e83 true)))]), (257, [(.sl true a1.f0.length 1 (a1.f0.flatMap encI)), (.sl true a1.f1.length 1 (a1.f1.flatMap encB)), (.sl true a1.f2.length 1 (a1.f2.flatMap encB))])]) [(.ag [(.sl true a0.f0.length 1 (a0.f0.flatMap encI)), (I a0.f1), (.sl true a0.f2.length 2 (a0.f2.flatMap (e83 true)))])] ⟨11, [(.ag [(.sl true a0.f0.length 1 (a0.f0.flatMap encI)), (I a0.f1), (.sl true a0.f2.length 2 (a0.f2.flatMap (e83 true)))])], [], (B x1), [], [], [], [], (B x1), []⟩, (B (!x1) : V) = B false, 3 = 3 ∧ 0 + 1 ≤ 3, 3 = 3 ∧ 0 + 1 ≤ 3, (B (!((a1.f0.length : Int) == (a0.f0.length : Int))) : V) = B false, 3 = 3 ∧ 1 + 1 ≤ 3, 3 = 3 ∧ 2 + 1 ≤ 3, (B (!((a1.f1.length : Int) == (a0.f2.length : Int))) : V) = B false, 3 = 3 ∧ 2 + 1 ≤ 3, 3 = 3 ∧ 1 + 1 ≤ 3], [⟨11, [(.ag [(.sl true a0.f0.length 1 (a0.f0.flatMap encI)), (I a0.f1), (.sl true a0.f2.length 2 (a0.f2.flatMap (e83 true)))])], [], (B x1), [], [], [], [], (B x1), []⟩]⟩ [c_ 13, c_ 7] (alc ⟨rfl, by decide⟩ (alc (cok0 false (a2c (.z (frz_ag (a2c (frz_sl encI_ok (fun h => h)) (a2c .s (a2c (frz_sl (e83_ok true) (fun h => h)) a2n))))) a2n) (.z .s) (fun h => absurd h (by decide))) (alc (bF (nF c1)) (alc ⟨rfl, by decide⟩ (alc ⟨rfl, by decide⟩ (alc (bF (nF (qT c2))) (alc ⟨rfl, by decide⟩ (alc ⟨rfl, by decide⟩ (alc (bF (nF (qT c3))) (alc ⟨rfl, by decide⟩ (alc ⟨rfl, by decide⟩ aln))))))))))) (acal (spec_PlantOk.J k a0 _ hx1) nocal) ?_
        by_cases c4 : (a1.f2.length : Int) = a0.f1
        · rw [if_pos c4] at h
          refine .cond' (.tmp 37) false [c_ 28, c_ 29, c_ 15] (bF (nF (qT c4))) ?_
          refine .reg' [2, 3, 5] [] ⟨[(2, (.pt 256 0 3)), (3, (.pt 257 0 3)), (5, (I 0))], [(256, [(.sl true a0.f0.length 1 (a0.f0.flatMap encI)), (I a0.f1), (.sl true a0.f2.length 2 (a0.f2.flatMap (e83 true)))]), (257, [(.sl true a1.f0.length 1 (a1.f0.flatMap encI)), (.sl true a1.f1.length 1 (a1.f1.flatMap encB)), (.sl true a1.f2.length 1 (a1.f2.flatMap encB))])], [], []⟩ [l_ 58, b_ 0, c_ 15] aln nocal ?_
          exact ih0 a0 a1 0 _ h
        · rw [if_neg c4] at h
          refine .cond' (.tmp 37) true [c_ 52, c_ 53, c_ 7] (bT (nT (qF c4))) ?_
          refine .reg' [4] [] ⟨[(4, (B false))], [(256, [(.sl true a0.f0.length 1 (a0.f0.flatMap encI)), (I a0.f1), (.sl true a0.f2.length 2 (a0.f2.flatMap (e83 true)))]), (257, [(.sl true a1.f0.length 1 (a1.f0.flatMap encI)), (.sl true a1.f1.length 1 (a1.f1.flatMap encB)), (.sl true a1.f2.length 1 (a1.f2.flatMap encB))])], [], []⟩ [c_ 53, c_ 7] aln nocal ?_
          have h := Option.some.inj h
          subst h
          exact .fin0 [] (B false) [] aln (.z .s)
      · rw [if_neg c3] at h
        refine .reg' [2, 3, 37] [.no, .c ⟨11, [(.ag [(.sl true a0.f0.length 1 (a0.f0.flatMap encI)), (I a0.f1), (.sl true a0.f2.length 2 (a0.f2.flatMap (e83 true)))])], [], (B x1), [], [], [], [], (B x1), []⟩, .no, .v (B false), .no, .no, .no, .no, .no, .no, .no, .no, .v (B false), .no, .no, .no, .no, .no, .no, .no, .no, .v (B true)] ⟨[(2, (.pt 256 0 3)), (3, (.pt 257 0 3)), (37, (B true))], [(256, [(.sl true a0.f0.length 1 (a0.f0.flatMap encI)), (I a0.f1), (.sl true a0.f2.length 2 (a0.f2.flatMap (e83 true)))]), (257, [(.sl true a1.f0.length 1 (a1.f0.flatMap encI)), (.sl true a1.f1.length 1 (a1.f1.flatMap encB)), (.sl true a1.f2.length 1 (a1.f2.flatMap encB))])], [3 = 3 ∧ 0 + 3 ≤ 3, COK (hget [(256, [(.sl true a0.f0.length 1 (a0.f0.flatMap encI)), (I a0.f1), (.sl true a0.f2.length 2 (a0.f2.flatMap (e83 true)))]), (257, [(.sl true a1.f0.length 1 (a1.f0.flatMap encI)), (.sl true a1.f1.length 1 (a1.f1.flatMap encB)), (.sl true a1.f2.length 1 (a1.f2.flatMap encB))])]) [(.ag [(.sl true a0.f0.length 1 (a0.f0.flatMap encI)), (I a0.f1), (.sl true a0.f2.length 2 (a0.f2.flatMap (e83 true)))])] ⟨11, [(.ag [(.sl true a0.f0.length 1 (a0.f0.flatMap encI)), (I a0.f1), (.sl true a0.f2.length 2 (a0.f2.flatMap (e83 true)))])], [], (B x1), [], [], [], [], (B x1), []⟩, (B (!x1) : V) = B false, 3 = 3 ∧ 0 + 1 ≤ 3, 3 = 3 ∧ 0 + 1 ≤ 3, (B (!((a1.f0.length : Int) == (a0.f0.length : Int))) : V) = B false, 3 = 3 ∧ 1 + 1 ≤ 3, 3 = 3 ∧ 2 + 1 ≤ 3, (B (!((a1.f1.length : Int) == (a0.f2.length : Int))) : V) = B true], [⟨11, [(.ag [(.sl true a0.f0.length 1 (a0.f0.flatMap encI)), (I a0.f1), (.sl true a0.f2.length 2 (a0.f2.flatMap (e83 true)))])], [], (B x1), [], [], [], [], (B x1), []⟩]⟩ [c_ 13, c_ 7] (alc ⟨rfl, by decide⟩ (alc (cok0 false (a2c (.z (frz_ag (a2c (frz_sl encI_ok (fun h => h)) (a2c .s (a2c (frz_sl (e83_ok true) (fun h => h)) a2n))))) a2n) (.z .s) (fun h => absurd h (by decide))) (alc (bF (nF c1)) (alc ⟨rfl, by decide⟩ (alc ⟨rfl, by decide⟩ (alc (bF (nF (qT c2))) (alc ⟨rfl, by decide⟩ (alc ⟨rfl, by decide⟩ (alc (bT (nT (qF c3))) aln))))))))) (acal (spec_PlantOk.J k a0 _ hx1) nocal) ?_
        refine .cond' (.tmp 37) true [c_ 52, c_ 53, c_ 7] (rfl) ?_
        refine .reg' [4] [] ⟨[(4, (B false))], [(256, [(.sl true a0.f0.length 1 (a0.f0.flatMap encI)), (I a0.f1), (.sl true a0.f2.length 2 (a0.f2.flatMap (e83 true)))]), (257, [(.sl true a1.f0.length 1 (a1.f0.flatMap encI)), (.sl true a1.f1.length 1 (a1.f1.flatMap encB)), (.sl true a1.f2.length 1 (a1.f2.flatMap encB))])], [], []⟩ [c_ 53, c_ 7] aln nocal ?_
        have h := Option.some.inj h
        subst h
        exact .fin0 [] (B false) [] aln (.z .s)
    · rw [if_neg c2] at h
      refine .reg' [2, 3, 37] [.no, .c ⟨11, [(.ag [(.sl true a0.f0.length 1 (a0.f0.flatMap encI)), (I a0.f1), (.sl true a0.f2.length 2 (a0.f2.flatMap (e83 true)))])], [], (B x1), [], [], [], [], (B x1), []⟩, .no, .v (B false), .no, .no, .no, .no, .no, .no, .no, .no, .v (B true)] ⟨[(2, (.pt 256 0 3)), (3, (.pt 257 0 3)), (37, (B true))], [(256, [(.sl true a0.f0.length 1 (a0.f0.flatMap encI)), (I a0.f1), (.sl true a0.f2.length 2 (a0.f2.flatMap (e83 true)))]), (257, [(.sl true a1.f0.length 1 (a1.f0.flatMap encI)), (.sl true a1.f1.length 1 (a1.f1.flatMap encB)), (.sl true a1.f2.length 1 (a1.f2.flatMap encB))])], [3 = 3 ∧ 0 + 3 ≤ 3, COK (hget [(256, [(.sl true a0.f0.length 1 (a0.f0.flatMap encI)), (I a0.f1), (.sl true a0.f2.length 2 (a0.f2.flatMap (e83 true)))]), (257, [(.sl true a1.f0.length 1 (a1.f0.flatMap encI)), (.sl true a1.f1.length 1 (a1.f1.flatMap encB)), (.sl true a1.f2.length 1 (a1.f2.flatMap encB))])]) [(.ag [(.sl true a0.f0.length 1 (a0.f0.flatMap encI)), (I a0.f1), (.sl true a0.f2.length 2 (a0.f2.flatMap (e83 true)))])] ⟨11, [(.ag [(.sl true a0.f0.length 1 (a0.f0.flatMap encI)), (I a0.f1), (.sl true a0.f2.length 2 (a0.f2.flatMap (e83 true)))])], [], (B x1), [], [], [], [], (B x1), []⟩, (B (!x1) : V) = B false, 3 = 3 ∧ 0 + 1 ≤ 3, 3 = 3 ∧ 0 + 1 ≤ 3, (B (!((a1.f0.length : Int) == (a0.f0.length : Int))) : V) = B true], [⟨11, [(.ag [(.sl true a0.f0.length 1 (a0.f0.flatMap encI)), (I a0.f1), (.sl true a0.f2.length 2 (a0.f2.flatMap (e83 true)))])], [], (B x1), [], [], [], [], (B x1), []⟩]⟩ [c_ 13, c_ 7] (alc ⟨rfl, by decide⟩ (alc (cok0 false (a2c (.z (frz_ag (a2c (frz_sl encI_ok (fun h => h)) (a2c .s (a2c (frz_sl (e83_ok true) (fun h => h)) a2n))))) a2n) (.z .s) (fun h => absurd h (by decide))) (alc (bF (nF c1)) (alc ⟨rfl, by decide⟩ (alc ⟨rfl, by decide⟩ (alc (bT (nT (qF c2))) aln)))))) (acal (spec_PlantOk.J k a0 _ hx1) nocal) ?_
      refine .cond' (.tmp 37) true [c_ 52, c_ 53, c_ 7] (rfl) ?_
      refine .reg' [4] [] ⟨[(4, (B false))], [(256, [(.sl true a0.f0.length 1 (a0.f0.flatMap encI)), (I a0.f1), (.sl true a0.f2.length 2 (a0.f2.flatMap (e83 true)))]), (257, [(.sl true a1.f0.length 1 (a1.f0.flatMap encI)), (.sl true a1.f1.length 1 (a1.f1.flatMap encB)), (.sl true a1.f2.length 1 (a1.f2.flatMap encB))])], [], []⟩ [c_ 53, c_ 7] aln nocal ?_
      have h := Option.some.inj h
      subst h
      exact .fin0 [] (B false) [] aln (.z .s)
  · rw [if_neg c1] at h
    refine .reg' [2, 3, 37] [.no, .c ⟨11, [(.ag [(.sl true a0.f0.length 1 (a0.f0.flatMap encI)), (I a0.f1), (.sl true a0.f2.length 2 (a0.f2.flatMap (e83 true)))])], [], (B x1), [], [], [], [], (B x1), []⟩, .no, .v (B true)] ⟨[(2, (.pt 256 0 3)), (3, (.pt 257 0 3)), (37, (B true))], [(256, [(.sl true a0.f0.length 1 (a0.f0.flatMap encI)), (I a0.f1), (.sl true a0.f2.length 2 (a0.f2.flatMap (e83 true)))]), (257, [(.sl true a1.f0.length 1 (a1.f0.flatMap encI)), (.sl true a1.f1.length 1 (a1.f1.flatMap encB)), (.sl true a1.f2.length 1 (a1.f2.flatMap encB))])], [3 = 3 ∧ 0 + 3 ≤ 3, COK (hget [(256, [(.sl true a0.f0.length 1 (a0.f0.flatMap encI)), (I a0.f1), (.sl true a0.f2.length 2 (a0.f2.flatMap (e83 true)))]), (257, [(.sl true a1.f0.length 1 (a1.f0.flatMap encI)), (.sl true a1.f1.length 1 (a1.f1.flatMap encB)), (.sl true a1.f2.length 1 (a1.f2.flatMap encB))])]) [(.ag [(.sl true a0.f0.length 1 (a0.f0.flatMap encI)), (I a0.f1), (.sl true a0.f2.length 2 (a0.f2.flatMap (e83 true)))])] ⟨11, [(.ag [(.sl true a0.f0.length 1 (a0.f0.flatMap encI)), (I a0.f1), (.sl true a0.f2.length 2 (a0.f2.flatMap (e83 true)))])], [], (B x1), [], [], [], [], (B x1), []⟩, (B (!x1) : V) = B true], [⟨11, [(.ag [(.sl true a0.f0.length 1 (a0.f0.flatMap encI)), (I a0.f1), (.sl true a0.f2.length 2 (a0.f2.flatMap (e83 true)))])], [], (B x1), [], [], [], [], (B x1), []⟩]⟩ [c_ 13, c_ 7] (alc ⟨rfl, by decide⟩ (alc (cok0 false (a2c (.z (frz_ag (a2c (frz_sl encI_ok (fun h => h)) (a2c .s (a2c (frz_sl (e83_ok true) (fun h => h)) a2n))))) a2n) (.z .s) (fun h => absurd h (by decide))) (alc (bT (nT (vF c1))) aln))) (acal (spec_PlantOk.J k a0 _ hx1) nocal) ?_
    refine .cond' (.tmp 37) true [c_ 52, c_ 53, c_ 7] (rfl) ?_
    refine .reg' [4] [] ⟨[(4, (B false))], [(256, [(.sl true a0.f0.length 1 (a0.f0.flatMap encI)), (I a0.f1), (.sl true a0.f2.length 2 (a0.f2.flatMap (e83 true)))]), (257, [(.sl true a1.f0.length 1 (a1.f0.flatMap encI)), (.sl true a1.f1.length 1 (a1.f1.flatMap encB)), (.sl true a1.f2.length 1 (a1.f2.flatMap encB))])], [], []⟩ [c_ 53, c_ 7] aln nocal ?_
    have h := Option.some.inj h
    subst h
    exact .fin0 [] (B false) [] aln (.z .s)
/-! impl_between: function 57 -/
def impl_between.f (a0 : Int) (a1 : Int) (a2 : Int) : Option Bool := (if a0 ≥ a1 then (some (decide (a0 ≤ a2))) else (some false))
theorem impl_between.J (a0 : Int) (a1 : Int) (a2 : Int) (r : Bool) (h : impl_between.f a0 a1 a2 = some r) : J prog (.call 57 [(I a0), (I a1), (I a2)] [] (B r) []) := by
  unfold impl_between.f at h
  refine .call' [c_ 2, c_ 3] ?_
  refine .reg' [0, 1, 2] [] ⟨[(0, (I a0)), (1, (I a1)), (2, (I a2))], [], [], []⟩ [c_ 6, c_ 7] aln nocal ?_
  by_cases c1 : a0 ≥ a1
  · rw [if_pos c1] at h
    refine .reg' [6] [.no, .no, .no, .v (B true)] ⟨[(6, (B (decide (a0 ≤ a2))))], [], [(B (decide (a0 ≥ a1)) : V) = B true], []⟩ [c_ 7] (alc (bT (dT c1)) aln) nocal ?_
    have h := Option.some.inj h
    subst h
    exact .fin0 [] (B (decide (a0 ≤ a2))) [] aln (.z .s)
  · rw [if_neg c1] at h
    refine .reg' [6] [.no, .no, .no, .v (B false)] ⟨[(6, (B false))], [], [(B (decide (a0 ≥ a1)) : V) = B false], []⟩ [c_ 7] (alc (bF (dF c1)) aln) nocal ?_
    have h := Option.some.inj h
    subst h
    exact .fin0 [] (B false) [] aln (.z .s)
/-! impl_has: function 100 -/
def impl_has.l0 : Nat → (List Int) → Int → Int → Option Bool
 | 0, _, _, _ => none
 | k + 1, a0, a1, x1 => (if x1 < (a0.length : Int) then (if 0 ≤ x1 then (if (at_ a0 x1) = a1 then (some true) else (impl_has.l0 k a0 a1 (wrap64 (x1 + 1)))) else none) else (some false))
def impl_has.f (k : Nat) (a0 : (List Int)) (a1 : Int) : Option Bool := (impl_has.l0 k a0 a1 0)
theorem impl_has.lab : ∀ k, (∀ (a0 : (List Int)) (a1 : Int) (x1 : Int) (r : Bool), impl_has.l0 k a0 a1 x1 = some r → J prog (.run 100 [] [l_ 26, b_ 0, c_ 7] [(1, (I a1)), (7, (.sl true a0.length 1 (a0.flatMap encI))), (8, (I (a0.length : Int))), (9, (I x1))] [] (B r) []))
 | 0 => (by intro a0 a1 x1 r h; unfold impl_has.l0 at h; cases h)
 | k + 1 => by
  have ih := impl_has.lab k
  have ih0 := ih
  · intro a0 a1 x1 r h
    unfold impl_has.l0 at h
    refine .loop' [c_ 104, c_ 105, l_ 26, b_ 0, c_ 7] ?_
    refine .reg' [1, 7, 8, 9, 10] [] ⟨[(1, (I a1)), (7, (.sl true a0.length 1 (a0.flatMap encI))), (8, (I (a0.length : Int))), (9, (I x1)), (10, (B (decide (x1 < (a0.length : Int)))))], [], [], []⟩ [c_ 210, c_ 211, l_ 26, b_ 0, c_ 7] aln nocal ?_
    by_cases c1 : x1 < (a0.length : Int)
    · rw [if_pos c1] at h
      refine .cond' (.tmp 10) true [c_ 1688, c_ 1689, b_ 1, c_ 423, l_ 26, b_ 0, c_ 7] (bT (dT c1)) ?_
      by_cases c2 : 0 ≤ x1
      · rw [if_pos c2] at h
        refine .reg' [1, 6, 7, 8, 9] [.no, .v (I (at_ a0 x1))] ⟨[(1, (I a1)), (6, (I (at_ a0 x1))), (7, (.sl true a0.length 1 (a0.flatMap encI))), (8, (I (a0.length : Int))), (9, (I x1))], [], [(0 : Int) ≤ x1 ∧ x1 < (a0.length : Int), rdC prog 3 ((a0.flatMap encI).drop (x1.toNat * 1)) = (I (at_ a0 x1)), 1 ≤ ((a0.flatMap encI).drop (x1.toNat * 1)).length], []⟩ [c_ 3378, c_ 3379, b_ 1, c_ 423, l_ 26, b_ 0, c_ 7] (alc ⟨c2, c1⟩ (alc (ldC1 encI_ok rfl c2 c1) (alc (okI encI_ok c2 c1 (by decide)) aln))) nocal ?_
        refine .reg' [1, 7, 8, 9, 15] [] ⟨[(1, (I a1)), (7, (.sl true a0.length 1 (a0.flatMap encI))), (8, (I (a0.length : Int))), (9, (I x1)), (15, (B ((at_ a0 x1) == a1)))], [], [], []⟩ [c_ 3379, b_ 1, c_ 423, l_ 26, b_ 0, c_ 7] aln nocal ?_
        by_cases c3 : (at_ a0 x1) = a1
        · rw [if_pos c3] at h
          refine .cond' (.tmp 15) true [c_ 13516, c_ 13517, b_ 1, c_ 423, l_ 26, b_ 0, c_ 7] (bT (qT c3)) ?_
          refine .reg' [4] [] ⟨[(4, (B true))], [], [], []⟩ [c_ 13517, b_ 1, c_ 423, l_ 26, b_ 0, c_ 7] aln nocal ?_
          have h := Option.some.inj h
          subst h
          exact .fin0 [] (B true) [] aln (.z .s)
        · rw [if_neg c3] at h
          refine .cond' (.tmp 15) false [c_ 423, l_ 26, b_ 0, c_ 7] (bF (qF c3)) ?_
          refine .reg' [1, 7, 8, 9] [] ⟨[(1, (I a1)), (7, (.sl true a0.length 1 (a0.flatMap encI))), (8, (I (a0.length : Int))), (9, (I (wrap64 (x1 + 1))))], [], [], []⟩ [l_ 26, b_ 0, c_ 7] aln nocal ?_
          exact ih0 a0 a1 (wrap64 (x1 + 1)) _ h
      · rw [if_neg c2] at h
        cases h
    · rw [if_neg c1] at h
      refine .cond' (.tmp 10) false [c_ 14, c_ 15] (bF (dF c1)) ?_
      refine .reg' [4] [] ⟨[(4, (B false))], [], [], []⟩ [c_ 15] aln nocal ?_
      have h := Option.some.inj h
      subst h
      exact .fin0 [] (B false) [] aln (.z .s)
theorem impl_has.J (k : Nat) (a0 : (List Int)) (a1 : Int) (r : Bool) (h : impl_has.f k a0 a1 = some r) : J prog (.call 100 [(.sl true a0.length 1 (a0.flatMap encI)), (I a1)] [] (B r) []) := by
  unfold impl_has.f at h
  have ih0 := impl_has.lab k
  refine .call' [c_ 2, c_ 3] ?_
  refine .reg' [0, 1] [] ⟨[(0, (.sl true a0.length 1 (a0.flatMap encI))), (1, (I a1))], [], [], []⟩ [c_ 12, c_ 13, c_ 7] aln nocal ?_
  refine .reg' [1, 7, 8, 9] [] ⟨[(1, (I a1)), (7, (.sl true a0.length 1 (a0.flatMap encI))), (8, (I (a0.length : Int))), (9, (I 0))], [], [], []⟩ [l_ 26, b_ 0, c_ 7] aln nocal ?_
  exact ih0 a0 a1 0 _ h
/-! impl_routeOk: function 58 -/
mutual
def impl_routeOk.l0 : Nat → S29 → S83 → Int → Option Bool
 | 0, _, _, _ => none
 | k + 1, a0, a1, x1 => (if x1 < (a1.f0.length : Int) then (if 0 ≤ x1 then ((impl_between.f ((at_ a1.f0 x1).f0) 0 (wrap64 ((a0.f0.length : Int) - 1))).bind fun x2 => (if x2 = true then ((impl_between.f ((at_ a1.f0 x1).f1) 0 1).bind fun x3 => (if x3 = true then (if x1 > 0 then (if 0 ≤ (wrap64 (x1 - 1)) then (if (wrap64 (x1 - 1)) < (a1.f0.length : Int) then (if (at_ a1.f0 (wrap64 (x1 - 1))).f0 ≥ (at_ a1.f0 x1).f0 then (some false) else (impl_routeOk.l0 k a0 a1 (wrap64 (x1 + 1)))) else none) else none) else (impl_routeOk.l0 k a0 a1 (wrap64 (x1 + 1)))) else (some false))) else (some false))) else none) else (if (a1.f1.length : Int) < 1 then (some false) else (if (a1.f1.length : Int) > a0.f1 then (some false) else (impl_routeOk.l1 k a0 a1 0))))
def impl_routeOk.l1 : Nat → S29 → S83 → Int → Option Bool
 | 0, _, _, _ => none
 | k + 1, a0, a1, x4 => (if x4 < (a1.f1.length : Int) then (if 0 ≤ x4 then ((impl_between.f (at_ a1.f1 x4) 0 (wrap64 (a0.f1 - 1))).bind fun x5 => (if x5 = true then (if x4 ≤ (a1.f1.length : Int) then ((impl_has.f k ((a1.f1.drop (0 : Int).toNat).take (x4.toNat - (0 : Int).toNat)) (at_ a1.f1 x4)).bind fun x6 => (if x6 = true then (some false) else (impl_routeOk.l1 k a0 a1 (wrap64 (x4 + 1))))) else none) else (some false))) else none) else (some true))
end
def impl_routeOk.f (k : Nat) (a0 : S29) (a1 : S83) : Option Bool := (impl_routeOk.l0 k a0 a1 0)
theorem impl_routeOk.lab : ∀ k, (∀ (a0 : S29) (a1 : S83) (x1 : Int) (r : Bool), impl_routeOk.l0 k a0 a1 x1 = some r → J prog (.run 58 [] [l_ 26, b_ 0, c_ 7] [(2, (.pt 256 0 3)), (3, (.pt 257 0 2)), (10, (.sl true a1.f0.length 2 (a1.f0.flatMap e93))), (11, (I (a1.f0.length : Int))), (12, (I x1))] [(256, [(.sl true a0.f0.length 1 (a0.f0.flatMap encI)), (I a0.f1), (.sl true a0.f2.length 2 (a0.f2.flatMap (e83 true)))]), (257, [(.sl true a1.f0.length 2 (a1.f0.flatMap e93)), (.sl true a1.f1.length 1 (a1.f1.flatMap encI))])] (B r) [])) ∧ (∀ (a0 : S29) (a1 : S83) (x4 : Int) (r : Bool), impl_routeOk.l1 k a0 a1 x4 = some r → J prog (.run 58 [] [l_ 122, b_ 2, c_ 31] [(2, (.pt 256 0 3)), (3, (.pt 257 0 2)), (61, (.sl true a1.f1.length 1 (a1.f1.flatMap encI))), (62, (I (a1.f1.length : Int))), (63, (I x4))] [(256, [(.sl true a0.f0.length 1 (a0.f0.flatMap encI)), (I a0.f1), (.sl true a0.f2.length 2 (a0.f2.flatMap (e83 true)))]), (257, [(.sl true a1.f0.length 2 (a1.f0.flatMap e93)), (.sl true a1.f1.length 1 (a1.f1.flatMap encI))])] (B r) []))
 | 0 => ⟨(by intro a0 a1 x1 r h; unfold impl_routeOk.l0 at h; cases h), (by intro a0 a1 x4 r h; unfold impl_routeOk.l1 at h; cases h)⟩
 | k + 1 => by
  obtain ⟨ih0, ih1⟩ := impl_routeOk.lab k
  refine ⟨?_, ?_⟩
  · intro a0 a1 x1 r h
    unfold impl_routeOk.l0 at h
    refine .loop' [c_ 104, c_ 105, l_ 26, b_ 0, c_ 7] ?_
    refine .reg' [2, 3, 10, 11, 12, 13] [] ⟨[(2, (.pt 256 0 3)), (3, (.pt 257 0 2)), (10, (.sl true a1.f0.length 2 (a1.f0.flatMap e93))), (11, (I (a1.f0.length : Int))), (12, (I x1)), (13, (B (decide (x1 < (a1.f0.length : Int)))))], [(256, [(.sl true a0.f0.length 1 (a0.f0.flatMap encI)), (I a0.f1), (.sl true a0.f2.length 2 (a0.f2.flatMap (e83 true)))]), (257, [(.sl true a1.f0.length 2 (a1.f0.flatMap e93)), (.sl true a1.f1.length 1 (a1.f1.flatMap encI))])], [], []⟩ [c_ 210, c_ 211, l_ 26, b_ 0, c_ 7] aln nocal ?_
    by_cases c1 : x1 < (a1.f0.length : Int)
    · rw [if_pos c1] at h
      refine .cond' (.tmp 13) true [c_ 1688, c_ 1689, b_ 1, c_ 423, l_ 26, b_ 0, c_ 7] (bT (dT c1)) ?_
      by_cases c2 : 0 ≤ x1
      · rw [if_pos c2] at h
        refine .reg' [2, 3, 5, 6, 10, 11, 12] [.no, .no, .v (.ag [(I (at_ a1.f0 x1).f0), (I (at_ a1.f0 x1).f1)])] ⟨[(2, (.pt 256 0 3)), (3, (.pt 257 0 2)), (5, (I x1)), (6, (.pt 1027 0 2)), (10, (.sl true a1.f0.length 2 (a1.f0.flatMap e93))), (11, (I (a1.f0.length : Int))), (12, (I x1))], [(256, [(.sl true a0.f0.length 1 (a0.f0.flatMap encI)), (I a0.f1), (.sl true a0.f2.length 2 (a0.f2.flatMap (e83 true)))]), (257, [(.sl true a1.f0.length 2 (a1.f0.flatMap e93)), (.sl true a1.f1.length 1 (a1.f1.flatMap encI))]), (1027, [(I (at_ a1.f0 x1).f0), (I (at_ a1.f0 x1).f1)])], [(0 : Int) ≤ x1 ∧ x1 < (a1.f0.length : Int), rdC prog 94 ((a1.f0.flatMap e93).drop (x1.toNat * 2)) = (.ag [(I (at_ a1.f0 x1).f0), (I (at_ a1.f0 x1).f1)]), 2 ≤ ((a1.f0.flatMap e93).drop (x1.toNat * 2)).length, 2 = 2 ∧ 0 + 2 ≤ 2], []⟩ [c_ 3378, c_ 3379, b_ 1, c_ 423, l_ 26, b_ 0, c_ 7] (alc ⟨c2, c1⟩ (alc (ldA e93_ok rfl rfl c2 c1) (alc (okI e93_ok c2 c1 (by decide)) (alc ⟨rfl, by decide⟩ aln)))) nocal ?_
        obtain ⟨x2, hx2, h⟩ := Option.bind_eq_some_iff.mp h
        by_cases c3 : x2 = true
        · rw [if_pos c3] at h
          obtain ⟨x3, hx3, h⟩ := Option.bind_eq_some_iff.mp h
          by_cases c4 : x3 = true
          · rw [if_pos c4] at h
            by_cases c5 : x1 > 0
            · rw [if_pos c5] at h
              by_cases c6 : 0 ≤ (wrap64 (x1 - 1))
              · rw [if_pos c6] at h
                by_cases c7 : (wrap64 (x1 - 1)) < (a1.f0.length : Int)
                · rw [if_pos c7] at h
                  refine .reg' [2, 3, 10, 11, 12, 46] [.no, .no, .no, .no, .no, .no, .c ⟨57, [(I (at_ a1.f0 x1).f0), (I 0), (I (wrap64 ((a0.f0.length : Int) - 1)))], [], (B x2), [], [], [], [], (B x2), []⟩, .no, .v (B false), .no, .no, .c ⟨57, [(I (at_ a1.f0 x1).f1), (I 0), (I 1)], [], (B x3), [], [], [], [], (B x3), []⟩, .no, .no, .v (B false), .no, .no, .v (B true), .no, .no, .no, .no, .no, .no, .v (I (at_ a1.f0 (wrap64 (x1 - 1))).f0)] ⟨[(2, (.pt 256 0 3)), (3, (.pt 257 0 2)), (10, (.sl true a1.f0.length 2 (a1.f0.flatMap e93))), (11, (I (a1.f0.length : Int))), (12, (I x1)), (46, (B (decide ((at_ a1.f0 (wrap64 (x1 - 1))).f0 ≥ (at_ a1.f0 x1).f0))))], [(256, [(.sl true a0.f0.length 1 (a0.f0.flatMap encI)), (I a0.f1), (.sl true a0.f2.length 2 (a0.f2.flatMap (e83 true)))]), (257, [(.sl true a1.f0.length 2 (a1.f0.flatMap e93)), (.sl true a1.f1.length 1 (a1.f1.flatMap encI))]), (1027, [(I (at_ a1.f0 x1).f0), (I (at_ a1.f0 x1).f1)])], [2 = 2 ∧ 0 + 1 ≤ 2, 3 = 3 ∧ 0 + 1 ≤ 3, COK (hget [(256, [(.sl true a0.f0.length 1 (a0.f0.flatMap encI)), (I a0.f1), (.sl true a0.f2.length 2 (a0.f2.flatMap (e83 true)))]), (257, [(.sl true a1.f0.length 2 (a1.f0.flatMap e93)), (.sl true a1.f1.length 1 (a1.f1.flatMap encI))]), (1027, [(I (at_ a1.f0 x1).f0), (I (at_ a1.f0 x1).f1)])]) [(I (at_ a1.f0 x1).f0), (I 0), (I (wrap64 ((a0.f0.length : Int) - 1)))] ⟨57, [(I (at_ a1.f0 x1).f0), (I 0), (I (wrap64 ((a0.f0.length : Int) - 1)))], [], (B x2), [], [], [], [], (B x2), []⟩, (B (!x2) : V) = B false, 2 = 2 ∧ 1 + 1 ≤ 2, COK (hget [(256, [(.sl true a0.f0.length 1 (a0.f0.flatMap encI)), (I a0.f1), (.sl true a0.f2.length 2 (a0.f2.flatMap (e83 true)))]), (257, [(.sl true a1.f0.length 2 (a1.f0.flatMap e93)), (.sl true a1.f1.length 1 (a1.f1.flatMap encI))]), (1027, [(I (at_ a1.f0 x1).f0), (I (at_ a1.f0 x1).f1)])]) [(I (at_ a1.f0 x1).f1), (I 0), (I 1)] ⟨57, [(I (at_ a1.f0 x1).f1), (I 0), (I 1)], [], (B x3), [], [], [], [], (B x3), []⟩, (B (!x3) : V) = B false, (B (decide (x1 > 0)) : V) = B true, 2 = 2 ∧ 0 + 1 ≤ 2, (0 : Int) ≤ (wrap64 (x1 - 1)) ∧ (wrap64 (x1 - 1)) < (a1.f0.length : Int), rdC prog 3 (((a1.f0.flatMap e93).drop ((wrap64 (x1 - 1)).toNat * 2)).drop 0) = (I (at_ a1.f0 (wrap64 (x1 - 1))).f0), 1 ≤ (((a1.f0.flatMap e93).drop ((wrap64 (x1 - 1)).toNat * 2)).drop 0).length, 2 = 2 ∧ 0 + 1 ≤ 2], [⟨57, [(I (at_ a1.f0 x1).f0), (I 0), (I (wrap64 ((a0.f0.length : Int) - 1)))], [], (B x2), [], [], [], [], (B x2), []⟩, ⟨57, [(I (at_ a1.f0 x1).f1), (I 0), (I 1)], [], (B x3), [], [], [], [], (B x3), []⟩]⟩ [c_ 3379, b_ 1, c_ 423, l_ 26, b_ 0, c_ 7] (alc ⟨rfl, by decide⟩ (alc ⟨rfl, by decide⟩ (alc (cok0 false (a2c (.z .s) (a2c (.z .s) (a2c (.z .s) a2n))) (.z .s) (fun h => absurd h (by decide))) (alc (bF (nF c3)) (alc ⟨rfl, by decide⟩ (alc (cok0 false (a2c (.z .s) (a2c (.z .s) (a2c (.z .s) a2n))) (.z .s) (fun h => absurd h (by decide))) (alc (bF (nF c4)) (alc (bT (dT c5)) (alc ⟨rfl, by decide⟩ (alc ⟨c6, c7⟩ (alc (ldC e93_ok 0 (by decide) rfl c6 c7) (alc (okIj e93_ok c6 c7 (by decide)) (alc ⟨rfl, by decide⟩ aln))))))))))))) (acal (impl_between.J ((at_ a1.f0 x1).f0) 0 (wrap64 ((a0.f0.length : Int) - 1)) _ hx2) (acal (impl_between.J ((at_ a1.f0 x1).f1) 0 1 _ hx3) nocal)) ?_
                  by_cases c8 : (at_ a1.f0 (wrap64 (x1 - 1))).f0 ≥ (at_ a1.f0 x1).f0
                  · rw [if_pos c8] at h
                    refine .cond' (.tmp 46) true [c_ 13516, c_ 13517, b_ 1, c_ 423, l_ 26, b_ 0, c_ 7] (bT (dT c8)) ?_
                    refine .reg' [4] [] ⟨[(4, (B false))], [(256, [(.sl true a0.f0.length 1 (a0.f0.flatMap encI)), (I a0.f1), (.sl true a0.f2.length 2 (a0.f2.flatMap (e83 true)))]), (257, [(.sl true a1.f0.length 2 (a1.f0.flatMap e93)), (.sl true a1.f1.length 1 (a1.f1.flatMap encI))]), (1027, [(I (at_ a1.f0 x1).f0), (I (at_ a1.f0 x1).f1)])], [], []⟩ [c_ 13517, b_ 1, c_ 423, l_ 26, b_ 0, c_ 7] aln nocal ?_
                    have h := Option.some.inj h
                    subst h
                    exact .fin0 [] (B false) [] aln (.z .s)
                  · rw [if_neg c8] at h
                    refine .cond' (.tmp 46) false [c_ 423, l_ 26, b_ 0, c_ 7] (bF (dF c8)) ?_
                    refine .reg' [2, 3, 10, 11, 12] [] ⟨[(2, (.pt 256 0 3)), (3, (.pt 257 0 2)), (10, (.sl true a1.f0.length 2 (a1.f0.flatMap e93))), (11, (I (a1.f0.length : Int))), (12, (I (wrap64 (x1 + 1))))], [(256, [(.sl true a0.f0.length 1 (a0.f0.flatMap encI)), (I a0.f1), (.sl true a0.f2.length 2 (a0.f2.flatMap (e83 true)))]), (257, [(.sl true a1.f0.length 2 (a1.f0.flatMap e93)), (.sl true a1.f1.length 1 (a1.f1.flatMap encI))]), (1027, [(I (at_ a1.f0 x1).f0), (I (at_ a1.f0 x1).f1)])], [], []⟩ [l_ 26, b_ 0, c_ 7] aln nocal ?_
                    refine .wk' [] [(256, 256), (257, 257)] [(2, (.pt 256 0 3)), (3, (.pt 257 0 2)), (10, (.sl true a1.f0.length 2 (a1.f0.flatMap e93))), (11, (I (a1.f0.length : Int))), (12, (I (wrap64 (x1 + 1))))] [(256, [(.sl true a0.f0.length 1 (a0.f0.flatMap encI)), (I a0.f1), (.sl true a0.f2.length 2 (a0.f2.flatMap (e83 true)))]), (257, [(.sl true a1.f0.length 2 (a1.f0.flatMap e93)), (.sl true a1.f1.length 1 (a1.f1.flatMap encI))])] (shc 256 (a2c (.z (frz_sl encI_ok (fun h => h))) (a2c (.z .s) (a2c (.z (frz_sl (e83_ok true) (fun h => h))) a2n))) (shc 257 (a2c (.z (frz_sl e93_ok (fun h => h))) (a2c (.z (frz_sl encI_ok (fun h => h))) a2n)) shn)) (enc_ (.pt (memP_mem (p := (256, 256)) rfl)) (enc_ (.pt (memP_mem (p := (257, 257)) rfl)) (enc_ (.z (frz_sl e93_ok (fun h => h))) (enc_ (.z .s) (enc_ (.z .s) enn))))) ?_
                    exact ih0 a0 a1 (wrap64 (x1 + 1)) _ h
                · rw [if_neg c7] at h
                  cases h
              · rw [if_neg c6] at h
                cases h
            · rw [if_neg c5] at h
              refine .reg' [2, 3, 10, 11, 12, 46] [.no, .no, .no, .no, .no, .no, .c ⟨57, [(I (at_ a1.f0 x1).f0), (I 0), (I (wrap64 ((a0.f0.length : Int) - 1)))], [], (B x2), [], [], [], [], (B x2), []⟩, .no, .v (B false), .no, .no, .c ⟨57, [(I (at_ a1.f0 x1).f1), (I 0), (I 1)], [], (B x3), [], [], [], [], (B x3), []⟩, .no, .no, .v (B false), .no, .no, .v (B false)] ⟨[(2, (.pt 256 0 3)), (3, (.pt 257 0 2)), (10, (.sl true a1.f0.length 2 (a1.f0.flatMap e93))), (11, (I (a1.f0.length : Int))), (12, (I x1)), (46, (B false))], [(256, [(.sl true a0.f0.length 1 (a0.f0.flatMap encI)), (I a0.f1), (.sl true a0.f2.length 2 (a0.f2.flatMap (e83 true)))]), (257, [(.sl true a1.f0.length 2 (a1.f0.flatMap e93)), (.sl true a1.f1.length 1 (a1.f1.flatMap encI))]), (1027, [(I (at_ a1.f0 x1).f0), (I (at_ a1.f0 x1).f1)])], [2 = 2 ∧ 0 + 1 ≤ 2, 3 = 3 ∧ 0 + 1 ≤ 3, COK (hget [(256, [(.sl true a0.f0.length 1 (a0.f0.flatMap encI)), (I a0.f1), (.sl true a0.f2.length 2 (a0.f2.flatMap (e83 true)))]), (257, [(.sl true a1.f0.length 2 (a1.f0.flatMap e93)), (.sl true a1.f1.length 1 (a1.f1.flatMap encI))]), (1027, [(I (at_ a1.f0 x1).f0), (I (at_ a1.f0 x1).f1)])]) [(I (at_ a1.f0 x1).f0), (I 0), (I (wrap64 ((a0.f0.length : Int) - 1)))] ⟨57, [(I (at_ a1.f0 x1).f0), (I 0), (I (wrap64 ((a0.f0.length : Int) - 1)))], [], (B x2), [], [], [], [], (B x2), []⟩, (B (!x2) : V) = B false, 2 = 2 ∧ 1 + 1 ≤ 2, COK (hget [(256, [(.sl true a0.f0.length 1 (a0.f0.flatMap encI)), (I a0.f1), (.sl true a0.f2.length 2 (a0.f2.flatMap (e83 true)))]), (257, [(.sl true a1.f0.length 2 (a1.f0.flatMap e93)), (.sl true a1.f1.length 1 (a1.f1.flatMap encI))]), (1027, [(I (at_ a1.f0 x1).f0), (I (at_ a1.f0 x1).f1)])]) [(I (at_ a1.f0 x1).f1), (I 0), (I 1)] ⟨57, [(I (at_ a1.f0 x1).f1), (I 0), (I 1)], [], (B x3), [], [], [], [], (B x3), []⟩, (B (!x3) : V) = B false, (B (decide (x1 > 0)) : V) = B false], [⟨57, [(I (at_ a1.f0 x1).f0), (I 0), (I (wrap64 ((a0.f0.length : Int) - 1)))], [], (B x2), [], [], [], [], (B x2), []⟩, ⟨57, [(I (at_ a1.f0 x1).f1), (I 0), (I 1)], [], (B x3), [], [], [], [], (B x3), []⟩]⟩ [c_ 3379, b_ 1, c_ 423, l_ 26, b_ 0, c_ 7] (alc ⟨rfl, by decide⟩ (alc ⟨rfl, by decide⟩ (alc (cok0 false (a2c (.z .s) (a2c (.z .s) (a2c (.z .s) a2n))) (.z .s) (fun h => absurd h (by decide))) (alc (bF (nF c3)) (alc ⟨rfl, by decide⟩ (alc (cok0 false (a2c (.z .s) (a2c (.z .s) (a2c (.z .s) a2n))) (.z .s) (fun h => absurd h (by decide))) (alc (bF (nF c4)) (alc (bF (dF c5)) aln)))))))) (acal (impl_between.J ((at_ a1.f0 x1).f0) 0 (wrap64 ((a0.f0.length : Int) - 1)) _ hx2) (acal (impl_between.J ((at_ a1.f0 x1).f1) 0 1 _ hx3) nocal)) ?_
              refine .cond' (.tmp 46) false [c_ 423, l_ 26, b_ 0, c_ 7] (rfl) ?_
              refine .reg' [2, 3, 10, 11, 12] [] ⟨[(2, (.pt 256 0 3)), (3, (.pt 257 0 2)), (10, (.sl true a1.f0.length 2 (a1.f0.flatMap e93))), (11, (I (a1.f0.length : Int))), (12, (I (wrap64 (x1 + 1))))], [(256, [(.sl true a0.f0.length 1 (a0.f0.flatMap encI)), (I a0.f1), (.sl true a0.f2.length 2 (a0.f2.flatMap (e83 true)))]), (257, [(.sl true a1.f0.length 2 (a1.f0.flatMap e93)), (.sl true a1.f1.length 1 (a1.f1.flatMap encI))]), (1027, [(I (at_ a1.f0 x1).f0), (I (at_ a1.f0 x1).f1)])], [], []⟩ [l_ 26, b_ 0, c_ 7] aln nocal ?_
              refine .wk' [] [(256, 256), (257, 257)] [(2, (.pt 256 0 3)), (3, (.pt 257 0 2)), (10, (.sl true a1.f0.length 2 (a1.f0.flatMap e93))), (11, (I (a1.f0.length : Int))), (12, (I (wrap64 (x1 + 1))))] [(256, [(.sl true a0.f0.length 1 (a0.f0.flatMap encI)), (I a0.f1), (.sl true a0.f2.length 2 (a0.f2.flatMap (e83 true)))]), (257, [(.sl true a1.f0.length 2 (a1.f0.flatMap e93)), (.sl true a1.f1.length 1 (a1.f1.flatMap encI))])] (shc 256 (a2c (.z (frz_sl encI_ok (fun h => h))) (a2c (.z .s) (a2c (.z (frz_sl (e83_ok true) (fun h => h))) a2n))) (shc 257 (a2c (.z (frz_sl e93_ok (fun h => h))) (a2c (.z (frz_sl encI_ok (fun h => h))) a2n)) shn)) (enc_ (.pt (memP_mem (p := (256, 256)) rfl)) (enc_ (.pt (memP_mem (p := (257, 257)) rfl)) (enc_ (.z (frz_sl e93_ok (fun h => h))) (enc_ (.z .s) (enc_ (.z .s) enn))))) ?_
              exact ih0 a0 a1 (wrap64 (x1 + 1)) _ h
          · rw [if_neg c4] at h
            refine .reg' [2, 3, 10, 11, 12, 46] [.no, .no, .no, .no, .no, .no, .c ⟨57, [(I (at_ a1.f0 x1).f0), (I 0), (I (wrap64 ((a0.f0.length : Int) - 1)))], [], (B x2), [], [], [], [], (B x2), []⟩, .no, .v (B false), .no, .no, .c ⟨57, [(I (at_ a1.f0 x1).f1), (I 0), (I 1)], [], (B x3), [], [], [], [], (B x3), []⟩, .no, .no, .v (B true)] ⟨[(2, (.pt 256 0 3)), (3, (.pt 257 0 2)), (10, (.sl true a1.f0.length 2 (a1.f0.flatMap e93))), (11, (I (a1.f0.length : Int))), (12, (I x1)), (46, (B true))], [(256, [(.sl true a0.f0.length 1 (a0.f0.flatMap encI)), (I a0.f1), (.sl true a0.f2.length 2 (a0.f2.flatMap (e83 true)))]), (257, [(.sl true a1.f0.length 2 (a1.f0.flatMap e93)), (.sl true a1.f1.length 1 (a1.f1.flatMap encI))]), (1027, [(I (at_ a1.f0 x1).f0), (I (at_ a1.f0 x1).f1)])], [2 = 2 ∧ 0 + 1 ≤ 2, 3 = 3 ∧ 0 + 1 ≤ 3, COK (hget [(256, [(.sl true a0.f0.length 1 (a0.f0.flatMap encI)), (I a0.f1), (.sl true a0.f2.length 2 (a0.f2.flatMap (e83 true)))]), (257, [(.sl true a1.f0.length 2 (a1.f0.flatMap e93)), (.sl true a1.f1.length 1 (a1.f1.flatMap encI))]), (1027, [(I (at_ a1.f0 x1).f0), (I (at_ a1.f0 x1).f1)])]) [(I (at_ a1.f0 x1).f0), (I 0), (I (wrap64 ((a0.f0.length : Int) - 1)))] ⟨57, [(I (at_ a1.f0 x1).f0), (I 0), (I (wrap64 ((a0.f0.length : Int) - 1)))], [], (B x2), [], [], [], [], (B x2), []⟩, (B (!x2) : V) = B false, 2 = 2 ∧ 1 + 1 ≤ 2, COK (hget [(256, [(.sl true a0.f0.length 1 (a0.f0.flatMap encI)), (I a0.f1), (.sl true a0.f2.length 2 (a0.f2.flatMap (e83 true)))]), (257, [(.sl true a1.f0.length 2 (a1.f0.flatMap e93)), (.sl true a1.f1.length 1 (a1.f1.flatMap encI))]), (1027, [(I (at_ a1.f0 x1).f0), (I (at_ a1.f0 x1).f1)])]) [(I (at_ a1.f0 x1).f1), (I 0), (I 1)] ⟨57, [(I (at_ a1.f0 x1).f1), (I 0), (I 1)], [], (B x3), [], [], [], [], (B x3), []⟩, (B (!x3) : V) = B true], [⟨57, [(I (at_ a1.f0 x1).f0), (I 0), (I (wrap64 ((a0.f0.length : Int) - 1)))], [], (B x2), [], [], [], [], (B x2), []⟩, ⟨57, [(I (at_ a1.f0 x1).f1), (I 0), (I 1)], [], (B x3), [], [], [], [], (B x3), []⟩]⟩ [c_ 3379, b_ 1, c_ 423, l_ 26, b_ 0, c_ 7] (alc ⟨rfl, by decide⟩ (alc ⟨rfl, by decide⟩ (alc (cok0 false (a2c (.z .s) (a2c (.z .s) (a2c (.z .s) a2n))) (.z .s) (fun h => absurd h (by decide))) (alc (bF (nF c3)) (alc ⟨rfl, by decide⟩ (alc (cok0 false (a2c (.z .s) (a2c (.z .s) (a2c (.z .s) a2n))) (.z .s) (fun h => absurd h (by decide))) (alc (bT (nT (vF c4))) aln))))))) (acal (impl_between.J ((at_ a1.f0 x1).f0) 0 (wrap64 ((a0.f0.length : Int) - 1)) _ hx2) (acal (impl_between.J ((at_ a1.f0 x1).f1) 0 1 _ hx3) nocal)) ?_
            refine .cond' (.tmp 46) true [c_ 13516, c_ 13517, b_ 1, c_ 423, l_ 26, b_ 0, c_ 7] (rfl) ?_
            refine .reg' [4] [] ⟨[(4, (B false))], [(256, [(.sl true a0.f0.length 1 (a0.f0.flatMap encI)), (I a0.f1), (.sl true a0.f2.length 2 (a0.f2.flatMap (e83 true)))]), (257, [(.sl true a1.f0.length 2 (a1.f0.flatMap e93)), (.sl true a1.f1.length 1 (a1.f1.flatMap encI))]), (1027, [(I (at_ a1.f0 x1).f0), (I (at_ a1.f0 x1).f1)])], [], []⟩ [c_ 13517, b_ 1, c_ 423, l_ 26, b_ 0, c_ 7] aln nocal ?_
            have h := Option.some.inj h
            subst h
            exact .fin0 [] (B false) [] aln (.z .s)
        · rw [if_neg c3] at h
          refine .reg' [2, 3, 10, 11, 12, 46] [.no, .no, .no, .no, .no, .no, .c ⟨57, [(I (at_ a1.f0 x1).f0), (I 0), (I (wrap64 ((a0.f0.length : Int) - 1)))], [], (B x2), [], [], [], [], (B x2), []⟩, .no, .v (B true)] ⟨[(2, (.pt 256 0 3)), (3, (.pt 257 0 2)), (10, (.sl true a1.f0.length 2 (a1.f0.flatMap e93))), (11, (I (a1.f0.length : Int))), (12, (I x1)), (46, (B true))], [(256, [(.sl true a0.f0.length 1 (a0.f0.flatMap encI)), (I a0.f1), (.sl true a0.f2.length 2 (a0.f2.flatMap (e83 true)))]), (257, [(.sl true a1.f0.length 2 (a1.f0.flatMap e93)), (.sl true a1.f1.length 1 (a1.f1.flatMap encI))]), (1027, [(I (at_ a1.f0 x1).f0), (I (at_ a1.f0 x1).f1)])], [2 = 2 ∧ 0 + 1 ≤ 2, 3 = 3 ∧ 0 + 1 ≤ 3, COK (hget [(256, [(.sl true a0.f0.length 1 (a0.f0.flatMap encI)), (I a0.f1), (.sl true a0.f2.length 2 (a0.f2.flatMap (e83 true)))]), (257, [(.sl true a1.f0.length 2 (a1.f0.flatMap e93)), (.sl true a1.f1.length 1 (a1.f1.flatMap encI))]), (1027, [(I (at_ a1.f0 x1).f0), (I (at_ a1.f0 x1).f1)])]) [(I (at_ a1.f0 x1).f0), (I 0), (I (wrap64 ((a0.f0.length : Int) - 1)))] ⟨57, [(I (at_ a1.f0 x1).f0), (I 0), (I (wrap64 ((a0.f0.length : Int) - 1)))], [], (B x2), [], [], [], [], (B x2), []⟩, (B (!x2) : V) = B true], [⟨57, [(I (at_ a1.f0 x1).f0), (I 0), (I (wrap64 ((a0.f0.length : Int) - 1)))], [], (B x2), [], [], [], [], (B x2), []⟩]⟩ [c_ 3379, b_ 1, c_ 423, l_ 26, b_ 0, c_ 7] (alc ⟨rfl, by decide⟩ (alc ⟨rfl, by decide⟩ (alc (cok0 false (a2c (.z .s) (a2c (.z .s) (a2c (.z .s) a2n))) (.z .s) (fun h => absurd h (by decide))) (alc (bT (nT (vF c3))) aln)))) (acal (impl_between.J ((at_ a1.f0 x1).f0) 0 (wrap64 ((a0.f0.length : Int) - 1)) _ hx2) nocal) ?_
          refine .cond' (.tmp 46) true [c_ 13516, c_ 13517, b_ 1, c_ 423, l_ 26, b_ 0, c_ 7] (rfl) ?_
          refine .reg' [4] [] ⟨[(4, (B false))], [(256, [(.sl true a0.f0.length 1 (a0.f0.flatMap encI)), (I a0.f1), (.sl true a0.f2.length 2 (a0.f2.flatMap (e83 true)))]), (257, [(.sl true a1.f0.length 2 (a1.f0.flatMap e93)), (.sl true a1.f1.length 1 (a1.f1.flatMap encI))]), (1027, [(I (at_ a1.f0 x1).f0), (I (at_ a1.f0 x1).f1)])], [], []⟩ [c_ 13517, b_ 1, c_ 423, l_ 26, b_ 0, c_ 7] aln nocal ?_
          have h := Option.some.inj h
          subst h
          exact .fin0 [] (B false) [] aln (.z .s)
      · rw [if_neg c2] at h
        cases h
    · rw [if_neg c1] at h
      refine .cond' (.tmp 13) false [c_ 28, c_ 29, c_ 15] (bF (dF c1)) ?_
      by_cases c9 : (a1.f1.length : Int) < 1
      · rw [if_pos c9] at h
        refine .reg' [2, 3, 59] [.no, .no, .no, .no, .v (B true)] ⟨[(2, (.pt 256 0 3)), (3, (.pt 257 0 2)), (59, (B true))], [(256, [(.sl true a0.f0.length 1 (a0.f0.flatMap encI)), (I a0.f1), (.sl true a0.f2.length 2 (a0.f2.flatMap (e83 true)))]), (257, [(.sl true a1.f0.length 2 (a1.f0.flatMap e93)), (.sl true a1.f1.length 1 (a1.f1.flatMap encI))])], [2 = 2 ∧ 1 + 1 ≤ 2, (B (decide ((a1.f1.length : Int) < 1)) : V) = B true], []⟩ [c_ 29, c_ 15] (alc ⟨rfl, by decide⟩ (alc (bT (dT c9)) aln)) nocal ?_
        refine .cond' (.tmp 59) true [c_ 116, c_ 117, c_ 15] (rfl) ?_
        refine .reg' [4] [] ⟨[(4, (B false))], [(256, [(.sl true a0.f0.length 1 (a0.f0.flatMap encI)), (I a0.f1), (.sl true a0.f2.length 2 (a0.f2.flatMap (e83 true)))]), (257, [(.sl true a1.f0.length 2 (a1.f0.flatMap e93)), (.sl true a1.f1.length 1 (a1.f1.flatMap encI))])], [], []⟩ [c_ 117, c_ 15] aln nocal ?_
        have h := Option.some.inj h
        subst h
        exact .fin0 [] (B false) [] aln (.z .s)
      · rw [if_neg c9] at h
        refine .reg' [2, 3, 59] [.no, .no, .no, .no, .v (B false)] ⟨[(2, (.pt 256 0 3)), (3, (.pt 257 0 2)), (59, (B (decide ((a1.f1.length : Int) > a0.f1))))], [(256, [(.sl true a0.f0.length 1 (a0.f0.flatMap encI)), (I a0.f1), (.sl true a0.f2.length 2 (a0.f2.flatMap (e83 true)))]), (257, [(.sl true a1.f0.length 2 (a1.f0.flatMap e93)), (.sl true a1.f1.length 1 (a1.f1.flatMap encI))])], [2 = 2 ∧ 1 + 1 ≤ 2, (B (decide ((a1.f1.length : Int) < 1)) : V) = B false, 2 = 2 ∧ 1 + 1 ≤ 2, 3 = 3 ∧ 1 + 1 ≤ 3], []⟩ [c_ 29, c_ 15] (alc ⟨rfl, by decide⟩ (alc (bF (dF c9)) (alc ⟨rfl, by decide⟩ (alc ⟨rfl, by decide⟩ aln)))) nocal ?_
        by_cases c10 : (a1.f1.length : Int) > a0.f1
        · rw [if_pos c10] at h
          refine .cond' (.tmp 59) true [c_ 116, c_ 117, c_ 15] (bT (dT c10)) ?_
          refine .reg' [4] [] ⟨[(4, (B false))], [(256, [(.sl true a0.f0.length 1 (a0.f0.flatMap encI)), (I a0.f1), (.sl true a0.f2.length 2 (a0.f2.flatMap (e83 true)))]), (257, [(.sl true a1.f0.length 2 (a1.f0.flatMap e93)), (.sl true a1.f1.length 1 (a1.f1.flatMap encI))])], [], []⟩ [c_ 117, c_ 15] aln nocal ?_
          have h := Option.some.inj h
          subst h
          exact .fin0 [] (B false) [] aln (.z .s)
        · rw [if_neg c10] at h
          refine .cond' (.tmp 59) false [c_ 60, c_ 61, c_ 31] (bF (dF c10)) ?_
          refine .reg' [2, 3, 61, 62, 63] [] ⟨[(2, (.pt 256 0 3)), (3, (.pt 257 0 2)), (61, (.sl true a1.f1.length 1 (a1.f1.flatMap encI))), (62, (I (a1.f1.length : Int))), (63, (I 0))], [(256, [(.sl true a0.f0.length 1 (a0.f0.flatMap encI)), (I a0.f1), (.sl true a0.f2.length 2 (a0.f2.flatMap (e83 true)))]), (257, [(.sl true a1.f0.length 2 (a1.f0.flatMap e93)), (.sl true a1.f1.length 1 (a1.f1.flatMap encI))])], [2 = 2 ∧ 1 + 1 ≤ 2], []⟩ [l_ 122, b_ 2, c_ 31] (alc ⟨rfl, by decide⟩ aln) nocal ?_
          exact ih1 a0 a1 0 _ h
  · intro a0 a1 x4 r h
    unfold impl_routeOk.l1 at h
    refine .loop' [c_ 488, c_ 489, l_ 122, b_ 2, c_ 31] ?_
    refine .reg' [2, 3, 61, 62, 63, 64] [] ⟨[(2, (.pt 256 0 3)), (3, (.pt 257 0 2)), (61, (.sl true a1.f1.length 1 (a1.f1.flatMap encI))), (62, (I (a1.f1.length : Int))), (63, (I x4)), (64, (B (decide (x4 < (a1.f1.length : Int)))))], [(256, [(.sl true a0.f0.length 1 (a0.f0.flatMap encI)), (I a0.f1), (.sl true a0.f2.length 2 (a0.f2.flatMap (e83 true)))]), (257, [(.sl true a1.f0.length 2 (a1.f0.flatMap e93)), (.sl true a1.f1.length 1 (a1.f1.flatMap encI))])], [], []⟩ [c_ 978, c_ 979, l_ 122, b_ 2, c_ 31] aln nocal ?_
    by_cases c11 : x4 < (a1.f1.length : Int)
    · rw [if_pos c11] at h
      refine .cond' (.tmp 64) true [c_ 7832, c_ 7833, b_ 3, c_ 1959, l_ 122, b_ 2, c_ 31] (bT (dT c11)) ?_
      by_cases c12 : 0 ≤ x4
      · rw [if_pos c12] at h
        refine .reg' [2, 3, 7, 8, 61, 62, 63] [.no, .no, .v (I (at_ a1.f1 x4))] ⟨[(2, (.pt 256 0 3)), (3, (.pt 257 0 2)), (7, (I x4)), (8, (I (at_ a1.f1 x4))), (61, (.sl true a1.f1.length 1 (a1.f1.flatMap encI))), (62, (I (a1.f1.length : Int))), (63, (I x4))], [(256, [(.sl true a0.f0.length 1 (a0.f0.flatMap encI)), (I a0.f1), (.sl true a0.f2.length 2 (a0.f2.flatMap (e83 true)))]), (257, [(.sl true a1.f0.length 2 (a1.f0.flatMap e93)), (.sl true a1.f1.length 1 (a1.f1.flatMap encI))])], [(0 : Int) ≤ x4 ∧ x4 < (a1.f1.length : Int), rdC prog 3 ((a1.f1.flatMap encI).drop (x4.toNat * 1)) = (I (at_ a1.f1 x4)), 1 ≤ ((a1.f1.flatMap encI).drop (x4.toNat * 1)).length], []⟩ [c_ 15666, c_ 15667, b_ 3, c_ 1959, l_ 122, b_ 2, c_ 31] (alc ⟨c12, c11⟩ (alc (ldC1 encI_ok rfl c12 c11) (alc (okI encI_ok c12 c11 (by decide)) aln))) nocal ?_
        obtain ⟨x5, hx5, h⟩ := Option.bind_eq_some_iff.mp h
        by_cases c13 : x5 = true
        · rw [if_pos c13] at h
          by_cases c14 : x4 ≤ (a1.f1.length : Int)
          · rw [if_pos c14] at h
            obtain ⟨x6, hx6, h⟩ := Option.bind_eq_some_iff.mp h
            refine .reg' [2, 3, 61, 62, 63, 81] [.no, .no, .no, .no, .c ⟨57, [(I (at_ a1.f1 x4)), (I 0), (I (wrap64 (a0.f1 - 1)))], [], (B x5), [], [], [], [], (B x5), []⟩, .no, .v (B false), .no, .no, .no, .v (.sl true ((a1.f1.drop (0 : Int).toNat).take (x4.toNat - (0 : Int).toNat)).length 1 (((a1.f1.drop (0 : Int).toNat).take (x4.toNat - (0 : Int).toNat)).flatMap encI)), .no, .c ⟨100, [(.sl true ((a1.f1.drop (0 : Int).toNat).take (x4.toNat - (0 : Int).toNat)).length 1 (((a1.f1.drop (0 : Int).toNat).take (x4.toNat - (0 : Int).toNat)).flatMap encI)), (I (at_ a1.f1 x4))], [], (B x6), [], [], [], [], (B x6), []⟩] ⟨[(2, (.pt 256 0 3)), (3, (.pt 257 0 2)), (61, (.sl true a1.f1.length 1 (a1.f1.flatMap encI))), (62, (I (a1.f1.length : Int))), (63, (I x4)), (81, (B x6))], [(256, [(.sl true a0.f0.length 1 (a0.f0.flatMap encI)), (I a0.f1), (.sl true a0.f2.length 2 (a0.f2.flatMap (e83 true)))]), (257, [(.sl true a1.f0.length 2 (a1.f0.flatMap e93)), (.sl true a1.f1.length 1 (a1.f1.flatMap encI))])], [3 = 3 ∧ 1 + 1 ≤ 3, COK (hget [(256, [(.sl true a0.f0.length 1 (a0.f0.flatMap encI)), (I a0.f1), (.sl true a0.f2.length 2 (a0.f2.flatMap (e83 true)))]), (257, [(.sl true a1.f0.length 2 (a1.f0.flatMap e93)), (.sl true a1.f1.length 1 (a1.f1.flatMap encI))])]) [(I (at_ a1.f1 x4)), (I 0), (I (wrap64 (a0.f1 - 1)))] ⟨57, [(I (at_ a1.f1 x4)), (I 0), (I (wrap64 (a0.f1 - 1)))], [], (B x5), [], [], [], [], (B x5), []⟩, (B (!x5) : V) = B false, 2 = 2 ∧ 1 + 1 ≤ 2, V.sl true (x4.toNat - (0 : Int).toNat) 1 (((a1.f1.flatMap encI).drop ((0 : Int).toNat * 1)).take ((x4.toNat - (0 : Int).toNat) * 1)) = (.sl true ((a1.f1.drop (0 : Int).toNat).take (x4.toNat - (0 : Int).toNat)).length 1 (((a1.f1.drop (0 : Int).toNat).take (x4.toNat - (0 : Int).toNat)).flatMap encI)), 0 ≤ (0 : Int) ∧ 0 ≤ x4 ∧ x4 ≤ (a1.f1.length : Int), COK (hget [(256, [(.sl true a0.f0.length 1 (a0.f0.flatMap encI)), (I a0.f1), (.sl true a0.f2.length 2 (a0.f2.flatMap (e83 true)))]), (257, [(.sl true a1.f0.length 2 (a1.f0.flatMap e93)), (.sl true a1.f1.length 1 (a1.f1.flatMap encI))])]) [(.sl true ((a1.f1.drop (0 : Int).toNat).take (x4.toNat - (0 : Int).toNat)).length 1 (((a1.f1.drop (0 : Int).toNat).take (x4.toNat - (0 : Int).toNat)).flatMap encI)), (I (at_ a1.f1 x4))] ⟨100, [(.sl true ((a1.f1.drop (0 : Int).toNat).take (x4.toNat - (0 : Int).toNat)).length 1 (((a1.f1.drop (0 : Int).toNat).take (x4.toNat - (0 : Int).toNat)).flatMap encI)), (I (at_ a1.f1 x4))], [], (B x6), [], [], [], [], (B x6), []⟩], [⟨57, [(I (at_ a1.f1 x4)), (I 0), (I (wrap64 (a0.f1 - 1)))], [], (B x5), [], [], [], [], (B x5), []⟩, ⟨100, [(.sl true ((a1.f1.drop (0 : Int).toNat).take (x4.toNat - (0 : Int).toNat)).length 1 (((a1.f1.drop (0 : Int).toNat).take (x4.toNat - (0 : Int).toNat)).flatMap encI)), (I (at_ a1.f1 x4))], [], (B x6), [], [], [], [], (B x6), []⟩]⟩ [c_ 15667, b_ 3, c_ 1959, l_ 122, b_ 2, c_ 31] (alc ⟨rfl, by decide⟩ (alc (cok0 false (a2c (.z .s) (a2c (.z .s) (a2c (.z .s) a2n))) (.z .s) (fun h => absurd h (by decide))) (alc (bF (nF c13)) (alc ⟨rfl, by decide⟩ (alc (slS encI_ok (by omega) (by omega)) (alc ⟨(by decide), c12, c14⟩ (alc (cok0 false (a2c (.z (frz_sl encI_ok (fun h => h))) (a2c (.z .s) a2n)) (.z .s) (fun h => absurd h (by decide))) aln))))))) (acal (impl_between.J (at_ a1.f1 x4) 0 (wrap64 (a0.f1 - 1)) _ hx5) (acal (impl_has.J k ((a1.f1.drop (0 : Int).toNat).take (x4.toNat - (0 : Int).toNat)) (at_ a1.f1 x4) _ hx6) nocal)) ?_
            by_cases c15 : x6 = true
            · rw [if_pos c15] at h
              refine .cond' (.tmp 81) true [c_ 62668, c_ 62669, b_ 3, c_ 1959, l_ 122, b_ 2, c_ 31] (bT c15) ?_
              refine .reg' [4] [] ⟨[(4, (B false))], [(256, [(.sl true a0.f0.length 1 (a0.f0.flatMap encI)), (I a0.f1), (.sl true a0.f2.length 2 (a0.f2.flatMap (e83 true)))]), (257, [(.sl true a1.f0.length 2 (a1.f0.flatMap e93)), (.sl true a1.f1.length 1 (a1.f1.flatMap encI))])], [], []⟩ [c_ 62669, b_ 3, c_ 1959, l_ 122, b_ 2, c_ 31] aln nocal ?_
              have h := Option.some.inj h
              subst h
              exact .fin0 [] (B false) [] aln (.z .s)
            · rw [if_neg c15] at h
              refine .cond' (.tmp 81) false [c_ 1959, l_ 122, b_ 2, c_ 31] (bF (vF c15)) ?_
              refine .reg' [2, 3, 61, 62, 63] [] ⟨[(2, (.pt 256 0 3)), (3, (.pt 257 0 2)), (61, (.sl true a1.f1.length 1 (a1.f1.flatMap encI))), (62, (I (a1.f1.length : Int))), (63, (I (wrap64 (x4 + 1))))], [(256, [(.sl true a0.f0.length 1 (a0.f0.flatMap encI)), (I a0.f1), (.sl true a0.f2.length 2 (a0.f2.flatMap (e83 true)))]), (257, [(.sl true a1.f0.length 2 (a1.f0.flatMap e93)), (.sl true a1.f1.length 1 (a1.f1.flatMap encI))])], [], []⟩ [l_ 122, b_ 2, c_ 31] aln nocal ?_
              exact ih1 a0 a1 (wrap64 (x4 + 1)) _ h
          · rw [if_neg c14] at h
            cases h
        · rw [if_neg c13] at h
          refine .reg' [2, 3, 61, 62, 63, 81] [.no, .no, .no, .no, .c ⟨57, [(I (at_ a1.f1 x4)), (I 0), (I (wrap64 (a0.f1 - 1)))], [], (B x5), [], [], [], [], (B x5), []⟩, .no, .v (B true)] ⟨[(2, (.pt 256 0 3)), (3, (.pt 257 0 2)), (61, (.sl true a1.f1.length 1 (a1.f1.flatMap encI))), (62, (I (a1.f1.length : Int))), (63, (I x4)), (81, (B true))], [(256, [(.sl true a0.f0.length 1 (a0.f0.flatMap encI)), (I a0.f1), (.sl true a0.f2.length 2 (a0.f2.flatMap (e83 true)))]), (257, [(.sl true a1.f0.length 2 (a1.f0.flatMap e93)), (.sl true a1.f1.length 1 (a1.f1.flatMap encI))])], [3 = 3 ∧ 1 + 1 ≤ 3, COK (hget [(256, [(.sl true a0.f0.length 1 (a0.f0.flatMap encI)), (I a0.f1), (.sl true a0.f2.length 2 (a0.f2.flatMap (e83 true)))]), (257, [(.sl true a1.f0.length 2 (a1.f0.flatMap e93)), (.sl true a1.f1.length 1 (a1.f1.flatMap encI))])]) [(I (at_ a1.f1 x4)), (I 0), (I (wrap64 (a0.f1 - 1)))] ⟨57, [(I (at_ a1.f1 x4)), (I 0), (I (wrap64 (a0.f1 - 1)))], [], (B x5), [], [], [], [], (B x5), []⟩, (B (!x5) : V) = B true], [⟨57, [(I (at_ a1.f1 x4)), (I 0), (I (wrap64 (a0.f1 - 1)))], [], (B x5), [], [], [], [], (B x5), []⟩]⟩ [c_ 15667, b_ 3, c_ 1959, l_ 122, b_ 2, c_ 31] (alc ⟨rfl, by decide⟩ (alc (cok0 false (a2c (.z .s) (a2c (.z .s) (a2c (.z .s) a2n))) (.z .s) (fun h => absurd h (by decide))) (alc (bT (nT (vF c13))) aln))) (acal (impl_between.J (at_ a1.f1 x4) 0 (wrap64 (a0.f1 - 1)) _ hx5) nocal) ?_
          refine .cond' (.tmp 81) true [c_ 62668, c_ 62669, b_ 3, c_ 1959, l_ 122, b_ 2, c_ 31] (rfl) ?_
          refine .reg' [4] [] ⟨[(4, (B false))], [(256, [(.sl true a0.f0.length 1 (a0.f0.flatMap encI)), (I a0.f1), (.sl true a0.f2.length 2 (a0.f2.flatMap (e83 true)))]), (257, [(.sl true a1.f0.length 2 (a1.f0.flatMap e93)), (.sl true a1.f1.length 1 (a1.f1.flatMap encI))])], [], []⟩ [c_ 62669, b_ 3, c_ 1959, l_ 122, b_ 2, c_ 31] aln nocal ?_
          have h := Option.some.inj h
          subst h
          exact .fin0 [] (B false) [] aln (.z .s)
      · rw [if_neg c12] at h
        cases h
    · rw [if_neg c11] at h
      refine .cond' (.tmp 64) false [c_ 62, c_ 63] (bF (dF c11)) ?_
      refine .reg' [4] [] ⟨[(4, (B true))], [(256, [(.sl true a0.f0.length 1 (a0.f0.flatMap encI)), (I a0.f1), (.sl true a0.f2.length 2 (a0.f2.flatMap (e83 true)))]), (257, [(.sl true a1.f0.length 2 (a1.f0.flatMap e93)), (.sl true a1.f1.length 1 (a1.f1.flatMap encI))])], [], []⟩ [c_ 63] aln nocal ?_
      have h := Option.some.inj h
      subst h
      exact .fin0 [] (B true) [] aln (.z .s)
theorem impl_routeOk.J (k : Nat) (a0 : S29) (a1 : S83) (r : Bool) (h : impl_routeOk.f k a0 a1 = some r) : J prog (.call 58 [(.ag [(.sl true a0.f0.length 1 (a0.f0.flatMap encI)), (I a0.f1), (.sl true a0.f2.length 2 (a0.f2.flatMap (e83 true)))]), (.ag [(.sl true a1.f0.length 2 (a1.f0.flatMap e93)), (.sl true a1.f1.length 1 (a1.f1.flatMap encI))])] [] (B r) []) := by
  unfold impl_routeOk.f at h
  obtain ⟨ih0, ih1⟩ := impl_routeOk.lab k
  refine .call' [c_ 2, c_ 3] ?_
  refine .reg' [2, 3] [] ⟨[(2, (.pt 256 0 3)), (3, (.pt 257 0 2))], [(256, [(.sl true a0.f0.length 1 (a0.f0.flatMap encI)), (I a0.f1), (.sl true a0.f2.length 2 (a0.f2.flatMap (e83 true)))]), (257, [(.sl true a1.f0.length 2 (a1.f0.flatMap e93)), (.sl true a1.f1.length 1 (a1.f1.flatMap encI))])], [], []⟩ [c_ 12, c_ 13, c_ 7] aln nocal ?_
  refine .reg' [2, 3, 10, 11, 12] [] ⟨[(2, (.pt 256 0 3)), (3, (.pt 257 0 2)), (10, (.sl true a1.f0.length 2 (a1.f0.flatMap e93))), (11, (I (a1.f0.length : Int))), (12, (I 0))], [(256, [(.sl true a0.f0.length 1 (a0.f0.flatMap encI)), (I a0.f1), (.sl true a0.f2.length 2 (a0.f2.flatMap (e83 true)))]), (257, [(.sl true a1.f0.length 2 (a1.f0.flatMap e93)), (.sl true a1.f1.length 1 (a1.f1.flatMap encI))])], [2 = 2 ∧ 0 + 1 ≤ 2], []⟩ [l_ 26, b_ 0, c_ 7] (alc ⟨rfl, by decide⟩ aln) nocal ?_
  exact ih0 a0 a1 0 _ h
/-! impl_PlantOk: function 13 -/
mutual
def impl_PlantOk.l0 : Nat → S29 → Int → Option Bool
 | 0, _, _ => none
 | k + 1, a0, x2 => (if x2 < (a0.f0.length : Int) then (if 0 ≤ x2 then ((impl_between.f (at_ a0.f0 x2) 0 (wrap64 (a0.f1 - 1))).bind fun x3 => (if x3 = true then (impl_PlantOk.l0 k a0 (wrap64 (x2 + 1))) else (some false))) else none) else (impl_PlantOk.l1 k a0 0))
def impl_PlantOk.l1 : Nat → S29 → Int → Option Bool
 | 0, _, _ => none
 | k + 1, a0, x4 => (if x4 < (a0.f2.length : Int) then (if 0 ≤ x4 then ((impl_routeOk.f k a0 (at_ a0.f2 x4)).bind fun x5 => (if x5 = true then (impl_PlantOk.l1 k a0 (wrap64 (x4 + 1))) else (some false))) else none) else (some true))
end
def impl_PlantOk.f (k : Nat) (a0 : S29) : Option Bool := ((impl_between.f a0.f1 1 24).bind fun x1 => (if x1 = true then (if (a0.f0.length : Int) > 16 then (some false) else (if (a0.f2.length : Int) > 12 then (some false) else (impl_PlantOk.l0 k a0 0))) else (some false)))
end Go.Proofs.Ytjfjifnmfnlfoaa.Fns
