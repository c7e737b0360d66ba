/- The functions that the law FnExactUses reaches, by the engine. Printed by a program of this seat. -/
import Derived.Test.YtebgaiokpncacaaE5
import Derived.Test.YtebgaiokpncacaaProg
import Derived.Test.YtebgaiokpncacaaFFnExactUsesx2
namespace Go.Proofs.Ytebgaiokpncacaa.Fns
open Go.Proofs.Try Go.Proofs.Ytebgaiokpncacaa.Eng Go.RowKit
set_option maxRecDepth 100000
set_option linter.unusedVariables false
set_option linter.unusedSimpArgs false
theorem impl_Net_joining.lab : ∀ k, (∀ (a0 : S46) (a1 : Int) (a2 : Int) (x1 : Int) (r : (Int × Int)), impl_Net_joining.l0 k a0 a1 a2 x1 = some r → J prog (.run 96 [] [l_ 26, b_ 0, c_ 7] [(1, (I a1)), (2, (I a2)), (11, (.sl true a0.f1.length 4 (a0.f1.flatMap e95))), (12, (I (a0.f1.length : Int))), (13, (I x1))] [] (.tp [(I r.1), (I r.2)]) []))
 | 0 => (by intro a0 a1 a2 x1 r h; unfold impl_Net_joining.l0 at h; cases h)
 | k + 1 => by
  have ih0 := impl_Net_joining.lab k
  · intro a0 a1 a2 x1 r h
    unfold impl_Net_joining.l0 at h
    refine .loop' [c_ 104, c_ 105, l_ 26, b_ 0, c_ 7] ?_
    refine .reg' [1, 2, 11, 12, 13, 14] [] ⟨[(1, (I a1)), (2, (I a2)), (11, (.sl true a0.f1.length 4 (a0.f1.flatMap e95))), (12, (I (a0.f1.length : Int))), (13, (I x1)), (14, (B (decide (x1 < (a0.f1.length : Int)))))], [], [], []⟩ [c_ 210, c_ 211, l_ 26, b_ 0, c_ 7] aln nocal ?_
    by_cases c1 : x1 < (a0.f1.length : Int)
    · rw [if_pos c1] at h
      refine .cond' (.tmp 14) true [c_ 1688, c_ 1689, b_ 1, c_ 423, l_ 26, b_ 0, c_ 7] (bT (dT c1)) ?_
      by_cases c2 : 0 ≤ x1
      · rw [if_pos c2] at h
        refine .reg' [1, 2, 8, 9, 11, 12, 13] [.no, .no, .v (.ag [(I (at_ a0.f1 x1).f0), (I (at_ a0.f1 x1).f1), (I (at_ a0.f1 x1).f2), (I (at_ a0.f1 x1).f3)])] ⟨[(1, (I a1)), (2, (I a2)), (8, (I x1)), (9, (.pt 1027 0 4)), (11, (.sl true a0.f1.length 4 (a0.f1.flatMap e95))), (12, (I (a0.f1.length : Int))), (13, (I x1))], [(1027, [(I (at_ a0.f1 x1).f0), (I (at_ a0.f1 x1).f1), (I (at_ a0.f1 x1).f2), (I (at_ a0.f1 x1).f3)])], [(0 : Int) ≤ x1 ∧ x1 < (a0.f1.length : Int), rdC prog 96 ((a0.f1.flatMap e95).drop (x1.toNat * 4)) = (.ag [(I (at_ a0.f1 x1).f0), (I (at_ a0.f1 x1).f1), (I (at_ a0.f1 x1).f2), (I (at_ a0.f1 x1).f3)]), 4 ≤ ((a0.f1.flatMap e95).drop (x1.toNat * 4)).length, 4 = 4 ∧ 0 + 4 ≤ 4], []⟩ [c_ 6756, c_ 6757, c_ 3379, b_ 1, c_ 423, l_ 26, b_ 0, c_ 7] (alc ⟨c2, c1⟩ (alc (ldA e95_ok rfl rfl c2 c1) (alc (okI e95_ok c2 c1 (by decide)) (alc ⟨rfl, by decide⟩ aln)))) nocal ?_
        by_cases c3 : (at_ a0.f1 x1).f0 = a1
        · rw [if_pos c3] at h
          refine .reg' [1, 2, 8, 9, 11, 12, 13, 27] [.no, .no, .no, .no, .v (B true)] ⟨[(1, (I a1)), (2, (I a2)), (8, (I x1)), (9, (.pt 1027 0 4)), (11, (.sl true a0.f1.length 4 (a0.f1.flatMap e95))), (12, (I (a0.f1.length : Int))), (13, (I x1)), (27, (B ((at_ a0.f1 x1).f1 == a2)))], [(1027, [(I (at_ a0.f1 x1).f0), (I (at_ a0.f1 x1).f1), (I (at_ a0.f1 x1).f2), (I (at_ a0.f1 x1).f3)])], [4 = 4 ∧ 0 + 1 ≤ 4, (B ((at_ a0.f1 x1).f0 == a1) : V) = B true, 4 = 4 ∧ 1 + 1 ≤ 4], []⟩ [c_ 6757, c_ 3379, b_ 1, c_ 423, l_ 26, b_ 0, c_ 7] (alc ⟨rfl, by decide⟩ (alc (bT (qT c3)) (alc ⟨rfl, by decide⟩ aln))) nocal ?_
          by_cases c4 : (at_ a0.f1 x1).f1 = a2
          · rw [if_pos c4] at h
            refine .cond' (.tmp 27) true [c_ 27028, c_ 27029, c_ 3379, b_ 1, c_ 423, l_ 26, b_ 0, c_ 7] (bT (qT c4)) ?_
            refine .reg' [6, 7] [] ⟨[(6, (I x1)), (7, (I 0))], [(1027, [(I (at_ a0.f1 x1).f0), (I (at_ a0.f1 x1).f1), (I (at_ a0.f1 x1).f2), (I (at_ a0.f1 x1).f3)])], [], []⟩ [c_ 27029, c_ 3379, b_ 1, c_ 423, l_ 26, b_ 0, c_ 7] aln nocal ?_
            have h := Option.some.inj h
            subst h
            exact .fin0 [] (.tp [(I x1), (I 0)]) [] aln (cnv_tp (a2c (.z .s) (a2c (.z .s) a2n)))
          · rw [if_neg c4] at h
            refine .cond' (.tmp 27) false [c_ 6758, c_ 6759, b_ 1, c_ 423, l_ 26, b_ 0, c_ 7] (bF (qF c4)) ?_
            by_cases c5 : (at_ a0.f1 x1).f0 = a2
            · rw [if_pos c5] at h
              refine .reg' [1, 2, 8, 11, 12, 13, 38] [.no, .no, .no, .no, .v (B true)] ⟨[(1, (I a1)), (2, (I a2)), (8, (I x1)), (11, (.sl true a0.f1.length 4 (a0.f1.flatMap e95))), (12, (I (a0.f1.length : Int))), (13, (I x1)), (38, (B ((at_ a0.f1 x1).f1 == a1)))], [(1027, [(I (at_ a0.f1 x1).f0), (I (at_ a0.f1 x1).f1), (I (at_ a0.f1 x1).f2), (I (at_ a0.f1 x1).f3)])], [4 = 4 ∧ 0 + 1 ≤ 4, (B ((at_ a0.f1 x1).f0 == a2) : V) = B true, 4 = 4 ∧ 1 + 1 ≤ 4], []⟩ [c_ 6759, b_ 1, c_ 423, l_ 26, b_ 0, c_ 7] (alc ⟨rfl, by decide⟩ (alc (bT (qT c5)) (alc ⟨rfl, by decide⟩ aln))) nocal ?_
              by_cases c6 : (at_ a0.f1 x1).f1 = a1
              · rw [if_pos c6] at h
                refine .cond' (.tmp 38) true [c_ 27036, c_ 27037, b_ 1, c_ 423, l_ 26, b_ 0, c_ 7] (bT (qT c6)) ?_
                refine .reg' [6, 7] [] ⟨[(6, (I x1)), (7, (I 1))], [(1027, [(I (at_ a0.f1 x1).f0), (I (at_ a0.f1 x1).f1), (I (at_ a0.f1 x1).f2), (I (at_ a0.f1 x1).f3)])], [], []⟩ [c_ 27037, b_ 1, c_ 423, l_ 26, b_ 0, c_ 7] aln nocal ?_
                have h := Option.some.inj h
                subst h
                exact .fin0 [] (.tp [(I x1), (I 1)]) [] aln (cnv_tp (a2c (.z .s) (a2c (.z .s) a2n)))
              · rw [if_neg c6] at h
                refine .cond' (.tmp 38) false [c_ 423, l_ 26, b_ 0, c_ 7] (bF (qF c6)) ?_
                refine .reg' [1, 2, 11, 12, 13] [] ⟨[(1, (I a1)), (2, (I a2)), (11, (.sl true a0.f1.length 4 (a0.f1.flatMap e95))), (12, (I (a0.f1.length : Int))), (13, (I (wrap64 (x1 + 1))))], [(1027, [(I (at_ a0.f1 x1).f0), (I (at_ a0.f1 x1).f1), (I (at_ a0.f1 x1).f2), (I (at_ a0.f1 x1).f3)])], [], []⟩ [l_ 26, b_ 0, c_ 7] aln nocal ?_
                refine .wk' [] [] [(1, (I a1)), (2, (I a2)), (11, (.sl true a0.f1.length 4 (a0.f1.flatMap e95))), (12, (I (a0.f1.length : Int))), (13, (I (wrap64 (x1 + 1))))] [] shn (enc_ (.z .s) (enc_ (.z .s) (enc_ (.z (frz_sl e95_ok (fun h => h))) (enc_ (.z .s) (enc_ (.z .s) enn))))) ?_
                exact ih0 a0 a1 a2 (wrap64 (x1 + 1)) _ h
            · rw [if_neg c5] at h
              refine .reg' [1, 2, 8, 11, 12, 13, 38] [.no, .no, .no, .no, .v (B false)] ⟨[(1, (I a1)), (2, (I a2)), (8, (I x1)), (11, (.sl true a0.f1.length 4 (a0.f1.flatMap e95))), (12, (I (a0.f1.length : Int))), (13, (I x1)), (38, (B false))], [(1027, [(I (at_ a0.f1 x1).f0), (I (at_ a0.f1 x1).f1), (I (at_ a0.f1 x1).f2), (I (at_ a0.f1 x1).f3)])], [4 = 4 ∧ 0 + 1 ≤ 4, (B ((at_ a0.f1 x1).f0 == a2) : V) = B false], []⟩ [c_ 6759, b_ 1, c_ 423, l_ 26, b_ 0, c_ 7] (alc ⟨rfl, by decide⟩ (alc (bF (qF c5)) aln)) nocal ?_
              refine .cond' (.tmp 38) false [c_ 423, l_ 26, b_ 0, c_ 7] (rfl) ?_
              refine .reg' [1, 2, 11, 12, 13] [] ⟨[(1, (I a1)), (2, (I a2)), (11, (.sl true a0.f1.length 4 (a0.f1.flatMap e95))), (12, (I (a0.f1.length : Int))), (13, (I (wrap64 (x1 + 1))))], [(1027, [(I (at_ a0.f1 x1).f0), (I (at_ a0.f1 x1).f1), (I (at_ a0.f1 x1).f2), (I (at_ a0.f1 x1).f3)])], [], []⟩ [l_ 26, b_ 0, c_ 7] aln nocal ?_
              refine .wk' [] [] [(1, (I a1)), (2, (I a2)), (11, (.sl true a0.f1.length 4 (a0.f1.flatMap e95))), (12, (I (a0.f1.length : Int))), (13, (I (wrap64 (x1 + 1))))] [] shn (enc_ (.z .s) (enc_ (.z .s) (enc_ (.z (frz_sl e95_ok (fun h => h))) (enc_ (.z .s) (enc_ (.z .s) enn))))) ?_
              exact ih0 a0 a1 a2 (wrap64 (x1 + 1)) _ h
        · rw [if_neg c3] at h
          refine .reg' [1, 2, 8, 9, 11, 12, 13, 27] [.no, .no, .no, .no, .v (B false)] ⟨[(1, (I a1)), (2, (I a2)), (8, (I x1)), (9, (.pt 1027 0 4)), (11, (.sl true a0.f1.length 4 (a0.f1.flatMap e95))), (12, (I (a0.f1.length : Int))), (13, (I x1)), (27, (B false))], [(1027, [(I (at_ a0.f1 x1).f0), (I (at_ a0.f1 x1).f1), (I (at_ a0.f1 x1).f2), (I (at_ a0.f1 x1).f3)])], [4 = 4 ∧ 0 + 1 ≤ 4, (B ((at_ a0.f1 x1).f0 == a1) : V) = B false], []⟩ [c_ 6757, c_ 3379, b_ 1, c_ 423, l_ 26, b_ 0, c_ 7] (alc ⟨rfl, by decide⟩ (alc (bF (qF c3)) aln)) nocal ?_
          refine .cond' (.tmp 27) false [c_ 6758, c_ 6759, b_ 1, c_ 423, l_ 26, b_ 0, c_ 7] (rfl) ?_
          by_cases c7 : (at_ a0.f1 x1).f0 = a2
          · rw [if_pos c7] at h
            refine .reg' [1, 2, 8, 11, 12, 13, 38] [.no, .no, .no, .no, .v (B true)] ⟨[(1, (I a1)), (2, (I a2)), (8, (I x1)), (11, (.sl true a0.f1.length 4 (a0.f1.flatMap e95))), (12, (I (a0.f1.length : Int))), (13, (I x1)), (38, (B ((at_ a0.f1 x1).f1 == a1)))], [(1027, [(I (at_ a0.f1 x1).f0), (I (at_ a0.f1 x1).f1), (I (at_ a0.f1 x1).f2), (I (at_ a0.f1 x1).f3)])], [4 = 4 ∧ 0 + 1 ≤ 4, (B ((at_ a0.f1 x1).f0 == a2) : V) = B true, 4 = 4 ∧ 1 + 1 ≤ 4], []⟩ [c_ 6759, b_ 1, c_ 423, l_ 26, b_ 0, c_ 7] (alc ⟨rfl, by decide⟩ (alc (bT (qT c7)) (alc ⟨rfl, by decide⟩ aln))) nocal ?_
            by_cases c8 : (at_ a0.f1 x1).f1 = a1
            · rw [if_pos c8] at h
              refine .cond' (.tmp 38) true [c_ 27036, c_ 27037, b_ 1, c_ 423, l_ 26, b_ 0, c_ 7] (bT (qT c8)) ?_
              refine .reg' [6, 7] [] ⟨[(6, (I x1)), (7, (I 1))], [(1027, [(I (at_ a0.f1 x1).f0), (I (at_ a0.f1 x1).f1), (I (at_ a0.f1 x1).f2), (I (at_ a0.f1 x1).f3)])], [], []⟩ [c_ 27037, b_ 1, c_ 423, l_ 26, b_ 0, c_ 7] aln nocal ?_
              have h := Option.some.inj h
              subst h
              exact .fin0 [] (.tp [(I x1), (I 1)]) [] aln (cnv_tp (a2c (.z .s) (a2c (.z .s) a2n)))
            · rw [if_neg c8] at h
              refine .cond' (.tmp 38) false [c_ 423, l_ 26, b_ 0, c_ 7] (bF (qF c8)) ?_
              refine .reg' [1, 2, 11, 12, 13] [] ⟨[(1, (I a1)), (2, (I a2)), (11, (.sl true a0.f1.length 4 (a0.f1.flatMap e95))), (12, (I (a0.f1.length : Int))), (13, (I (wrap64 (x1 + 1))))], [(1027, [(I (at_ a0.f1 x1).f0), (I (at_ a0.f1 x1).f1), (I (at_ a0.f1 x1).f2), (I (at_ a0.f1 x1).f3)])], [], []⟩ [l_ 26, b_ 0, c_ 7] aln nocal ?_
              refine .wk' [] [] [(1, (I a1)), (2, (I a2)), (11, (.sl true a0.f1.length 4 (a0.f1.flatMap e95))), (12, (I (a0.f1.length : Int))), (13, (I (wrap64 (x1 + 1))))] [] shn (enc_ (.z .s) (enc_ (.z .s) (enc_ (.z (frz_sl e95_ok (fun h => h))) (enc_ (.z .s) (enc_ (.z .s) enn))))) ?_
              exact ih0 a0 a1 a2 (wrap64 (x1 + 1)) _ h
          · rw [if_neg c7] at h
            refine .reg' [1, 2, 8, 11, 12, 13, 38] [.no, .no, .no, .no, .v (B false)] ⟨[(1, (I a1)), (2, (I a2)), (8, (I x1)), (11, (.sl true a0.f1.length 4 (a0.f1.flatMap e95))), (12, (I (a0.f1.length : Int))), (13, (I x1)), (38, (B false))], [(1027, [(I (at_ a0.f1 x1).f0), (I (at_ a0.f1 x1).f1), (I (at_ a0.f1 x1).f2), (I (at_ a0.f1 x1).f3)])], [4 = 4 ∧ 0 + 1 ≤ 4, (B ((at_ a0.f1 x1).f0 == a2) : V) = B false], []⟩ [c_ 6759, b_ 1, c_ 423, l_ 26, b_ 0, c_ 7] (alc ⟨rfl, by decide⟩ (alc (bF (qF c7)) aln)) nocal ?_
            refine .cond' (.tmp 38) false [c_ 423, l_ 26, b_ 0, c_ 7] (rfl) ?_
            refine .reg' [1, 2, 11, 12, 13] [] ⟨[(1, (I a1)), (2, (I a2)), (11, (.sl true a0.f1.length 4 (a0.f1.flatMap e95))), (12, (I (a0.f1.length : Int))), (13, (I (wrap64 (x1 + 1))))], [(1027, [(I (at_ a0.f1 x1).f0), (I (at_ a0.f1 x1).f1), (I (at_ a0.f1 x1).f2), (I (at_ a0.f1 x1).f3)])], [], []⟩ [l_ 26, b_ 0, c_ 7] aln nocal ?_
            refine .wk' [] [] [(1, (I a1)), (2, (I a2)), (11, (.sl true a0.f1.length 4 (a0.f1.flatMap e95))), (12, (I (a0.f1.length : Int))), (13, (I (wrap64 (x1 + 1))))] [] shn (enc_ (.z .s) (enc_ (.z .s) (enc_ (.z (frz_sl e95_ok (fun h => h))) (enc_ (.z .s) (enc_ (.z .s) enn))))) ?_
            exact ih0 a0 a1 a2 (wrap64 (x1 + 1)) _ h
      · rw [if_neg c2] at h
        cases h
    · rw [if_neg c1] at h
      refine .cond' (.tmp 14) false [c_ 14, c_ 15] (bF (dF c1)) ?_
      refine .reg' [6, 7] [] ⟨[(6, (I (-1))), (7, (I 0))], [], [], []⟩ [c_ 15] aln nocal ?_
      have h := Option.some.inj h
      subst h
      exact .fin0 [] (.tp [(I (-1)), (I 0)]) [] aln (cnv_tp (a2c (.z .s) (a2c (.z .s) a2n)))
theorem impl_Net_joining.J (k : Nat) (a0 : S46) (a1 : Int) (a2 : Int) (r : (Int × Int)) (h : impl_Net_joining.f k a0 a1 a2 = some r) : J prog (.call 96 [(.ag [(I a0.f0), (.sl true a0.f1.length 4 (a0.f1.flatMap e95))]), (I a1), (I a2)] [] (.tp [(I r.1), (I r.2)]) []) := by
  unfold impl_Net_joining.f at h
  have ih0 := impl_Net_joining.lab k
  refine .call' [c_ 2, c_ 3] ?_
  refine .reg' [1, 2, 3] [] ⟨[(1, (I a1)), (2, (I a2)), (3, (.pt 256 0 2))], [(256, [(I a0.f0), (.sl true a0.f1.length 4 (a0.f1.flatMap e95))])], [], []⟩ [c_ 12, c_ 13, c_ 7] aln nocal ?_
  refine .reg' [1, 2, 11, 12, 13] [] ⟨[(1, (I a1)), (2, (I a2)), (11, (.sl true a0.f1.length 4 (a0.f1.flatMap e95))), (12, (I (a0.f1.length : Int))), (13, (I 0))], [(256, [(I a0.f0), (.sl true a0.f1.length 4 (a0.f1.flatMap e95))])], [2 = 2 ∧ 1 + 1 ≤ 2], []⟩ [l_ 26, b_ 0, c_ 7] (alc ⟨rfl, by decide⟩ aln) nocal ?_
  refine .wk' [] [] [(1, (I a1)), (2, (I a2)), (11, (.sl true a0.f1.length 4 (a0.f1.flatMap e95))), (12, (I (a0.f1.length : Int))), (13, (I 0))] [] shn (enc_ (.z .s) (enc_ (.z .s) (enc_ (.z (frz_sl e95_ok (fun h => h))) (enc_ (.z .s) (enc_ (.z .s) enn))))) ?_
  exact ih0 a0 a1 a2 0 _ h
/-! impl_Net_usesOf: function 78 -/
def impl_Net_usesOf.l0 : Nat → S46 → S66 → Int → (List S22) → Int → Option ((List S22) × Bool)
 | 0, _, _, _, _, _ => none
 | k + 1, a0, a1, a2, x1, x2 => (if x2 < (a1.f1.length : Int) then (if 0 ≤ (wrap64 (x2 - 1)) then (if (wrap64 (x2 - 1)) < (a1.f1.length : Int) then (if 0 ≤ x2 then ((impl_Net_joining.f k a0 ((at_ a1.f1 (wrap64 (x2 - 1))).f0) ((at_ a1.f1 x2).f0)).bind fun x3 => (if x3.1 < 0 then (some (([] : List S22), false)) else (if (x1.length + ([(⟨x3.1, x3.2, (at_ a1.f1 (wrap64 (x2 - 1))).f2, (at_ a1.f1 x2).f1, a2⟩ : S22)] : List S22).length) * 40 ≤ 70368744177664 then (impl_Net_usesOf.l0 k a0 a1 a2 (x1 ++ ([(⟨x3.1, x3.2, (at_ a1.f1 (wrap64 (x2 - 1))).f2, (at_ a1.f1 x2).f1, a2⟩ : S22)] : List S22)) (wrap64 (x2 + 1))) else none))) else none) else none) else none) else (some (x1, true)))
def impl_Net_usesOf.f (k : Nat) (a0 : S46) (a1 : S66) (a2 : Int) : Option ((List S22) × Bool) := (impl_Net_usesOf.l0 k a0 a1 a2 ([] : List S22) 1)
theorem impl_Net_usesOf.lab : ∀ k, (∀ (a0 : S46) (a1 : S66) (a2 : Int) (x1 : (List S22)) (x2 : Int) (r : ((List S22) × Bool)), impl_Net_usesOf.l0 k a0 a1 a2 x1 x2 = some r → J prog (.run 78 [] [l_ 58, b_ 0, c_ 15] [(2, (I a2)), (3, (.pt 256 0 2)), (4, (.pt 257 0 2)), (8, (.rf 512 0 x1.length 5 (x1.length * 5))), (9, (I x2))] [(256, [(I a0.f0), (.sl true a0.f1.length 4 (a0.f1.flatMap e95))]), (257, [(S a1.f0), (.sl true a1.f1.length 3 (a1.f1.flatMap e89))]), (512, (x1.flatMap e22))] (.tp [(.rf 512 0 r.1.length 5 (r.1.length * 5)), (B r.2)]) [(512, (r.1.flatMap e22))]))
 | 0 => (by intro a0 a1 a2 x1 x2 r h; unfold impl_Net_usesOf.l0 at h; cases h)
 | k + 1 => by
  have ih0 := impl_Net_usesOf.lab k
  · intro a0 a1 a2 x1 x2 r h
    unfold impl_Net_usesOf.l0 at h
    refine .loop' [c_ 464, c_ 465, c_ 233, l_ 58, b_ 0, c_ 15] ?_
    refine .reg' [2, 3, 4, 8, 9, 19] [] ⟨[(2, (I a2)), (3, (.pt 256 0 2)), (4, (.pt 257 0 2)), (8, (.rf 512 0 x1.length 5 (x1.length * 5))), (9, (I x2)), (19, (B (decide (x2 < (a1.f1.length : Int)))))], [(256, [(I a0.f0), (.sl true a0.f1.length 4 (a0.f1.flatMap e95))]), (257, [(S a1.f0), (.sl true a1.f1.length 3 (a1.f1.flatMap e89))]), (512, (x1.flatMap e22))], [2 = 2 ∧ 1 + 1 ≤ 2], []⟩ [c_ 465, c_ 233, l_ 58, b_ 0, c_ 15] (alc ⟨rfl, by decide⟩ aln) nocal ?_
    by_cases c1 : x2 < (a1.f1.length : Int)
    · rw [if_pos c1] at h
      refine .cond' (.tmp 19) true [c_ 1864, c_ 1865, b_ 1, c_ 467, l_ 58, b_ 0, c_ 15] (bT (dT c1)) ?_
      by_cases c2 : 0 ≤ (wrap64 (x2 - 1))
      · rw [if_pos c2] at h
        by_cases c3 : (wrap64 (x2 - 1)) < (a1.f1.length : Int)
        · rw [if_pos c3] at h
          by_cases c4 : 0 ≤ x2
          · rw [if_pos c4] at h
            refine .reg' [2, 3, 4, 8, 9, 10, 11] [.no, .no, .no, .no, .no, .v (.ag [(I (at_ a1.f1 (wrap64 (x2 - 1))).f0), (I (at_ a1.f1 (wrap64 (x2 - 1))).f1), (I (at_ a1.f1 (wrap64 (x2 - 1))).f2)]), .no, .no, .no, .no, .v (.ag [(I (at_ a1.f1 x2).f0), (I (at_ a1.f1 x2).f1), (I (at_ a1.f1 x2).f2)])] ⟨[(2, (I a2)), (3, (.pt 256 0 2)), (4, (.pt 257 0 2)), (8, (.rf 512 0 x1.length 5 (x1.length * 5))), (9, (I x2)), (10, (.pt 1547 0 3)), (11, (.pt 1548 0 3))], [(256, [(I a0.f0), (.sl true a0.f1.length 4 (a0.f1.flatMap e95))]), (257, [(S a1.f0), (.sl true a1.f1.length 3 (a1.f1.flatMap e89))]), (512, (x1.flatMap e22)), (1547, [(I (at_ a1.f1 (wrap64 (x2 - 1))).f0), (I (at_ a1.f1 (wrap64 (x2 - 1))).f1), (I (at_ a1.f1 (wrap64 (x2 - 1))).f2)]), (1548, [(I (at_ a1.f1 x2).f0), (I (at_ a1.f1 x2).f1), (I (at_ a1.f1 x2).f2)])], [2 = 2 ∧ 1 + 1 ≤ 2, (0 : Int) ≤ (wrap64 (x2 - 1)) ∧ (wrap64 (x2 - 1)) < (a1.f1.length : Int), rdC prog 90 ((a1.f1.flatMap e89).drop ((wrap64 (x2 - 1)).toNat * 3)) = (.ag [(I (at_ a1.f1 (wrap64 (x2 - 1))).f0), (I (at_ a1.f1 (wrap64 (x2 - 1))).f1), (I (at_ a1.f1 (wrap64 (x2 - 1))).f2)]), 3 ≤ ((a1.f1.flatMap e89).drop ((wrap64 (x2 - 1)).toNat * 3)).length, 2 = 2 ∧ 1 + 1 ≤ 2, (0 : Int) ≤ x2 ∧ x2 < (a1.f1.length : Int), rdC prog 90 ((a1.f1.flatMap e89).drop (x2.toNat * 3)) = (.ag [(I (at_ a1.f1 x2).f0), (I (at_ a1.f1 x2).f1), (I (at_ a1.f1 x2).f2)]), 3 ≤ ((a1.f1.flatMap e89).drop (x2.toNat * 3)).length, 3 = 3 ∧ 0 + 3 ≤ 3, 3 = 3 ∧ 0 + 3 ≤ 3], []⟩ [c_ 3730, c_ 3731, b_ 1, c_ 467, l_ 58, b_ 0, c_ 15] (alc ⟨rfl, by decide⟩ (alc ⟨c2, c3⟩ (alc (ldA e89_ok rfl rfl c2 c3) (alc (okI e89_ok c2 c3 (by decide)) (alc ⟨rfl, by decide⟩ (alc ⟨c4, c1⟩ (alc (ldA e89_ok rfl rfl c4 c1) (alc (okI e89_ok c4 c1 (by decide)) (alc ⟨rfl, by decide⟩ (alc ⟨rfl, by decide⟩ aln)))))))))) nocal ?_
            obtain ⟨x3, hx3, h⟩ := Option.bind_eq_some_iff.mp h
            refine .reg' [2, 3, 4, 8, 9, 10, 11, 12, 13] [.no, .no, .no, .no, .no, .c ⟨96, [(.ag [(I a0.f0), (.sl true a0.f1.length 4 (a0.f1.flatMap e95))]), (I (at_ a1.f1 (wrap64 (x2 - 1))).f0), (I (at_ a1.f1 x2).f0)], [], (.tp [(I x3.1), (I x3.2)]), [], [], [], [], (.tp [(I x3.1), (I x3.2)]), []⟩] ⟨[(2, (I a2)), (3, (.pt 256 0 2)), (4, (.pt 257 0 2)), (8, (.rf 512 0 x1.length 5 (x1.length * 5))), (9, (I x2)), (10, (.pt 1547 0 3)), (11, (.pt 1548 0 3)), (12, (I x3.1)), (13, (I x3.2))], [(256, [(I a0.f0), (.sl true a0.f1.length 4 (a0.f1.flatMap e95))]), (257, [(S a1.f0), (.sl true a1.f1.length 3 (a1.f1.flatMap e89))]), (512, (x1.flatMap e22)), (1547, [(I (at_ a1.f1 (wrap64 (x2 - 1))).f0), (I (at_ a1.f1 (wrap64 (x2 - 1))).f1), (I (at_ a1.f1 (wrap64 (x2 - 1))).f2)]), (1548, [(I (at_ a1.f1 x2).f0), (I (at_ a1.f1 x2).f1), (I (at_ a1.f1 x2).f2)])], [2 = 2 ∧ 0 + 2 ≤ 2, 3 = 3 ∧ 0 + 1 ≤ 3, 3 = 3 ∧ 0 + 1 ≤ 3, COK (hget [(256, [(I a0.f0), (.sl true a0.f1.length 4 (a0.f1.flatMap e95))]), (257, [(S a1.f0), (.sl true a1.f1.length 3 (a1.f1.flatMap e89))]), (512, (x1.flatMap e22)), (1547, [(I (at_ a1.f1 (wrap64 (x2 - 1))).f0), (I (at_ a1.f1 (wrap64 (x2 - 1))).f1), (I (at_ a1.f1 (wrap64 (x2 - 1))).f2)]), (1548, [(I (at_ a1.f1 x2).f0), (I (at_ a1.f1 x2).f1), (I (at_ a1.f1 x2).f2)])]) [(.ag [(I a0.f0), (.sl true a0.f1.length 4 (a0.f1.flatMap e95))]), (I (at_ a1.f1 (wrap64 (x2 - 1))).f0), (I (at_ a1.f1 x2).f0)] ⟨96, [(.ag [(I a0.f0), (.sl true a0.f1.length 4 (a0.f1.flatMap e95))]), (I (at_ a1.f1 (wrap64 (x2 - 1))).f0), (I (at_ a1.f1 x2).f0)], [], (.tp [(I x3.1), (I x3.2)]), [], [], [], [], (.tp [(I x3.1), (I x3.2)]), []⟩], [⟨96, [(.ag [(I a0.f0), (.sl true a0.f1.length 4 (a0.f1.flatMap e95))]), (I (at_ a1.f1 (wrap64 (x2 - 1))).f0), (I (at_ a1.f1 x2).f0)], [], (.tp [(I x3.1), (I x3.2)]), [], [], [], [], (.tp [(I x3.1), (I x3.2)]), []⟩]⟩ [c_ 14924, c_ 14925, c_ 7463, b_ 1, c_ 467, l_ 58, b_ 0, c_ 15] (alc ⟨rfl, by decide⟩ (alc ⟨rfl, by decide⟩ (alc ⟨rfl, by decide⟩ (alc (cok0 false (a2c (.z (frz_ag (a2c .s (a2c (frz_sl e95_ok (fun h => h)) a2n)))) (a2c (.z .s) (a2c (.z .s) a2n))) (bck_tp (a2c (.z .s) (a2c (.z .s) a2n))) (fun h => absurd h (by decide))) aln)))) (acal (impl_Net_joining.J k a0 ((at_ a1.f1 (wrap64 (x2 - 1))).f0) ((at_ a1.f1 x2).f0) _ hx3) nocal) ?_
            refine .reg' [2, 3, 4, 8, 9, 10, 11, 12, 13, 43] [] ⟨[(2, (I a2)), (3, (.pt 256 0 2)), (4, (.pt 257 0 2)), (8, (.rf 512 0 x1.length 5 (x1.length * 5))), (9, (I x2)), (10, (.pt 1547 0 3)), (11, (.pt 1548 0 3)), (12, (I x3.1)), (13, (I x3.2)), (43, (B (decide (x3.1 < 0))))], [(256, [(I a0.f0), (.sl true a0.f1.length 4 (a0.f1.flatMap e95))]), (257, [(S a1.f0), (.sl true a1.f1.length 3 (a1.f1.flatMap e89))]), (512, (x1.flatMap e22)), (1547, [(I (at_ a1.f1 (wrap64 (x2 - 1))).f0), (I (at_ a1.f1 (wrap64 (x2 - 1))).f1), (I (at_ a1.f1 (wrap64 (x2 - 1))).f2)]), (1548, [(I (at_ a1.f1 x2).f0), (I (at_ a1.f1 x2).f1), (I (at_ a1.f1 x2).f2)])], [], []⟩ [c_ 14925, c_ 7463, b_ 1, c_ 467, l_ 58, b_ 0, c_ 15] aln nocal ?_
            by_cases c5 : x3.1 < 0
            · rw [if_pos c5] at h
              refine .cond' (.tmp 43) true [c_ 59700, c_ 59701, c_ 7463, b_ 1, c_ 467, l_ 58, b_ 0, c_ 15] (bT (dT c5)) ?_
              refine .reg' [6, 7] [] ⟨[(6, nilS), (7, (B false))], [(256, [(I a0.f0), (.sl true a0.f1.length 4 (a0.f1.flatMap e95))]), (257, [(S a1.f0), (.sl true a1.f1.length 3 (a1.f1.flatMap e89))]), (512, (x1.flatMap e22)), (1547, [(I (at_ a1.f1 (wrap64 (x2 - 1))).f0), (I (at_ a1.f1 (wrap64 (x2 - 1))).f1), (I (at_ a1.f1 (wrap64 (x2 - 1))).f2)]), (1548, [(I (at_ a1.f1 x2).f0), (I (at_ a1.f1 x2).f1), (I (at_ a1.f1 x2).f2)])], [], []⟩ [c_ 59701, c_ 7463, b_ 1, c_ 467, l_ 58, b_ 0, c_ 15] aln nocal ?_
              have h := Option.some.inj h
              subst h
              refine .nl' 513 ?_
              exact .fin' [] [(513, 512)] (.tp [nilS, (B false)]) [] aln (shc 513 (rowF e22_ok _) shn) (cnv_tp (a2c (.nl (memP_mem (p := (513, 512)) rfl) rfl) (a2c (.z .s) a2n)))
            · rw [if_neg c5] at h
              refine .cond' (.tmp 43) false [c_ 7463, b_ 1, c_ 467, l_ 58, b_ 0, c_ 15] (bF (dF c5)) ?_
              by_cases c6 : (x1.length + ([(⟨x3.1, x3.2, (at_ a1.f1 (wrap64 (x2 - 1))).f2, (at_ a1.f1 x2).f1, a2⟩ : S22)] : List S22).length) * 40 ≤ 70368744177664
              · rw [if_pos c6] at h
                refine .reg' [2, 3, 4, 8, 9] [.no, .no, .no, .no, .no, .no, .no, .no, .no, .no, .w (.rf 512 0 ((x1 ++ ([(⟨x3.1, x3.2, (at_ a1.f1 (wrap64 (x2 - 1))).f2, (at_ a1.f1 x2).f1, a2⟩ : S22)] : List S22)).length) 5 ((x1 ++ ([(⟨x3.1, x3.2, (at_ a1.f1 (wrap64 (x2 - 1))).f2, (at_ a1.f1 x2).f1, a2⟩ : S22)] : List S22)).length * 5)) ((x1 ++ ([(⟨x3.1, x3.2, (at_ a1.f1 (wrap64 (x2 - 1))).f2, (at_ a1.f1 x2).f1, a2⟩ : S22)] : List S22)).flatMap e22)] ⟨[(2, (I a2)), (3, (.pt 256 0 2)), (4, (.pt 257 0 2)), (8, (.rf 512 0 ((x1 ++ ([(⟨x3.1, x3.2, (at_ a1.f1 (wrap64 (x2 - 1))).f2, (at_ a1.f1 x2).f1, a2⟩ : S22)] : List S22)).length) 5 ((x1 ++ ([(⟨x3.1, x3.2, (at_ a1.f1 (wrap64 (x2 - 1))).f2, (at_ a1.f1 x2).f1, a2⟩ : S22)] : List S22)).length * 5))), (9, (I x2))], [(256, [(I a0.f0), (.sl true a0.f1.length 4 (a0.f1.flatMap e95))]), (257, [(S a1.f0), (.sl true a1.f1.length 3 (a1.f1.flatMap e89))]), (512, ((x1 ++ ([(⟨x3.1, x3.2, (at_ a1.f1 (wrap64 (x2 - 1))).f2, (at_ a1.f1 x2).f1, a2⟩ : S22)] : List S22)).flatMap e22)), (1547, [(I (at_ a1.f1 (wrap64 (x2 - 1))).f0), (I (at_ a1.f1 (wrap64 (x2 - 1))).f1), (I (at_ a1.f1 (wrap64 (x2 - 1))).f2)]), (1548, [(I (at_ a1.f1 x2).f0), (I (at_ a1.f1 x2).f1), (I (at_ a1.f1 x2).f2)]), (2569, (([(⟨x3.1, x3.2, (at_ a1.f1 (wrap64 (x2 - 1))).f2, (at_ a1.f1 x2).f1, a2⟩ : S22)] : List S22).flatMap e22))], [3 = 3 ∧ 2 + 1 ≤ 3, 3 = 3 ∧ 1 + 1 ≤ 3, V.rf 512 0 (x1.length + ([(⟨x3.1, x3.2, (at_ a1.f1 (wrap64 (x2 - 1))).f2, (at_ a1.f1 x2).f1, a2⟩ : S22)] : List S22).length) 5 (x1.length * 5 + ([(⟨x3.1, x3.2, (at_ a1.f1 (wrap64 (x2 - 1))).f2, (at_ a1.f1 x2).f1, a2⟩ : S22)] : List S22).length * 5) = (.rf 512 0 ((x1 ++ ([(⟨x3.1, x3.2, (at_ a1.f1 (wrap64 (x2 - 1))).f2, (at_ a1.f1 x2).f1, a2⟩ : S22)] : List S22)).length) 5 ((x1 ++ ([(⟨x3.1, x3.2, (at_ a1.f1 (wrap64 (x2 - 1))).f2, (at_ a1.f1 x2).f1, a2⟩ : S22)] : List S22)).length * 5)), x1.flatMap e22 ++ (((([(⟨x3.1, x3.2, (at_ a1.f1 (wrap64 (x2 - 1))).f2, (at_ a1.f1 x2).f1, a2⟩ : S22)] : List S22).flatMap e22).drop 0).take (([(⟨x3.1, x3.2, (at_ a1.f1 (wrap64 (x2 - 1))).f2, (at_ a1.f1 x2).f1, a2⟩ : S22)] : List S22).length * 5)) = ((x1 ++ ([(⟨x3.1, x3.2, (at_ a1.f1 (wrap64 (x2 - 1))).f2, (at_ a1.f1 x2).f1, a2⟩ : S22)] : List S22)).flatMap e22), (([(⟨x3.1, x3.2, (at_ a1.f1 (wrap64 (x2 - 1))).f2, (at_ a1.f1 x2).f1, a2⟩ : S22)] : List S22).length * 5 = (([(⟨x3.1, x3.2, (at_ a1.f1 (wrap64 (x2 - 1))).f2, (at_ a1.f1 x2).f1, a2⟩ : S22)] : List S22).flatMap e22).length ∧ 0 + ([(⟨x3.1, x3.2, (at_ a1.f1 (wrap64 (x2 - 1))).f2, (at_ a1.f1 x2).f1, a2⟩ : S22)] : List S22).length * 5 ≤ (([(⟨x3.1, x3.2, (at_ a1.f1 (wrap64 (x2 - 1))).f2, (at_ a1.f1 x2).f1, a2⟩ : S22)] : List S22).flatMap e22).length) ∧ x1.length * 5 = (x1.flatMap e22).length ∧ x1.length * 5 = (x1.flatMap e22).length ∧ (x1.length + ([(⟨x3.1, x3.2, (at_ a1.f1 (wrap64 (x2 - 1))).f2, (at_ a1.f1 x2).f1, a2⟩ : S22)] : List S22).length) * 40 ≤ 70368744177664], []⟩ [c_ 467, l_ 58, b_ 0, c_ 15] (alc ⟨rfl, by decide⟩ (alc ⟨rfl, by decide⟩ (alc (apV rfl) (alc (apR e22_ok rfl) (alc (apO e22_ok rfl c6 rfl) aln))))) nocal ?_
                refine .reg' [2, 3, 4, 8, 9] [] ⟨[(2, (I a2)), (3, (.pt 256 0 2)), (4, (.pt 257 0 2)), (8, (.rf 512 0 ((x1 ++ ([(⟨x3.1, x3.2, (at_ a1.f1 (wrap64 (x2 - 1))).f2, (at_ a1.f1 x2).f1, a2⟩ : S22)] : List S22)).length) 5 ((x1 ++ ([(⟨x3.1, x3.2, (at_ a1.f1 (wrap64 (x2 - 1))).f2, (at_ a1.f1 x2).f1, a2⟩ : S22)] : List S22)).length * 5))), (9, (I (wrap64 (x2 + 1))))], [(256, [(I a0.f0), (.sl true a0.f1.length 4 (a0.f1.flatMap e95))]), (257, [(S a1.f0), (.sl true a1.f1.length 3 (a1.f1.flatMap e89))]), (512, ((x1 ++ ([(⟨x3.1, x3.2, (at_ a1.f1 (wrap64 (x2 - 1))).f2, (at_ a1.f1 x2).f1, a2⟩ : S22)] : List S22)).flatMap e22)), (1547, [(I (at_ a1.f1 (wrap64 (x2 - 1))).f0), (I (at_ a1.f1 (wrap64 (x2 - 1))).f1), (I (at_ a1.f1 (wrap64 (x2 - 1))).f2)]), (1548, [(I (at_ a1.f1 x2).f0), (I (at_ a1.f1 x2).f1), (I (at_ a1.f1 x2).f2)]), (2569, (([(⟨x3.1, x3.2, (at_ a1.f1 (wrap64 (x2 - 1))).f2, (at_ a1.f1 x2).f1, a2⟩ : S22)] : List S22).flatMap e22))], [], []⟩ [l_ 58, b_ 0, c_ 15] aln nocal ?_
                refine .wk' [] [(256, 256), (257, 257), (512, 512)] [(2, (I a2)), (3, (.pt 256 0 2)), (4, (.pt 257 0 2)), (8, (.rf 512 0 ((x1 ++ ([(⟨x3.1, x3.2, (at_ a1.f1 (wrap64 (x2 - 1))).f2, (at_ a1.f1 x2).f1, a2⟩ : S22)] : List S22)).length) 5 ((x1 ++ ([(⟨x3.1, x3.2, (at_ a1.f1 (wrap64 (x2 - 1))).f2, (at_ a1.f1 x2).f1, a2⟩ : S22)] : List S22)).length * 5))), (9, (I (wrap64 (x2 + 1))))] [(256, [(I a0.f0), (.sl true a0.f1.length 4 (a0.f1.flatMap e95))]), (257, [(S a1.f0), (.sl true a1.f1.length 3 (a1.f1.flatMap e89))]), (512, ((x1 ++ ([(⟨x3.1, x3.2, (at_ a1.f1 (wrap64 (x2 - 1))).f2, (at_ a1.f1 x2).f1, a2⟩ : S22)] : List S22)).flatMap e22))] (shc 256 (a2c (.z .s) (a2c (.z (frz_sl e95_ok (fun h => h))) a2n)) (shc 257 (a2c (.z .s) (a2c (.z (frz_sl e89_ok (fun h => h))) a2n)) (shc 512 (rowF e22_ok _) shn))) (enc_ (.z .s) (enc_ (.pt (memP_mem (p := (256, 256)) rfl)) (enc_ (.pt (memP_mem (p := (257, 257)) rfl)) (enc_ (.rf (memP_mem (p := (512, 512)) rfl)) (enc_ (.z .s) enn))))) ?_
                exact ih0 a0 a1 a2 (x1 ++ ([(⟨x3.1, x3.2, (at_ a1.f1 (wrap64 (x2 - 1))).f2, (at_ a1.f1 x2).f1, a2⟩ : S22)] : List S22)) (wrap64 (x2 + 1)) _ h
              · rw [if_neg c6] at h
                cases h
          · rw [if_neg c4] at h
            cases h
        · rw [if_neg c3] at h
          cases h
      · rw [if_neg c2] at h
        cases h
    · rw [if_neg c1] at h
      refine .cond' (.tmp 19) false [c_ 30, c_ 31] (bF (dF c1)) ?_
      refine .reg' [6, 7] [] ⟨[(6, (.rf 512 0 x1.length 5 (x1.length * 5))), (7, (B true))], [(256, [(I a0.f0), (.sl true a0.f1.length 4 (a0.f1.flatMap e95))]), (257, [(S a1.f0), (.sl true a1.f1.length 3 (a1.f1.flatMap e89))]), (512, (x1.flatMap e22))], [], []⟩ [c_ 31] aln nocal ?_
      have h := Option.some.inj h
      subst h
      exact .fin' [] [(512, 512)] (.tp [(.rf 512 0 x1.length 5 (x1.length * 5)), (B true)]) [] aln (shc 512 (rowF e22_ok _) shn) (cnv_tp (a2c (.rf (memP_mem (p := (512, 512)) rfl)) (a2c (.z .s) a2n)))
theorem impl_Net_usesOf.J (k : Nat) (a0 : S46) (a1 : S66) (a2 : Int) (r : ((List S22) × Bool)) (h : impl_Net_usesOf.f k a0 a1 a2 = some r) : J prog (.call 78 [(.ag [(I a0.f0), (.sl true a0.f1.length 4 (a0.f1.flatMap e95))]), (.ag [(S a1.f0), (.sl true a1.f1.length 3 (a1.f1.flatMap e89))]), (I a2)] [] (.tp [(.rf 512 0 r.1.length 5 (r.1.length * 5)), (B r.2)]) [(512, (r.1.flatMap e22))]) := by
  unfold impl_Net_usesOf.f at h
  have ih0 := impl_Net_usesOf.lab k
  refine .call' [c_ 2, c_ 3] ?_
  refine .reg' [2, 3, 4] [] ⟨[(2, (I a2)), (3, (.pt 256 0 2)), (4, (.pt 257 0 2))], [(256, [(I a0.f0), (.sl true a0.f1.length 4 (a0.f1.flatMap e95))]), (257, [(S a1.f0), (.sl true a1.f1.length 3 (a1.f1.flatMap e89))])], [], []⟩ [c_ 6, c_ 7] aln nocal ?_
  refine .reg' [2, 3, 4, 8] [] ⟨[(2, (I a2)), (3, (.pt 256 0 2)), (4, (.pt 257 0 2)), (8, (.rf 512 0 (([] : List S22).length) 5 (([] : List S22).length * 5)))], [(256, [(I a0.f0), (.sl true a0.f1.length 4 (a0.f1.flatMap e95))]), (257, [(S a1.f0), (.sl true a1.f1.length 3 (a1.f1.flatMap e89))]), (512, (([] : List S22).flatMap e22))], [], []⟩ [c_ 28, c_ 29, c_ 15] aln nocal ?_
  refine .reg' [2, 3, 4, 8, 9] [] ⟨[(2, (I a2)), (3, (.pt 256 0 2)), (4, (.pt 257 0 2)), (8, (.rf 512 0 (([] : List S22).length) 5 (([] : List S22).length * 5))), (9, (I 1))], [(256, [(I a0.f0), (.sl true a0.f1.length 4 (a0.f1.flatMap e95))]), (257, [(S a1.f0), (.sl true a1.f1.length 3 (a1.f1.flatMap e89))]), (512, (([] : List S22).flatMap e22))], [], []⟩ [l_ 58, b_ 0, c_ 15] aln nocal ?_
  exact ih0 a0 a1 a2 ([] : List S22) 1 _ h
/-! impl_usesOfAll: function 66 -/
def impl_usesOfAll.l0 : Nat → S46 → (List S66) → (List S22) → Int → Option ((List S22) × Bool)
 | 0, _, _, _, _ => none
 | k + 1, a0, a1, x3, x4 => (if x4 < (a1.length : Int) then (if 0 ≤ x4 then ((impl_Net_usesOf.f k a0 (at_ a1 x4) x4).bind fun x5 => (if x5.2 = true then (if (x3.length + x5.1.length) * 40 ≤ 70368744177664 then (impl_usesOfAll.l0 k a0 a1 (x3 ++ x5.1) (wrap64 (x4 + 1))) else none) else (some (([] : List S22), false)))) else none) else (some (x3, true)))
def impl_usesOfAll.f (k : Nat) (a0 : S46) (a1 : (List S66)) : Option ((List S22) × Bool) := ((impl_NetOk.f k a0).bind fun x1 => (if x1 = true then ((impl_TableOk.f k a1).bind fun x2 => (if x2 = true then (impl_usesOfAll.l0 k a0 a1 ([] : List S22) 0) else (some (([] : List S22), false)))) else (some (([] : List S22), false))))
theorem impl_usesOfAll.lab : ∀ k, (∀ (a0 : S46) (a1 : (List S66)) (x3 : (List S22)) (x4 : Int) (r : ((List S22) × Bool)), impl_usesOfAll.l0 k a0 a1 x3 x4 = some r → J prog (.run 66 [] [l_ 122, b_ 0, c_ 31] [(2, (.pt 256 0 2)), (6, (.rf 1024 0 x3.length 5 (x3.length * 5))), (20, (.sl true a1.length 2 (a1.flatMap (e66 true)))), (21, (I (a1.length : Int))), (22, (I x4))] [(256, [(I a0.f0), (.sl true a0.f1.length 4 (a0.f1.flatMap e95))]), (1024, (x3.flatMap e22))] (.tp [(.rf 1024 0 r.1.length 5 (r.1.length * 5)), (B r.2)]) [(1024, (r.1.flatMap e22))]))
 | 0 => (by intro a0 a1 x3 x4 r h; unfold impl_usesOfAll.l0 at h; cases h)
 | k + 1 => by
  have ih0 := impl_usesOfAll.lab k
  · intro a0 a1 x3 x4 r h
    unfold impl_usesOfAll.l0 at h
    refine .loop' [c_ 488, c_ 489, l_ 122, b_ 0, c_ 31] ?_
    refine .reg' [2, 6, 20, 21, 22, 23] [] ⟨[(2, (.pt 256 0 2)), (6, (.rf 1024 0 x3.length 5 (x3.length * 5))), (20, (.sl true a1.length 2 (a1.flatMap (e66 true)))), (21, (I (a1.length : Int))), (22, (I x4)), (23, (B (decide (x4 < (a1.length : Int)))))], [(256, [(I a0.f0), (.sl true a0.f1.length 4 (a0.f1.flatMap e95))]), (1024, (x3.flatMap e22))], [], []⟩ [c_ 978, c_ 979, l_ 122, b_ 0, c_ 31] aln nocal ?_
    by_cases c3 : x4 < (a1.length : Int)
    · rw [if_pos c3] at h
      refine .cond' (.tmp 23) true [c_ 7832, c_ 7833, b_ 1, c_ 1959, l_ 122, b_ 0, c_ 31] (bT (dT c3)) ?_
      by_cases c4 : 0 ≤ x4
      · rw [if_pos c4] at h
        refine .reg' [2, 6, 7, 8, 20, 21, 22] [.no, .no, .v (.ag [(S (at_ a1 x4).f0), (.sl true (at_ a1 x4).f1.length 3 ((at_ a1 x4).f1.flatMap e89))])] ⟨[(2, (.pt 256 0 2)), (6, (.rf 1024 0 x3.length 5 (x3.length * 5))), (7, (I x4)), (8, (.pt 1795 0 2)), (20, (.sl true a1.length 2 (a1.flatMap (e66 true)))), (21, (I (a1.length : Int))), (22, (I x4))], [(256, [(I a0.f0), (.sl true a0.f1.length 4 (a0.f1.flatMap e95))]), (1024, (x3.flatMap e22)), (1795, [(S (at_ a1 x4).f0), (.sl true (at_ a1 x4).f1.length 3 ((at_ a1 x4).f1.flatMap e89))])], [(0 : Int) ≤ x4 ∧ x4 < (a1.length : Int), rdC prog 67 ((a1.flatMap (e66 true)).drop (x4.toNat * 2)) = (.ag [(S (at_ a1 x4).f0), (.sl true (at_ a1 x4).f1.length 3 ((at_ a1 x4).f1.flatMap e89))]), 2 ≤ ((a1.flatMap (e66 true)).drop (x4.toNat * 2)).length, 2 = 2 ∧ 0 + 2 ≤ 2], []⟩ [c_ 15666, c_ 15667, b_ 1, c_ 1959, l_ 122, b_ 0, c_ 31] (alc ⟨c4, c3⟩ (alc (ldA (e66_ok true) rfl rfl c4 c3) (alc (okI (e66_ok true) c4 c3 (by decide)) (alc ⟨rfl, by decide⟩ aln)))) nocal ?_
        obtain ⟨x5, hx5, h⟩ := Option.bind_eq_some_iff.mp h
        refine .reg' [2, 6, 9, 10, 20, 21, 22] [.no, .no, .no, .c ⟨78, [(.ag [(I a0.f0), (.sl true a0.f1.length 4 (a0.f1.flatMap e95))]), (.ag [(S (at_ a1 x4).f0), (.sl true (at_ a1 x4).f1.length 3 ((at_ a1 x4).f1.flatMap e89))]), (I x4)], [], (.tp [(.rf 512 0 x5.1.length 5 (x5.1.length * 5)), (B x5.2)]), [(512, (x5.1.flatMap e22))], [], [], [(1002051, 512)], (.tp [(.rf 1002051 0 x5.1.length 5 (x5.1.length * 5)), (B x5.2)]), [(1002051, (x5.1.flatMap e22))]⟩] ⟨[(2, (.pt 256 0 2)), (6, (.rf 1024 0 x3.length 5 (x3.length * 5))), (9, (.rf 1002051 0 x5.1.length 5 (x5.1.length * 5))), (10, (B x5.2)), (20, (.sl true a1.length 2 (a1.flatMap (e66 true)))), (21, (I (a1.length : Int))), (22, (I x4))], [(256, [(I a0.f0), (.sl true a0.f1.length 4 (a0.f1.flatMap e95))]), (1024, (x3.flatMap e22)), (1795, [(S (at_ a1 x4).f0), (.sl true (at_ a1 x4).f1.length 3 ((at_ a1 x4).f1.flatMap e89))]), (1002051, (x5.1.flatMap e22))], [2 = 2 ∧ 0 + 2 ≤ 2, 2 = 2 ∧ 0 + 2 ≤ 2, COK (hget [(256, [(I a0.f0), (.sl true a0.f1.length 4 (a0.f1.flatMap e95))]), (1024, (x3.flatMap e22)), (1795, [(S (at_ a1 x4).f0), (.sl true (at_ a1 x4).f1.length 3 ((at_ a1 x4).f1.flatMap e89))])]) [(.ag [(I a0.f0), (.sl true a0.f1.length 4 (a0.f1.flatMap e95))]), (.ag [(S (at_ a1 x4).f0), (.sl true (at_ a1 x4).f1.length 3 ((at_ a1 x4).f1.flatMap e89))]), (I x4)] ⟨78, [(.ag [(I a0.f0), (.sl true a0.f1.length 4 (a0.f1.flatMap e95))]), (.ag [(S (at_ a1 x4).f0), (.sl true (at_ a1 x4).f1.length 3 ((at_ a1 x4).f1.flatMap e89))]), (I x4)], [], (.tp [(.rf 512 0 x5.1.length 5 (x5.1.length * 5)), (B x5.2)]), [(512, (x5.1.flatMap e22))], [], [], [(1002051, 512)], (.tp [(.rf 1002051 0 x5.1.length 5 (x5.1.length * 5)), (B x5.2)]), [(1002051, (x5.1.flatMap e22))]⟩], [⟨78, [(.ag [(I a0.f0), (.sl true a0.f1.length 4 (a0.f1.flatMap e95))]), (.ag [(S (at_ a1 x4).f0), (.sl true (at_ a1 x4).f1.length 3 ((at_ a1 x4).f1.flatMap e89))]), (I x4)], [], (.tp [(.rf 512 0 x5.1.length 5 (x5.1.length * 5)), (B x5.2)]), [(512, (x5.1.flatMap e22))], [], [], [(1002051, 512)], (.tp [(.rf 1002051 0 x5.1.length 5 (x5.1.length * 5)), (B x5.2)]), [(1002051, (x5.1.flatMap e22))]⟩]⟩ [c_ 62668, c_ 62669, c_ 31335, b_ 1, c_ 1959, l_ 122, b_ 0, c_ 31] (alc ⟨rfl, by decide⟩ (alc ⟨rfl, by decide⟩ (alc (cokW false (a2c (.z (frz_ag (a2c .s (a2c (frz_sl e95_ok (fun h => h)) a2n)))) (a2c (.z (frz_ag (a2c .s (a2c (frz_sl e89_ok (fun h => h)) a2n)))) (a2c (.z .s) a2n))) akn (akc (.inr rfl) akn) (bck_tp (a2c (.rf (memP_mem (p := (1002051, 512)) rfl)) (a2c (.z .s) a2n))) (akc ⟨_, _, rfl, rfl, rowB e22_c _⟩ akn) (fun h => absurd h (by decide))) aln))) (acal (impl_Net_usesOf.J k a0 (at_ a1 x4) x4 _ hx5) nocal) ?_
        refine .reg' [2, 6, 9, 20, 21, 22, 35] [] ⟨[(2, (.pt 256 0 2)), (6, (.rf 1024 0 x3.length 5 (x3.length * 5))), (9, (.rf 1002051 0 x5.1.length 5 (x5.1.length * 5))), (20, (.sl true a1.length 2 (a1.flatMap (e66 true)))), (21, (I (a1.length : Int))), (22, (I x4)), (35, (B (!x5.2)))], [(256, [(I a0.f0), (.sl true a0.f1.length 4 (a0.f1.flatMap e95))]), (1024, (x3.flatMap e22)), (1795, [(S (at_ a1 x4).f0), (.sl true (at_ a1 x4).f1.length 3 ((at_ a1 x4).f1.flatMap e89))]), (1002051, (x5.1.flatMap e22))], [], []⟩ [c_ 62669, c_ 31335, b_ 1, c_ 1959, l_ 122, b_ 0, c_ 31] aln nocal ?_
        by_cases c5 : x5.2 = true
        · rw [if_pos c5] at h
          refine .cond' (.tmp 35) false [c_ 31335, b_ 1, c_ 1959, l_ 122, b_ 0, c_ 31] (bF (nF c5)) ?_
          by_cases c6 : (x3.length + x5.1.length) * 40 ≤ 70368744177664
          · rw [if_pos c6] at h
            refine .reg' [2, 6, 20, 21, 22] [.no, .no, .w (.rf 1024 0 ((x3 ++ x5.1).length) 5 ((x3 ++ x5.1).length * 5)) ((x3 ++ x5.1).flatMap e22)] ⟨[(2, (.pt 256 0 2)), (6, (.rf 1024 0 ((x3 ++ x5.1).length) 5 ((x3 ++ x5.1).length * 5))), (20, (.sl true a1.length 2 (a1.flatMap (e66 true)))), (21, (I (a1.length : Int))), (22, (I x4))], [(256, [(I a0.f0), (.sl true a0.f1.length 4 (a0.f1.flatMap e95))]), (1024, ((x3 ++ x5.1).flatMap e22)), (1795, [(S (at_ a1 x4).f0), (.sl true (at_ a1 x4).f1.length 3 ((at_ a1 x4).f1.flatMap e89))]), (1002051, (x5.1.flatMap e22))], [V.rf 1024 0 (x3.length + x5.1.length) 5 (x3.length * 5 + x5.1.length * 5) = (.rf 1024 0 ((x3 ++ x5.1).length) 5 ((x3 ++ x5.1).length * 5)), x3.flatMap e22 ++ (((x5.1.flatMap e22).drop 0).take (x5.1.length * 5)) = ((x3 ++ x5.1).flatMap e22), (x5.1.length * 5 = (x5.1.flatMap e22).length ∧ 0 + x5.1.length * 5 ≤ (x5.1.flatMap e22).length) ∧ x3.length * 5 = (x3.flatMap e22).length ∧ x3.length * 5 = (x3.flatMap e22).length ∧ (x3.length + x5.1.length) * 40 ≤ 70368744177664], []⟩ [c_ 1959, l_ 122, b_ 0, c_ 31] (alc (apV rfl) (alc (apR e22_ok rfl) (alc (apO e22_ok rfl c6 rfl) aln))) nocal ?_
            refine .reg' [2, 6, 20, 21, 22] [] ⟨[(2, (.pt 256 0 2)), (6, (.rf 1024 0 ((x3 ++ x5.1).length) 5 ((x3 ++ x5.1).length * 5))), (20, (.sl true a1.length 2 (a1.flatMap (e66 true)))), (21, (I (a1.length : Int))), (22, (I (wrap64 (x4 + 1))))], [(256, [(I a0.f0), (.sl true a0.f1.length 4 (a0.f1.flatMap e95))]), (1024, ((x3 ++ x5.1).flatMap e22)), (1795, [(S (at_ a1 x4).f0), (.sl true (at_ a1 x4).f1.length 3 ((at_ a1 x4).f1.flatMap e89))]), (1002051, (x5.1.flatMap e22))], [], []⟩ [l_ 122, b_ 0, c_ 31] aln nocal ?_
            refine .wk' [] [(256, 256), (1024, 1024)] [(2, (.pt 256 0 2)), (6, (.rf 1024 0 ((x3 ++ x5.1).length) 5 ((x3 ++ x5.1).length * 5))), (20, (.sl true a1.length 2 (a1.flatMap (e66 true)))), (21, (I (a1.length : Int))), (22, (I (wrap64 (x4 + 1))))] [(256, [(I a0.f0), (.sl true a0.f1.length 4 (a0.f1.flatMap e95))]), (1024, ((x3 ++ x5.1).flatMap e22))] (shc 256 (a2c (.z .s) (a2c (.z (frz_sl e95_ok (fun h => h))) a2n)) (shc 1024 (rowF e22_ok _) shn)) (enc_ (.pt (memP_mem (p := (256, 256)) rfl)) (enc_ (.rf (memP_mem (p := (1024, 1024)) rfl)) (enc_ (.z (frz_sl (e66_ok true) (fun h => h))) (enc_ (.z .s) (enc_ (.z .s) enn))))) ?_
            exact ih0 a0 a1 (x3 ++ x5.1) (wrap64 (x4 + 1)) _ h
          · rw [if_neg c6] at h
            cases h
        · rw [if_neg c5] at h
          refine .cond' (.tmp 35) true [c_ 250676, c_ 250677, c_ 31335, b_ 1, c_ 1959, l_ 122, b_ 0, c_ 31] (bT (nT (vF c5))) ?_
          refine .reg' [4, 5] [] ⟨[(4, nilS), (5, (B false))], [(256, [(I a0.f0), (.sl true a0.f1.length 4 (a0.f1.flatMap e95))]), (1024, (x3.flatMap e22)), (1795, [(S (at_ a1 x4).f0), (.sl true (at_ a1 x4).f1.length 3 ((at_ a1 x4).f1.flatMap e89))]), (1002051, (x5.1.flatMap e22))], [], []⟩ [c_ 250677, c_ 31335, b_ 1, c_ 1959, l_ 122, b_ 0, c_ 31] aln nocal ?_
          have h := Option.some.inj h
          subst h
          refine .nl' 1025 ?_
          exact .fin' [] [(1025, 1024)] (.tp [nilS, (B false)]) [] aln (shc 1025 (rowF e22_ok _) shn) (cnv_tp (a2c (.nl (memP_mem (p := (1025, 1024)) rfl) rfl) (a2c (.z .s) a2n)))
      · rw [if_neg c4] at h
        cases h
    · rw [if_neg c3] at h
      refine .cond' (.tmp 23) false [c_ 62, c_ 63] (bF (dF c3)) ?_
      refine .reg' [4, 5] [] ⟨[(4, (.rf 1024 0 x3.length 5 (x3.length * 5))), (5, (B true))], [(256, [(I a0.f0), (.sl true a0.f1.length 4 (a0.f1.flatMap e95))]), (1024, (x3.flatMap e22))], [], []⟩ [c_ 63] aln nocal ?_
      have h := Option.some.inj h
      subst h
      exact .fin' [] [(1024, 1024)] (.tp [(.rf 1024 0 x3.length 5 (x3.length * 5)), (B true)]) [] aln (shc 1024 (rowF e22_ok _) shn) (cnv_tp (a2c (.rf (memP_mem (p := (1024, 1024)) rfl)) (a2c (.z .s) a2n)))
theorem impl_usesOfAll.J (k : Nat) (a0 : S46) (a1 : (List S66)) (r : ((List S22) × Bool)) (h : impl_usesOfAll.f k a0 a1 = some r) : J prog (.call 66 [(.ag [(I a0.f0), (.sl true a0.f1.length 4 (a0.f1.flatMap e95))]), (.sl true a1.length 2 (a1.flatMap (e66 true)))] [] (.tp [(.rf 1024 0 r.1.length 5 (r.1.length * 5)), (B r.2)]) [(1024, (r.1.flatMap e22))]) := by
  unfold impl_usesOfAll.f at h
  have ih0 := impl_usesOfAll.lab k
  refine .call' [c_ 2, c_ 3] ?_
  refine .reg' [1, 2] [] ⟨[(1, (.sl true a1.length 2 (a1.flatMap (e66 true)))), (2, (.pt 256 0 2))], [(256, [(I a0.f0), (.sl true a0.f1.length 4 (a0.f1.flatMap e95))])], [], []⟩ [c_ 12, c_ 13, c_ 7] aln nocal ?_
  obtain ⟨x1, hx1, h⟩ := Option.bind_eq_some_iff.mp h
  by_cases c1 : x1 = true
  · rw [if_pos c1] at h
    obtain ⟨x2, hx2, h⟩ := Option.bind_eq_some_iff.mp h
    refine .reg' [1, 2, 18] [.no, .c ⟨87, [(.ag [(I a0.f0), (.sl true a0.f1.length 4 (a0.f1.flatMap e95))])], [], (B x1), [], [], [], [], (B x1), []⟩, .no, .v (B false), .no, .c ⟨88, [(.sl true a1.length 2 (a1.flatMap (e66 true)))], [], (B x2), [], [], [], [], (B x2), []⟩] ⟨[(1, (.sl true a1.length 2 (a1.flatMap (e66 true)))), (2, (.pt 256 0 2)), (18, (B (!x2)))], [(256, [(I a0.f0), (.sl true a0.f1.length 4 (a0.f1.flatMap e95))])], [2 = 2 ∧ 0 + 2 ≤ 2, COK (hget [(256, [(I a0.f0), (.sl true a0.f1.length 4 (a0.f1.flatMap e95))])]) [(.ag [(I a0.f0), (.sl true a0.f1.length 4 (a0.f1.flatMap e95))])] ⟨87, [(.ag [(I a0.f0), (.sl true a0.f1.length 4 (a0.f1.flatMap e95))])], [], (B x1), [], [], [], [], (B x1), []⟩, (B (!x1) : V) = B false, COK (hget [(256, [(I a0.f0), (.sl true a0.f1.length 4 (a0.f1.flatMap e95))])]) [(.sl true a1.length 2 (a1.flatMap (e66 true)))] ⟨88, [(.sl true a1.length 2 (a1.flatMap (e66 true)))], [], (B x2), [], [], [], [], (B x2), []⟩], [⟨87, [(.ag [(I a0.f0), (.sl true a0.f1.length 4 (a0.f1.flatMap e95))])], [], (B x1), [], [], [], [], (B x1), []⟩, ⟨88, [(.sl true a1.length 2 (a1.flatMap (e66 true)))], [], (B x2), [], [], [], [], (B x2), []⟩]⟩ [c_ 13, c_ 7] (alc ⟨rfl, by decide⟩ (alc (cok0 false (a2c (.z (frz_ag (a2c .s (a2c (frz_sl e95_ok (fun h => h)) a2n)))) a2n) (.z .s) (fun h => absurd h (by decide))) (alc (bF (nF c1)) (alc (cok0 false (a2c (.z (frz_sl (e66_ok true) (fun h => h))) a2n) (.z .s) (fun h => absurd h (by decide))) aln)))) (acal (impl_NetOk.J k a0 _ hx1) (acal (impl_TableOk.J k a1 _ hx2) nocal)) ?_
    by_cases c2 : x2 = true
    · rw [if_pos c2] at h
      refine .cond' (.tmp 18) false [c_ 14, c_ 15] (bF (nF c2)) ?_
      refine .reg' [1, 2, 6] [] ⟨[(1, (.sl true a1.length 2 (a1.flatMap (e66 true)))), (2, (.pt 256 0 2)), (6, (.rf 1024 0 (([] : List S22).length) 5 (([] : List S22).length * 5)))], [(256, [(I a0.f0), (.sl true a0.f1.length 4 (a0.f1.flatMap e95))]), (1024, (([] : List S22).flatMap e22))], [], []⟩ [c_ 60, c_ 61, c_ 31] aln nocal ?_
      refine .reg' [2, 6, 20, 21, 22] [] ⟨[(2, (.pt 256 0 2)), (6, (.rf 1024 0 (([] : List S22).length) 5 (([] : List S22).length * 5))), (20, (.sl true a1.length 2 (a1.flatMap (e66 true)))), (21, (I (a1.length : Int))), (22, (I 0))], [(256, [(I a0.f0), (.sl true a0.f1.length 4 (a0.f1.flatMap e95))]), (1024, (([] : List S22).flatMap e22))], [], []⟩ [l_ 122, b_ 0, c_ 31] aln nocal ?_
      exact ih0 a0 a1 ([] : List S22) 0 _ h
    · rw [if_neg c2] at h
      refine .cond' (.tmp 18) true [c_ 52, c_ 53, c_ 7] (bT (nT (vF c2))) ?_
      refine .reg' [4, 5] [] ⟨[(4, nilS), (5, (B false))], [(256, [(I a0.f0), (.sl true a0.f1.length 4 (a0.f1.flatMap e95))])], [], []⟩ [c_ 53, c_ 7] aln nocal ?_
      have h := Option.some.inj h
      subst h
      refine .nl' 1024 ?_
      exact .fin' [] [(1024, 1024)] (.tp [nilS, (B false)]) [] aln (shc 1024 (rowF e22_ok _) shn) (cnv_tp (a2c (.nl (memP_mem (p := (1024, 1024)) rfl) rfl) (a2c (.z .s) a2n)))
  · rw [if_neg c1] at h
    refine .reg' [1, 2, 18] [.no, .c ⟨87, [(.ag [(I a0.f0), (.sl true a0.f1.length 4 (a0.f1.flatMap e95))])], [], (B x1), [], [], [], [], (B x1), []⟩, .no, .v (B true)] ⟨[(1, (.sl true a1.length 2 (a1.flatMap (e66 true)))), (2, (.pt 256 0 2)), (18, (B true))], [(256, [(I a0.f0), (.sl true a0.f1.length 4 (a0.f1.flatMap e95))])], [2 = 2 ∧ 0 + 2 ≤ 2, COK (hget [(256, [(I a0.f0), (.sl true a0.f1.length 4 (a0.f1.flatMap e95))])]) [(.ag [(I a0.f0), (.sl true a0.f1.length 4 (a0.f1.flatMap e95))])] ⟨87, [(.ag [(I a0.f0), (.sl true a0.f1.length 4 (a0.f1.flatMap e95))])], [], (B x1), [], [], [], [], (B x1), []⟩, (B (!x1) : V) = B true], [⟨87, [(.ag [(I a0.f0), (.sl true a0.f1.length 4 (a0.f1.flatMap e95))])], [], (B x1), [], [], [], [], (B x1), []⟩]⟩ [c_ 13, c_ 7] (alc ⟨rfl, by decide⟩ (alc (cok0 false (a2c (.z (frz_ag (a2c .s (a2c (frz_sl e95_ok (fun h => h)) a2n)))) a2n) (.z .s) (fun h => absurd h (by decide))) (alc (bT (nT (vF c1))) aln))) (acal (impl_NetOk.J k a0 _ hx1) nocal) ?_
    refine .cond' (.tmp 18) true [c_ 52, c_ 53, c_ 7] (rfl) ?_
    refine .reg' [4, 5] [] ⟨[(4, nilS), (5, (B false))], [(256, [(I a0.f0), (.sl true a0.f1.length 4 (a0.f1.flatMap e95))])], [], []⟩ [c_ 53, c_ 7] aln nocal ?_
    have h := Option.some.inj h
    subst h
    refine .nl' 1024 ?_
    exact .fin' [] [(1024, 1024)] (.tp [nilS, (B false)]) [] aln (shc 1024 (rowF e22_ok _) shn) (cnv_tp (a2c (.nl (memP_mem (p := (1024, 1024)) rfl) rfl) (a2c (.z .s) a2n)))
/-! impl_Uses: function 32 -/
def impl_Uses.f (k : Nat) (a0 : S46) (a1 : (List S66)) : Option (List S22) := ((impl_usesOfAll.f k a0 a1).bind fun x1 => (some x1.1))
theorem impl_Uses.J (k : Nat) (a0 : S46) (a1 : (List S66)) (r : (List S22)) (h : impl_Uses.f k a0 a1 = some r) : J prog (.call 32 [(.ag [(I a0.f0), (.sl true a0.f1.length 4 (a0.f1.flatMap e95))]), (.sl true a1.length 2 (a1.flatMap (e66 true)))] [] (.rf 1000514 0 r.length 5 (r.length * 5)) [(1000514, (r.flatMap e22))]) := by
  unfold impl_Uses.f at h
  refine .call' [c_ 2, c_ 3] ?_
  refine .reg' [1, 2] [] ⟨[(1, (.sl true a1.length 2 (a1.flatMap (e66 true)))), (2, (.pt 256 0 2))], [(256, [(I a0.f0), (.sl true a0.f1.length 4 (a0.f1.flatMap e95))])], [], []⟩ [c_ 6, c_ 7] aln nocal ?_
  obtain ⟨x1, hx1, h⟩ := Option.bind_eq_some_iff.mp h
  refine .reg' [5] [.no, .no, .c ⟨66, [(.ag [(I a0.f0), (.sl true a0.f1.length 4 (a0.f1.flatMap e95))]), (.sl true a1.length 2 (a1.flatMap (e66 true)))], [], (.tp [(.rf 1024 0 x1.1.length 5 (x1.1.length * 5)), (B x1.2)]), [(1024, (x1.1.flatMap e22))], [], [], [(1000514, 1024)], (.tp [(.rf 1000514 0 x1.1.length 5 (x1.1.length * 5)), (B x1.2)]), [(1000514, (x1.1.flatMap e22))]⟩] ⟨[(5, (.rf 1000514 0 x1.1.length 5 (x1.1.length * 5)))], [(256, [(I a0.f0), (.sl true a0.f1.length 4 (a0.f1.flatMap e95))]), (1000514, (x1.1.flatMap e22))], [2 = 2 ∧ 0 + 2 ≤ 2, COK (hget [(256, [(I a0.f0), (.sl true a0.f1.length 4 (a0.f1.flatMap e95))])]) [(.ag [(I a0.f0), (.sl true a0.f1.length 4 (a0.f1.flatMap e95))]), (.sl true a1.length 2 (a1.flatMap (e66 true)))] ⟨66, [(.ag [(I a0.f0), (.sl true a0.f1.length 4 (a0.f1.flatMap e95))]), (.sl true a1.length 2 (a1.flatMap (e66 true)))], [], (.tp [(.rf 1024 0 x1.1.length 5 (x1.1.length * 5)), (B x1.2)]), [(1024, (x1.1.flatMap e22))], [], [], [(1000514, 1024)], (.tp [(.rf 1000514 0 x1.1.length 5 (x1.1.length * 5)), (B x1.2)]), [(1000514, (x1.1.flatMap e22))]⟩], [⟨66, [(.ag [(I a0.f0), (.sl true a0.f1.length 4 (a0.f1.flatMap e95))]), (.sl true a1.length 2 (a1.flatMap (e66 true)))], [], (.tp [(.rf 1024 0 x1.1.length 5 (x1.1.length * 5)), (B x1.2)]), [(1024, (x1.1.flatMap e22))], [], [], [(1000514, 1024)], (.tp [(.rf 1000514 0 x1.1.length 5 (x1.1.length * 5)), (B x1.2)]), [(1000514, (x1.1.flatMap e22))]⟩]⟩ [c_ 14, c_ 15] (alc ⟨rfl, by decide⟩ (alc (cokW false (a2c (.z (frz_ag (a2c .s (a2c (frz_sl e95_ok (fun h => h)) a2n)))) (a2c (.z (frz_sl (e66_ok true) (fun h => h))) a2n)) akn (akc (.inr rfl) akn) (bck_tp (a2c (.rf (memP_mem (p := (1000514, 1024)) rfl)) (a2c (.z .s) a2n))) (akc ⟨_, _, rfl, rfl, rowB e22_c _⟩ akn) (fun h => absurd h (by decide))) aln)) (acal (impl_usesOfAll.J k a0 a1 _ hx1) nocal) ?_
  refine .reg' [4] [] ⟨[(4, (.rf 1000514 0 x1.1.length 5 (x1.1.length * 5)))], [(256, [(I a0.f0), (.sl true a0.f1.length 4 (a0.f1.flatMap e95))]), (1000514, (x1.1.flatMap e22))], [], []⟩ [c_ 15] aln nocal ?_
  have h := Option.some.inj h
  subst h
  exact .fin' [] [(1000514, 1000514)] (.rf 1000514 0 x1.1.length 5 (x1.1.length * 5)) [] aln (shc 1000514 (rowF e22_ok _) shn) (.rf (memP_mem (p := (1000514, 1000514)) rfl))
/-! laws_eqUse: function 60 -/
def laws_eqUse.f (a0 : S22) (a1 : S22) : Option Bool := (if a0.f0 = a1.f0 then (if a0.f1 = a1.f1 then (if a0.f2 = a1.f2 then (if a0.f3 = a1.f3 then (if a0.f4 = a1.f4 then (some true) else (some false)) else (some false)) else (some false)) else (some false)) else (some false))
theorem laws_eqUse.J (a0 : S22) (a1 : S22) (r : Bool) (h : laws_eqUse.f a0 a1 = some r) : J prog (.call 60 [(.ag [(I a0.f0), (I a0.f1), (I a0.f2), (I a0.f3), (I a0.f4)]), (.ag [(I a1.f0), (I a1.f1), (I a1.f2), (I a1.f3), (I a1.f4)])] [] (B r) []) := by
  unfold laws_eqUse.f at h
  refine .call' [c_ 2, c_ 3] ?_
  refine .reg' [2, 3] [] ⟨[(2, (.pt 256 0 5)), (3, (.pt 257 0 5))], [(256, [(I a0.f0), (I a0.f1), (I a0.f2), (I a0.f3), (I a0.f4)]), (257, [(I a1.f0), (I a1.f1), (I a1.f2), (I a1.f3), (I a1.f4)])], [], []⟩ [c_ 12, c_ 13, c_ 7] aln nocal ?_
  refine .reg' [2, 3, 9] [] ⟨[(2, (.pt 256 0 5)), (3, (.pt 257 0 5)), (9, (B (!(a0.f0 == a1.f0))))], [(256, [(I a0.f0), (I a0.f1), (I a0.f2), (I a0.f3), (I a0.f4)]), (257, [(I a1.f0), (I a1.f1), (I a1.f2), (I a1.f3), (I a1.f4)])], [5 = 5 ∧ 0 + 1 ≤ 5, 5 = 5 ∧ 0 + 1 ≤ 5], []⟩ [c_ 13, c_ 7] (alc ⟨rfl, by decide⟩ (alc ⟨rfl, by decide⟩ aln)) nocal ?_
  by_cases c1 : a0.f0 = a1.f0
  · rw [if_pos c1] at h
    refine .cond' (.tmp 9) false [c_ 28, c_ 29, c_ 15] (bF (nF (qT c1))) ?_
    refine .reg' [2, 3, 14] [] ⟨[(2, (.pt 256 0 5)), (3, (.pt 257 0 5)), (14, (B (!(a0.f1 == a1.f1))))], [(256, [(I a0.f0), (I a0.f1), (I a0.f2), (I a0.f3), (I a0.f4)]), (257, [(I a1.f0), (I a1.f1), (I a1.f2), (I a1.f3), (I a1.f4)])], [5 = 5 ∧ 1 + 1 ≤ 5, 5 = 5 ∧ 1 + 1 ≤ 5], []⟩ [c_ 29, c_ 15] (alc ⟨rfl, by decide⟩ (alc ⟨rfl, by decide⟩ aln)) nocal ?_
    by_cases c2 : a0.f1 = a1.f1
    · rw [if_pos c2] at h
      refine .cond' (.tmp 14) false [c_ 60, c_ 61, c_ 31] (bF (nF (qT c2))) ?_
      refine .reg' [2, 3, 19] [] ⟨[(2, (.pt 256 0 5)), (3, (.pt 257 0 5)), (19, (B (!(a0.f2 == a1.f2))))], [(256, [(I a0.f0), (I a0.f1), (I a0.f2), (I a0.f3), (I a0.f4)]), (257, [(I a1.f0), (I a1.f1), (I a1.f2), (I a1.f3), (I a1.f4)])], [5 = 5 ∧ 2 + 1 ≤ 5, 5 = 5 ∧ 2 + 1 ≤ 5], []⟩ [c_ 61, c_ 31] (alc ⟨rfl, by decide⟩ (alc ⟨rfl, by decide⟩ aln)) nocal ?_
      by_cases c3 : a0.f2 = a1.f2
      · rw [if_pos c3] at h
        refine .cond' (.tmp 19) false [c_ 124, c_ 125, c_ 63] (bF (nF (qT c3))) ?_
        refine .reg' [2, 3, 24] [] ⟨[(2, (.pt 256 0 5)), (3, (.pt 257 0 5)), (24, (B (!(a0.f3 == a1.f3))))], [(256, [(I a0.f0), (I a0.f1), (I a0.f2), (I a0.f3), (I a0.f4)]), (257, [(I a1.f0), (I a1.f1), (I a1.f2), (I a1.f3), (I a1.f4)])], [5 = 5 ∧ 3 + 1 ≤ 5, 5 = 5 ∧ 3 + 1 ≤ 5], []⟩ [c_ 125, c_ 63] (alc ⟨rfl, by decide⟩ (alc ⟨rfl, by decide⟩ aln)) nocal ?_
        by_cases c4 : a0.f3 = a1.f3
        · rw [if_pos c4] at h
          refine .cond' (.tmp 24) false [c_ 252, c_ 253, c_ 127] (bF (nF (qT c4))) ?_
          refine .reg' [29] [] ⟨[(29, (B (!(a0.f4 == a1.f4))))], [(256, [(I a0.f0), (I a0.f1), (I a0.f2), (I a0.f3), (I a0.f4)]), (257, [(I a1.f0), (I a1.f1), (I a1.f2), (I a1.f3), (I a1.f4)])], [5 = 5 ∧ 4 + 1 ≤ 5, 5 = 5 ∧ 4 + 1 ≤ 5], []⟩ [c_ 253, c_ 127] (alc ⟨rfl, by decide⟩ (alc ⟨rfl, by decide⟩ aln)) nocal ?_
          by_cases c5 : a0.f4 = a1.f4
          · rw [if_pos c5] at h
            refine .cond' (.tmp 29) false [c_ 254, c_ 255] (bF (nF (qT c5))) ?_
            refine .reg' [4] [] ⟨[(4, (B true))], [(256, [(I a0.f0), (I a0.f1), (I a0.f2), (I a0.f3), (I a0.f4)]), (257, [(I a1.f0), (I a1.f1), (I a1.f2), (I a1.f3), (I a1.f4)])], [], []⟩ [c_ 255] aln nocal ?_
            have h := Option.some.inj h
            subst h
            exact .fin0 [] (B true) [] aln (.z .s)
          · rw [if_neg c5] at h
            refine .cond' (.tmp 29) true [c_ 1012, c_ 1013, c_ 127] (bT (nT (qF c5))) ?_
            refine .reg' [4] [] ⟨[(4, (B false))], [(256, [(I a0.f0), (I a0.f1), (I a0.f2), (I a0.f3), (I a0.f4)]), (257, [(I a1.f0), (I a1.f1), (I a1.f2), (I a1.f3), (I a1.f4)])], [], []⟩ [c_ 1013, c_ 127] aln nocal ?_
            have h := Option.some.inj h
            subst h
            exact .fin0 [] (B false) [] aln (.z .s)
        · rw [if_neg c4] at h
          refine .cond' (.tmp 24) true [c_ 500, c_ 501, c_ 63] (bT (nT (qF c4))) ?_
          refine .reg' [4] [] ⟨[(4, (B false))], [(256, [(I a0.f0), (I a0.f1), (I a0.f2), (I a0.f3), (I a0.f4)]), (257, [(I a1.f0), (I a1.f1), (I a1.f2), (I a1.f3), (I a1.f4)])], [], []⟩ [c_ 501, c_ 63] aln nocal ?_
          have h := Option.some.inj h
          subst h
          exact .fin0 [] (B false) [] aln (.z .s)
      · rw [if_neg c3] at h
        refine .cond' (.tmp 19) true [c_ 244, c_ 245, c_ 31] (bT (nT (qF c3))) ?_
        refine .reg' [4] [] ⟨[(4, (B false))], [(256, [(I a0.f0), (I a0.f1), (I a0.f2), (I a0.f3), (I a0.f4)]), (257, [(I a1.f0), (I a1.f1), (I a1.f2), (I a1.f3), (I a1.f4)])], [], []⟩ [c_ 245, c_ 31] aln nocal ?_
        have h := Option.some.inj h
        subst h
        exact .fin0 [] (B false) [] aln (.z .s)
    · rw [if_neg c2] at h
      refine .cond' (.tmp 14) true [c_ 116, c_ 117, c_ 15] (bT (nT (qF c2))) ?_
      refine .reg' [4] [] ⟨[(4, (B false))], [(256, [(I a0.f0), (I a0.f1), (I a0.f2), (I a0.f3), (I a0.f4)]), (257, [(I a1.f0), (I a1.f1), (I a1.f2), (I a1.f3), (I a1.f4)])], [], []⟩ [c_ 117, c_ 15] aln nocal ?_
      have h := Option.some.inj h
      subst h
      exact .fin0 [] (B false) [] aln (.z .s)
  · rw [if_neg c1] at h
    refine .cond' (.tmp 9) true [c_ 52, c_ 53, c_ 7] (bT (nT (qF c1))) ?_
    refine .reg' [4] [] ⟨[(4, (B false))], [(256, [(I a0.f0), (I a0.f1), (I a0.f2), (I a0.f3), (I a0.f4)]), (257, [(I a1.f0), (I a1.f1), (I a1.f2), (I a1.f3), (I a1.f4)])], [], []⟩ [c_ 53, c_ 7] aln nocal ?_
    have h := Option.some.inj h
    subst h
    exact .fin0 [] (B false) [] aln (.z .s)
/-! laws_eqUseS: function 22 -/
def laws_eqUseS.l0 : Nat → (List S22) → (List S22) → Int → Option Bool
 | 0, _, _, _ => none
 | k + 1, a0, a1, x1 => (if x1 < (a0.length : Int) then (if 0 ≤ x1 then (if x1 < (a1.length : Int) then ((laws_eqUse.f (at_ a0 x1) (at_ a1 x1)).bind fun x2 => (if x2 = true then (laws_eqUseS.l0 k a0 a1 (wrap64 (x1 + 1))) else (some false))) else none) else none) else (some true))
def laws_eqUseS.f (k : Nat) (a0 : (List S22)) (a1 : (List S22)) : Option Bool := (if (a0.length : Int) = (a1.length : Int) then (laws_eqUseS.l0 k a0 a1 0) else (some false))
theorem laws_eqUseS.lab : ∀ k, (∀ (a0 : (List S22)) (a1 : (List S22)) (x1 : Int) (r : Bool), laws_eqUseS.l0 k a0 a1 x1 = some r → J prog (.run 22 [] [l_ 58, b_ 0, c_ 15] [(0, (.sl true a0.length 5 (a0.flatMap e22))), (1, (.sl true a1.length 5 (a1.flatMap e22))), (5, (I x1))] [] (B r) []))
 | 0 => (by intro a0 a1 x1 r h; unfold laws_eqUseS.l0 at h; cases h)
 | k + 1 => by
  have ih0 := laws_eqUseS.lab k
  · intro a0 a1 x1 r h
    unfold laws_eqUseS.l0 at h
    refine .loop' [c_ 464, c_ 465, c_ 233, l_ 58, b_ 0, c_ 15] ?_
    refine .reg' [0, 1, 5, 14] [] ⟨[(0, (.sl true a0.length 5 (a0.flatMap e22))), (1, (.sl true a1.length 5 (a1.flatMap e22))), (5, (I x1)), (14, (B (decide (x1 < (a0.length : Int)))))], [], [], []⟩ [c_ 465, c_ 233, l_ 58, b_ 0, c_ 15] aln nocal ?_
    by_cases c2 : x1 < (a0.length : Int)
    · rw [if_pos c2] at h
      refine .cond' (.tmp 14) true [c_ 1864, c_ 1865, b_ 1, c_ 467, l_ 58, b_ 0, c_ 15] (bT (dT c2)) ?_
      by_cases c3 : 0 ≤ x1
      · rw [if_pos c3] at h
        by_cases c4 : x1 < (a1.length : Int)
        · rw [if_pos c4] at h
          obtain ⟨x2, hx2, h⟩ := Option.bind_eq_some_iff.mp h
          refine .reg' [0, 1, 5, 26] [.no, .no, .no, .v (.ag [(I (at_ a0 x1).f0), (I (at_ a0 x1).f1), (I (at_ a0 x1).f2), (I (at_ a0 x1).f3), (I (at_ a0 x1).f4)]), .no, .no, .no, .v (.ag [(I (at_ a1 x1).f0), (I (at_ a1 x1).f1), (I (at_ a1 x1).f2), (I (at_ a1 x1).f3), (I (at_ a1 x1).f4)]), .c ⟨60, [(.ag [(I (at_ a0 x1).f0), (I (at_ a0 x1).f1), (I (at_ a0 x1).f2), (I (at_ a0 x1).f3), (I (at_ a0 x1).f4)]), (.ag [(I (at_ a1 x1).f0), (I (at_ a1 x1).f1), (I (at_ a1 x1).f2), (I (at_ a1 x1).f3), (I (at_ a1 x1).f4)])], [], (B x2), [], [], [], [], (B x2), []⟩] ⟨[(0, (.sl true a0.length 5 (a0.flatMap e22))), (1, (.sl true a1.length 5 (a1.flatMap e22))), (5, (I x1)), (26, (B (!x2)))], [], [(0 : Int) ≤ x1 ∧ x1 < (a0.length : Int), rdC prog 25 ((a0.flatMap e22).drop (x1.toNat * 5)) = (.ag [(I (at_ a0 x1).f0), (I (at_ a0 x1).f1), (I (at_ a0 x1).f2), (I (at_ a0 x1).f3), (I (at_ a0 x1).f4)]), 5 ≤ ((a0.flatMap e22).drop (x1.toNat * 5)).length, (0 : Int) ≤ x1 ∧ x1 < (a1.length : Int), rdC prog 25 ((a1.flatMap e22).drop (x1.toNat * 5)) = (.ag [(I (at_ a1 x1).f0), (I (at_ a1 x1).f1), (I (at_ a1 x1).f2), (I (at_ a1 x1).f3), (I (at_ a1 x1).f4)]), 5 ≤ ((a1.flatMap e22).drop (x1.toNat * 5)).length, COK (hget []) [(.ag [(I (at_ a0 x1).f0), (I (at_ a0 x1).f1), (I (at_ a0 x1).f2), (I (at_ a0 x1).f3), (I (at_ a0 x1).f4)]), (.ag [(I (at_ a1 x1).f0), (I (at_ a1 x1).f1), (I (at_ a1 x1).f2), (I (at_ a1 x1).f3), (I (at_ a1 x1).f4)])] ⟨60, [(.ag [(I (at_ a0 x1).f0), (I (at_ a0 x1).f1), (I (at_ a0 x1).f2), (I (at_ a0 x1).f3), (I (at_ a0 x1).f4)]), (.ag [(I (at_ a1 x1).f0), (I (at_ a1 x1).f1), (I (at_ a1 x1).f2), (I (at_ a1 x1).f3), (I (at_ a1 x1).f4)])], [], (B x2), [], [], [], [], (B x2), []⟩], [⟨60, [(.ag [(I (at_ a0 x1).f0), (I (at_ a0 x1).f1), (I (at_ a0 x1).f2), (I (at_ a0 x1).f3), (I (at_ a0 x1).f4)]), (.ag [(I (at_ a1 x1).f0), (I (at_ a1 x1).f1), (I (at_ a1 x1).f2), (I (at_ a1 x1).f3), (I (at_ a1 x1).f4)])], [], (B x2), [], [], [], [], (B x2), []⟩]⟩ [c_ 1865, b_ 1, c_ 467, l_ 58, b_ 0, c_ 15] (alc ⟨c3, c2⟩ (alc (ldA e22_ok rfl rfl c3 c2) (alc (okI e22_ok c3 c2 (by decide)) (alc ⟨c3, c4⟩ (alc (ldA e22_ok rfl rfl c3 c4) (alc (okI e22_ok c3 c4 (by decide)) (alc (cok0 false (a2c (.z (frz_ag (a2c .s (a2c .s (a2c .s (a2c .s (a2c .s a2n))))))) (a2c (.z (frz_ag (a2c .s (a2c .s (a2c .s (a2c .s (a2c .s a2n))))))) a2n)) (.z .s) (fun h => absurd h (by decide))) aln))))))) (acal (laws_eqUse.J (at_ a0 x1) (at_ a1 x1) _ hx2) nocal) ?_
          by_cases c5 : x2 = true
          · rw [if_pos c5] at h
            refine .cond' (.tmp 26) false [c_ 467, l_ 58, b_ 0, c_ 15] (bF (nF c5)) ?_
            refine .reg' [0, 1, 5] [] ⟨[(0, (.sl true a0.length 5 (a0.flatMap e22))), (1, (.sl true a1.length 5 (a1.flatMap e22))), (5, (I (wrap64 (x1 + 1))))], [], [], []⟩ [l_ 58, b_ 0, c_ 15] aln nocal ?_
            exact ih0 a0 a1 (wrap64 (x1 + 1)) _ h
          · rw [if_neg c5] at h
            refine .cond' (.tmp 26) true [c_ 7460, c_ 7461, b_ 1, c_ 467, l_ 58, b_ 0, c_ 15] (bT (nT (vF c5))) ?_
            refine .reg' [4] [] ⟨[(4, (B false))], [], [], []⟩ [c_ 7461, b_ 1, c_ 467, l_ 58, b_ 0, c_ 15] aln nocal ?_
            have h := Option.some.inj h
            subst h
            exact .fin0 [] (B false) [] aln (.z .s)
        · rw [if_neg c4] at h
          cases h
      · rw [if_neg c3] at h
        cases h
    · rw [if_neg c2] at h
      refine .cond' (.tmp 14) false [c_ 30, c_ 31] (bF (dF c2)) ?_
      refine .reg' [4] [] ⟨[(4, (B true))], [], [], []⟩ [c_ 31] aln nocal ?_
      have h := Option.some.inj h
      subst h
      exact .fin0 [] (B true) [] aln (.z .s)
theorem laws_eqUseS.J (k : Nat) (a0 : (List S22)) (a1 : (List S22)) (r : Bool) (h : laws_eqUseS.f k a0 a1 = some r) : J prog (.call 22 [(.sl true a0.length 5 (a0.flatMap e22)), (.sl true a1.length 5 (a1.flatMap e22))] [] (B r) []) := by
  unfold laws_eqUseS.f at h
  have ih0 := laws_eqUseS.lab k
  refine .call' [c_ 2, c_ 3] ?_
  refine .reg' [0, 1] [] ⟨[(0, (.sl true a0.length 5 (a0.flatMap e22))), (1, (.sl true a1.length 5 (a1.flatMap e22)))], [], [], []⟩ [c_ 12, c_ 13, c_ 7] aln nocal ?_
  refine .reg' [0, 1, 10] [] ⟨[(0, (.sl true a0.length 5 (a0.flatMap e22))), (1, (.sl true a1.length 5 (a1.flatMap e22))), (10, (B (!((a0.length : Int) == (a1.length : Int)))))], [], [], []⟩ [c_ 13, c_ 7] aln nocal ?_
  by_cases c1 : (a0.length : Int) = (a1.length : Int)
  · rw [if_pos c1] at h
    refine .cond' (.tmp 10) false [c_ 28, c_ 29, c_ 15] (bF (nF (qT c1))) ?_
    refine .reg' [0, 1, 5] [] ⟨[(0, (.sl true a0.length 5 (a0.flatMap e22))), (1, (.sl true a1.length 5 (a1.flatMap e22))), (5, (I 0))], [], [], []⟩ [l_ 58, b_ 0, c_ 15] aln nocal ?_
    exact ih0 a0 a1 0 _ h
  · rw [if_neg c1] at h
    refine .cond' (.tmp 10) true [c_ 52, c_ 53, c_ 7] (bT (nT (qF c1))) ?_
    refine .reg' [4] [] ⟨[(4, (B false))], [], [], []⟩ [c_ 53, c_ 7] aln nocal ?_
    have h := Option.some.inj h
    subst h
    exact .fin0 [] (B false) [] aln (.z .s)
/-! laws_eqEdge: function 89 -/
def laws_eqEdge.f (a0 : S95) (a1 : S95) : Option Bool := (if a0.f0 = a1.f0 then (if a0.f1 = a1.f1 then (if a0.f2 = a1.f2 then (if a0.f3 = a1.f3 then (some true) else (some false)) else (some false)) else (some false)) else (some false))
theorem laws_eqEdge.J (a0 : S95) (a1 : S95) (r : Bool) (h : laws_eqEdge.f a0 a1 = some r) : J prog (.call 89 [(.ag [(I a0.f0), (I a0.f1), (I a0.f2), (I a0.f3)]), (.ag [(I a1.f0), (I a1.f1), (I a1.f2), (I a1.f3)])] [] (B r) []) := by
  unfold laws_eqEdge.f at h
  refine .call' [c_ 2, c_ 3] ?_
  refine .reg' [2, 3] [] ⟨[(2, (.pt 256 0 4)), (3, (.pt 257 0 4))], [(256, [(I a0.f0), (I a0.f1), (I a0.f2), (I a0.f3)]), (257, [(I a1.f0), (I a1.f1), (I a1.f2), (I a1.f3)])], [], []⟩ [c_ 12, c_ 13, c_ 7] aln nocal ?_
  refine .reg' [2, 3, 9] [] ⟨[(2, (.pt 256 0 4)), (3, (.pt 257 0 4)), (9, (B (!(a0.f0 == a1.f0))))], [(256, [(I a0.f0), (I a0.f1), (I a0.f2), (I a0.f3)]), (257, [(I a1.f0), (I a1.f1), (I a1.f2), (I a1.f3)])], [4 = 4 ∧ 0 + 1 ≤ 4, 4 = 4 ∧ 0 + 1 ≤ 4], []⟩ [c_ 13, c_ 7] (alc ⟨rfl, by decide⟩ (alc ⟨rfl, by decide⟩ aln)) nocal ?_
  by_cases c1 : a0.f0 = a1.f0
  · rw [if_pos c1] at h
    refine .cond' (.tmp 9) false [c_ 28, c_ 29, c_ 15] (bF (nF (qT c1))) ?_
    refine .reg' [2, 3, 14] [] ⟨[(2, (.pt 256 0 4)), (3, (.pt 257 0 4)), (14, (B (!(a0.f1 == a1.f1))))], [(256, [(I a0.f0), (I a0.f1), (I a0.f2), (I a0.f3)]), (257, [(I a1.f0), (I a1.f1), (I a1.f2), (I a1.f3)])], [4 = 4 ∧ 1 + 1 ≤ 4, 4 = 4 ∧ 1 + 1 ≤ 4], []⟩ [c_ 29, c_ 15] (alc ⟨rfl, by decide⟩ (alc ⟨rfl, by decide⟩ aln)) nocal ?_
    by_cases c2 : a0.f1 = a1.f1
    · rw [if_pos c2] at h
      refine .cond' (.tmp 14) false [c_ 60, c_ 61, c_ 31] (bF (nF (qT c2))) ?_
      refine .reg' [2, 3, 19] [] ⟨[(2, (.pt 256 0 4)), (3, (.pt 257 0 4)), (19, (B (!(a0.f2 == a1.f2))))], [(256, [(I a0.f0), (I a0.f1), (I a0.f2), (I a0.f3)]), (257, [(I a1.f0), (I a1.f1), (I a1.f2), (I a1.f3)])], [4 = 4 ∧ 2 + 1 ≤ 4, 4 = 4 ∧ 2 + 1 ≤ 4], []⟩ [c_ 61, c_ 31] (alc ⟨rfl, by decide⟩ (alc ⟨rfl, by decide⟩ aln)) nocal ?_
      by_cases c3 : a0.f2 = a1.f2
      · rw [if_pos c3] at h
        refine .cond' (.tmp 19) false [c_ 124, c_ 125, c_ 63] (bF (nF (qT c3))) ?_
        refine .reg' [24] [] ⟨[(24, (B (!(a0.f3 == a1.f3))))], [(256, [(I a0.f0), (I a0.f1), (I a0.f2), (I a0.f3)]), (257, [(I a1.f0), (I a1.f1), (I a1.f2), (I a1.f3)])], [4 = 4 ∧ 3 + 1 ≤ 4, 4 = 4 ∧ 3 + 1 ≤ 4], []⟩ [c_ 125, c_ 63] (alc ⟨rfl, by decide⟩ (alc ⟨rfl, by decide⟩ aln)) nocal ?_
        by_cases c4 : a0.f3 = a1.f3
        · rw [if_pos c4] at h
          refine .cond' (.tmp 24) false [c_ 126, c_ 127] (bF (nF (qT c4))) ?_
          refine .reg' [4] [] ⟨[(4, (B true))], [(256, [(I a0.f0), (I a0.f1), (I a0.f2), (I a0.f3)]), (257, [(I a1.f0), (I a1.f1), (I a1.f2), (I a1.f3)])], [], []⟩ [c_ 127] aln nocal ?_
          have h := Option.some.inj h
          subst h
          exact .fin0 [] (B true) [] aln (.z .s)
        · rw [if_neg c4] at h
          refine .cond' (.tmp 24) true [c_ 500, c_ 501, c_ 63] (bT (nT (qF c4))) ?_
          refine .reg' [4] [] ⟨[(4, (B false))], [(256, [(I a0.f0), (I a0.f1), (I a0.f2), (I a0.f3)]), (257, [(I a1.f0), (I a1.f1), (I a1.f2), (I a1.f3)])], [], []⟩ [c_ 501, c_ 63] aln nocal ?_
          have h := Option.some.inj h
          subst h
          exact .fin0 [] (B false) [] aln (.z .s)
      · rw [if_neg c3] at h
        refine .cond' (.tmp 19) true [c_ 244, c_ 245, c_ 31] (bT (nT (qF c3))) ?_
        refine .reg' [4] [] ⟨[(4, (B false))], [(256, [(I a0.f0), (I a0.f1), (I a0.f2), (I a0.f3)]), (257, [(I a1.f0), (I a1.f1), (I a1.f2), (I a1.f3)])], [], []⟩ [c_ 245, c_ 31] aln nocal ?_
        have h := Option.some.inj h
        subst h
        exact .fin0 [] (B false) [] aln (.z .s)
    · rw [if_neg c2] at h
      refine .cond' (.tmp 14) true [c_ 116, c_ 117, c_ 15] (bT (nT (qF c2))) ?_
      refine .reg' [4] [] ⟨[(4, (B false))], [(256, [(I a0.f0), (I a0.f1), (I a0.f2), (I a0.f3)]), (257, [(I a1.f0), (I a1.f1), (I a1.f2), (I a1.f3)])], [], []⟩ [c_ 117, c_ 15] aln nocal ?_
      have h := Option.some.inj h
      subst h
      exact .fin0 [] (B false) [] aln (.z .s)
  · rw [if_neg c1] at h
    refine .cond' (.tmp 9) true [c_ 52, c_ 53, c_ 7] (bT (nT (qF c1))) ?_
    refine .reg' [4] [] ⟨[(4, (B false))], [(256, [(I a0.f0), (I a0.f1), (I a0.f2), (I a0.f3)]), (257, [(I a1.f0), (I a1.f1), (I a1.f2), (I a1.f3)])], [], []⟩ [c_ 53, c_ 7] aln nocal ?_
    have h := Option.some.inj h
    subst h
    exact .fin0 [] (B false) [] aln (.z .s)
/-! laws_eqEdgeS: function 67 -/
def laws_eqEdgeS.l0 : Nat → (List S95) → (List S95) → Int → Option Bool
 | 0, _, _, _ => none
 | k + 1, a0, a1, x1 => (if x1 < (a0.length : Int) then (if 0 ≤ x1 then (if x1 < (a1.length : Int) then ((laws_eqEdge.f (at_ a0 x1) (at_ a1 x1)).bind fun x2 => (if x2 = true then (laws_eqEdgeS.l0 k a0 a1 (wrap64 (x1 + 1))) else (some false))) else none) else none) else (some true))
def laws_eqEdgeS.f (k : Nat) (a0 : (List S95)) (a1 : (List S95)) : Option Bool := (if (a0.length : Int) = (a1.length : Int) then (laws_eqEdgeS.l0 k a0 a1 0) else (some false))
theorem laws_eqEdgeS.lab : ∀ k, (∀ (a0 : (List S95)) (a1 : (List S95)) (x1 : Int) (r : Bool), laws_eqEdgeS.l0 k a0 a1 x1 = some r → J prog (.run 67 [] [l_ 58, b_ 0, c_ 15] [(0, (.sl true a0.length 4 (a0.flatMap e95))), (1, (.sl true a1.length 4 (a1.flatMap e95))), (5, (I x1))] [] (B r) []))
 | 0 => (by intro a0 a1 x1 r h; unfold laws_eqEdgeS.l0 at h; cases h)
 | k + 1 => by
  have ih0 := laws_eqEdgeS.lab k
  · intro a0 a1 x1 r h
    unfold laws_eqEdgeS.l0 at h
    refine .loop' [c_ 464, c_ 465, c_ 233, l_ 58, b_ 0, c_ 15] ?_
    refine .reg' [0, 1, 5, 14] [] ⟨[(0, (.sl true a0.length 4 (a0.flatMap e95))), (1, (.sl true a1.length 4 (a1.flatMap e95))), (5, (I x1)), (14, (B (decide (x1 < (a0.length : Int)))))], [], [], []⟩ [c_ 465, c_ 233, l_ 58, b_ 0, c_ 15] aln nocal ?_
    by_cases c2 : x1 < (a0.length : Int)
    · rw [if_pos c2] at h
      refine .cond' (.tmp 14) true [c_ 1864, c_ 1865, b_ 1, c_ 467, l_ 58, b_ 0, c_ 15] (bT (dT c2)) ?_
      by_cases c3 : 0 ≤ x1
      · rw [if_pos c3] at h
        by_cases c4 : x1 < (a1.length : Int)
        · rw [if_pos c4] at h
          obtain ⟨x2, hx2, h⟩ := Option.bind_eq_some_iff.mp h
          refine .reg' [0, 1, 5, 26] [.no, .no, .no, .v (.ag [(I (at_ a0 x1).f0), (I (at_ a0 x1).f1), (I (at_ a0 x1).f2), (I (at_ a0 x1).f3)]), .no, .no, .no, .v (.ag [(I (at_ a1 x1).f0), (I (at_ a1 x1).f1), (I (at_ a1 x1).f2), (I (at_ a1 x1).f3)]), .c ⟨89, [(.ag [(I (at_ a0 x1).f0), (I (at_ a0 x1).f1), (I (at_ a0 x1).f2), (I (at_ a0 x1).f3)]), (.ag [(I (at_ a1 x1).f0), (I (at_ a1 x1).f1), (I (at_ a1 x1).f2), (I (at_ a1 x1).f3)])], [], (B x2), [], [], [], [], (B x2), []⟩] ⟨[(0, (.sl true a0.length 4 (a0.flatMap e95))), (1, (.sl true a1.length 4 (a1.flatMap e95))), (5, (I x1)), (26, (B (!x2)))], [], [(0 : Int) ≤ x1 ∧ x1 < (a0.length : Int), rdC prog 96 ((a0.flatMap e95).drop (x1.toNat * 4)) = (.ag [(I (at_ a0 x1).f0), (I (at_ a0 x1).f1), (I (at_ a0 x1).f2), (I (at_ a0 x1).f3)]), 4 ≤ ((a0.flatMap e95).drop (x1.toNat * 4)).length, (0 : Int) ≤ x1 ∧ x1 < (a1.length : Int), rdC prog 96 ((a1.flatMap e95).drop (x1.toNat * 4)) = (.ag [(I (at_ a1 x1).f0), (I (at_ a1 x1).f1), (I (at_ a1 x1).f2), (I (at_ a1 x1).f3)]), 4 ≤ ((a1.flatMap e95).drop (x1.toNat * 4)).length, COK (hget []) [(.ag [(I (at_ a0 x1).f0), (I (at_ a0 x1).f1), (I (at_ a0 x1).f2), (I (at_ a0 x1).f3)]), (.ag [(I (at_ a1 x1).f0), (I (at_ a1 x1).f1), (I (at_ a1 x1).f2), (I (at_ a1 x1).f3)])] ⟨89, [(.ag [(I (at_ a0 x1).f0), (I (at_ a0 x1).f1), (I (at_ a0 x1).f2), (I (at_ a0 x1).f3)]), (.ag [(I (at_ a1 x1).f0), (I (at_ a1 x1).f1), (I (at_ a1 x1).f2), (I (at_ a1 x1).f3)])], [], (B x2), [], [], [], [], (B x2), []⟩], [⟨89, [(.ag [(I (at_ a0 x1).f0), (I (at_ a0 x1).f1), (I (at_ a0 x1).f2), (I (at_ a0 x1).f3)]), (.ag [(I (at_ a1 x1).f0), (I (at_ a1 x1).f1), (I (at_ a1 x1).f2), (I (at_ a1 x1).f3)])], [], (B x2), [], [], [], [], (B x2), []⟩]⟩ [c_ 1865, b_ 1, c_ 467, l_ 58, b_ 0, c_ 15] (alc ⟨c3, c2⟩ (alc (ldA e95_ok rfl rfl c3 c2) (alc (okI e95_ok c3 c2 (by decide)) (alc ⟨c3, c4⟩ (alc (ldA e95_ok rfl rfl c3 c4) (alc (okI e95_ok c3 c4 (by decide)) (alc (cok0 false (a2c (.z (frz_ag (a2c .s (a2c .s (a2c .s (a2c .s a2n)))))) (a2c (.z (frz_ag (a2c .s (a2c .s (a2c .s (a2c .s a2n)))))) a2n)) (.z .s) (fun h => absurd h (by decide))) aln))))))) (acal (laws_eqEdge.J (at_ a0 x1) (at_ a1 x1) _ hx2) nocal) ?_
          by_cases c5 : x2 = true
          · rw [if_pos c5] at h
            refine .cond' (.tmp 26) false [c_ 467, l_ 58, b_ 0, c_ 15] (bF (nF c5)) ?_
            refine .reg' [0, 1, 5] [] ⟨[(0, (.sl true a0.length 4 (a0.flatMap e95))), (1, (.sl true a1.length 4 (a1.flatMap e95))), (5, (I (wrap64 (x1 + 1))))], [], [], []⟩ [l_ 58, b_ 0, c_ 15] aln nocal ?_
            exact ih0 a0 a1 (wrap64 (x1 + 1)) _ h
          · rw [if_neg c5] at h
            refine .cond' (.tmp 26) true [c_ 7460, c_ 7461, b_ 1, c_ 467, l_ 58, b_ 0, c_ 15] (bT (nT (vF c5))) ?_
            refine .reg' [4] [] ⟨[(4, (B false))], [], [], []⟩ [c_ 7461, b_ 1, c_ 467, l_ 58, b_ 0, c_ 15] aln nocal ?_
            have h := Option.some.inj h
            subst h
            exact .fin0 [] (B false) [] aln (.z .s)
        · rw [if_neg c4] at h
          cases h
      · rw [if_neg c3] at h
        cases h
    · rw [if_neg c2] at h
      refine .cond' (.tmp 14) false [c_ 30, c_ 31] (bF (dF c2)) ?_
      refine .reg' [4] [] ⟨[(4, (B true))], [], [], []⟩ [c_ 31] aln nocal ?_
      have h := Option.some.inj h
      subst h
      exact .fin0 [] (B true) [] aln (.z .s)
theorem laws_eqEdgeS.J (k : Nat) (a0 : (List S95)) (a1 : (List S95)) (r : Bool) (h : laws_eqEdgeS.f k a0 a1 = some r) : J prog (.call 67 [(.sl true a0.length 4 (a0.flatMap e95)), (.sl true a1.length 4 (a1.flatMap e95))] [] (B r) []) := by
  unfold laws_eqEdgeS.f at h
  have ih0 := laws_eqEdgeS.lab k
  refine .call' [c_ 2, c_ 3] ?_
  refine .reg' [0, 1] [] ⟨[(0, (.sl true a0.length 4 (a0.flatMap e95))), (1, (.sl true a1.length 4 (a1.flatMap e95)))], [], [], []⟩ [c_ 12, c_ 13, c_ 7] aln nocal ?_
  refine .reg' [0, 1, 10] [] ⟨[(0, (.sl true a0.length 4 (a0.flatMap e95))), (1, (.sl true a1.length 4 (a1.flatMap e95))), (10, (B (!((a0.length : Int) == (a1.length : Int)))))], [], [], []⟩ [c_ 13, c_ 7] aln nocal ?_
  by_cases c1 : (a0.length : Int) = (a1.length : Int)
  · rw [if_pos c1] at h
    refine .cond' (.tmp 10) false [c_ 28, c_ 29, c_ 15] (bF (nF (qT c1))) ?_
    refine .reg' [0, 1, 5] [] ⟨[(0, (.sl true a0.length 4 (a0.flatMap e95))), (1, (.sl true a1.length 4 (a1.flatMap e95))), (5, (I 0))], [], [], []⟩ [l_ 58, b_ 0, c_ 15] aln nocal ?_
    exact ih0 a0 a1 0 _ h
  · rw [if_neg c1] at h
    refine .cond' (.tmp 10) true [c_ 52, c_ 53, c_ 7] (bT (nT (qF c1))) ?_
    refine .reg' [4] [] ⟨[(4, (B false))], [], [], []⟩ [c_ 53, c_ 7] aln nocal ?_
    have h := Option.some.inj h
    subst h
    exact .fin0 [] (B false) [] aln (.z .s)
/-! laws_eqNet: function 29 -/
def laws_eqNet.f (k : Nat) (a0 : S46) (a1 : S46) : Option Bool := (if a0.f0 = a1.f0 then ((laws_eqEdgeS.f k a0.f1 a1.f1).bind fun x1 => (if x1 = true then (some true) else (some false))) else (some false))
theorem laws_eqNet.J (k : Nat) (a0 : S46) (a1 : S46) (r : Bool) (h : laws_eqNet.f k a0 a1 = some r) : J prog (.call 29 [(.ag [(I a0.f0), (.sl true a0.f1.length 4 (a0.f1.flatMap e95))]), (.ag [(I a1.f0), (.sl true a1.f1.length 4 (a1.f1.flatMap e95))])] [] (B r) []) := by
  unfold laws_eqNet.f at h
  refine .call' [c_ 2, c_ 3] ?_
  refine .reg' [2, 3] [] ⟨[(2, (.pt 256 0 2)), (3, (.pt 257 0 2))], [(256, [(I a0.f0), (.sl true a0.f1.length 4 (a0.f1.flatMap e95))]), (257, [(I a1.f0), (.sl true a1.f1.length 4 (a1.f1.flatMap e95))])], [], []⟩ [c_ 12, c_ 13, c_ 7] aln nocal ?_
  refine .reg' [2, 3, 9] [] ⟨[(2, (.pt 256 0 2)), (3, (.pt 257 0 2)), (9, (B (!(a0.f0 == a1.f0))))], [(256, [(I a0.f0), (.sl true a0.f1.length 4 (a0.f1.flatMap e95))]), (257, [(I a1.f0), (.sl true a1.f1.length 4 (a1.f1.flatMap e95))])], [2 = 2 ∧ 0 + 1 ≤ 2, 2 = 2 ∧ 0 + 1 ≤ 2], []⟩ [c_ 13, c_ 7] (alc ⟨rfl, by decide⟩ (alc ⟨rfl, by decide⟩ aln)) nocal ?_
  by_cases c1 : a0.f0 = a1.f0
  · rw [if_pos c1] at h
    refine .cond' (.tmp 9) false [c_ 28, c_ 29, c_ 15] (bF (nF (qT c1))) ?_
    obtain ⟨x1, hx1, h⟩ := Option.bind_eq_some_iff.mp h
    refine .reg' [15] [.no, .no, .no, .no, .c ⟨67, [(.sl true a0.f1.length 4 (a0.f1.flatMap e95)), (.sl true a1.f1.length 4 (a1.f1.flatMap e95))], [], (B x1), [], [], [], [], (B x1), []⟩] ⟨[(15, (B (!x1)))], [(256, [(I a0.f0), (.sl true a0.f1.length 4 (a0.f1.flatMap e95))]), (257, [(I a1.f0), (.sl true a1.f1.length 4 (a1.f1.flatMap e95))])], [2 = 2 ∧ 1 + 1 ≤ 2, 2 = 2 ∧ 1 + 1 ≤ 2, COK (hget [(256, [(I a0.f0), (.sl true a0.f1.length 4 (a0.f1.flatMap e95))]), (257, [(I a1.f0), (.sl true a1.f1.length 4 (a1.f1.flatMap e95))])]) [(.sl true a0.f1.length 4 (a0.f1.flatMap e95)), (.sl true a1.f1.length 4 (a1.f1.flatMap e95))] ⟨67, [(.sl true a0.f1.length 4 (a0.f1.flatMap e95)), (.sl true a1.f1.length 4 (a1.f1.flatMap e95))], [], (B x1), [], [], [], [], (B x1), []⟩], [⟨67, [(.sl true a0.f1.length 4 (a0.f1.flatMap e95)), (.sl true a1.f1.length 4 (a1.f1.flatMap e95))], [], (B x1), [], [], [], [], (B x1), []⟩]⟩ [c_ 29, c_ 15] (alc ⟨rfl, by decide⟩ (alc ⟨rfl, by decide⟩ (alc (cok0 false (a2c (.z (frz_sl e95_ok (fun h => h))) (a2c (.z (frz_sl e95_ok (fun h => h))) a2n)) (.z .s) (fun h => absurd h (by decide))) aln))) (acal (laws_eqEdgeS.J k a0.f1 a1.f1 _ hx1) nocal) ?_
    by_cases c2 : x1 = true
    · rw [if_pos c2] at h
      refine .cond' (.tmp 15) false [c_ 30, c_ 31] (bF (nF c2)) ?_
      refine .reg' [4] [] ⟨[(4, (B true))], [(256, [(I a0.f0), (.sl true a0.f1.length 4 (a0.f1.flatMap e95))]), (257, [(I a1.f0), (.sl true a1.f1.length 4 (a1.f1.flatMap e95))])], [], []⟩ [c_ 31] aln nocal ?_
      have h := Option.some.inj h
      subst h
      exact .fin0 [] (B true) [] aln (.z .s)
    · rw [if_neg c2] at h
      refine .cond' (.tmp 15) true [c_ 116, c_ 117, c_ 15] (bT (nT (vF c2))) ?_
      refine .reg' [4] [] ⟨[(4, (B false))], [(256, [(I a0.f0), (.sl true a0.f1.length 4 (a0.f1.flatMap e95))]), (257, [(I a1.f0), (.sl true a1.f1.length 4 (a1.f1.flatMap e95))])], [], []⟩ [c_ 117, c_ 15] aln nocal ?_
      have h := Option.some.inj h
      subst h
      exact .fin0 [] (B false) [] aln (.z .s)
  · rw [if_neg c1] at h
    refine .cond' (.tmp 9) true [c_ 52, c_ 53, c_ 7] (bT (nT (qF c1))) ?_
    refine .reg' [4] [] ⟨[(4, (B false))], [(256, [(I a0.f0), (.sl true a0.f1.length 4 (a0.f1.flatMap e95))]), (257, [(I a1.f0), (.sl true a1.f1.length 4 (a1.f1.flatMap e95))])], [], []⟩ [c_ 53, c_ 7] aln nocal ?_
    have h := Option.some.inj h
    subst h
    exact .fin0 [] (B false) [] aln (.z .s)
/-! laws_eqCall: function 97 -/
def laws_eqCall.f (a0 : S89) (a1 : S89) : Option Bool := (if a0.f0 = a1.f0 then (if a0.f1 = a1.f1 then (if a0.f2 = a1.f2 then (some true) else (some false)) else (some false)) else (some false))
theorem laws_eqCall.J (a0 : S89) (a1 : S89) (r : Bool) (h : laws_eqCall.f a0 a1 = some r) : J prog (.call 97 [(.ag [(I a0.f0), (I a0.f1), (I a0.f2)]), (.ag [(I a1.f0), (I a1.f1), (I a1.f2)])] [] (B r) []) := by
  unfold laws_eqCall.f at h
  refine .call' [c_ 2, c_ 3] ?_
  refine .reg' [2, 3] [] ⟨[(2, (.pt 256 0 3)), (3, (.pt 257 0 3))], [(256, [(I a0.f0), (I a0.f1), (I a0.f2)]), (257, [(I a1.f0), (I a1.f1), (I a1.f2)])], [], []⟩ [c_ 12, c_ 13, c_ 7] aln nocal ?_
  refine .reg' [2, 3, 9] [] ⟨[(2, (.pt 256 0 3)), (3, (.pt 257 0 3)), (9, (B (!(a0.f0 == a1.f0))))], [(256, [(I a0.f0), (I a0.f1), (I a0.f2)]), (257, [(I a1.f0), (I a1.f1), (I a1.f2)])], [3 = 3 ∧ 0 + 1 ≤ 3, 3 = 3 ∧ 0 + 1 ≤ 3], []⟩ [c_ 13, c_ 7] (alc ⟨rfl, by decide⟩ (alc ⟨rfl, by decide⟩ aln)) nocal ?_
  by_cases c1 : a0.f0 = a1.f0
  · rw [if_pos c1] at h
    refine .cond' (.tmp 9) false [c_ 28, c_ 29, c_ 15] (bF (nF (qT c1))) ?_
    refine .reg' [2, 3, 14] [] ⟨[(2, (.pt 256 0 3)), (3, (.pt 257 0 3)), (14, (B (!(a0.f1 == a1.f1))))], [(256, [(I a0.f0), (I a0.f1), (I a0.f2)]), (257, [(I a1.f0), (I a1.f1), (I a1.f2)])], [3 = 3 ∧ 1 + 1 ≤ 3, 3 = 3 ∧ 1 + 1 ≤ 3], []⟩ [c_ 29, c_ 15] (alc ⟨rfl, by decide⟩ (alc ⟨rfl, by decide⟩ aln)) nocal ?_
    by_cases c2 : a0.f1 = a1.f1
    · rw [if_pos c2] at h
      refine .cond' (.tmp 14) false [c_ 60, c_ 61, c_ 31] (bF (nF (qT c2))) ?_
      refine .reg' [19] [] ⟨[(19, (B (!(a0.f2 == a1.f2))))], [(256, [(I a0.f0), (I a0.f1), (I a0.f2)]), (257, [(I a1.f0), (I a1.f1), (I a1.f2)])], [3 = 3 ∧ 2 + 1 ≤ 3, 3 = 3 ∧ 2 + 1 ≤ 3], []⟩ [c_ 61, c_ 31] (alc ⟨rfl, by decide⟩ (alc ⟨rfl, by decide⟩ aln)) nocal ?_
      by_cases c3 : a0.f2 = a1.f2
      · rw [if_pos c3] at h
        refine .cond' (.tmp 19) false [c_ 62, c_ 63] (bF (nF (qT c3))) ?_
        refine .reg' [4] [] ⟨[(4, (B true))], [(256, [(I a0.f0), (I a0.f1), (I a0.f2)]), (257, [(I a1.f0), (I a1.f1), (I a1.f2)])], [], []⟩ [c_ 63] aln nocal ?_
        have h := Option.some.inj h
        subst h
        exact .fin0 [] (B true) [] aln (.z .s)
      · rw [if_neg c3] at h
        refine .cond' (.tmp 19) true [c_ 244, c_ 245, c_ 31] (bT (nT (qF c3))) ?_
        refine .reg' [4] [] ⟨[(4, (B false))], [(256, [(I a0.f0), (I a0.f1), (I a0.f2)]), (257, [(I a1.f0), (I a1.f1), (I a1.f2)])], [], []⟩ [c_ 245, c_ 31] aln nocal ?_
        have h := Option.some.inj h
        subst h
        exact .fin0 [] (B false) [] aln (.z .s)
    · rw [if_neg c2] at h
      refine .cond' (.tmp 14) true [c_ 116, c_ 117, c_ 15] (bT (nT (qF c2))) ?_
      refine .reg' [4] [] ⟨[(4, (B false))], [(256, [(I a0.f0), (I a0.f1), (I a0.f2)]), (257, [(I a1.f0), (I a1.f1), (I a1.f2)])], [], []⟩ [c_ 117, c_ 15] aln nocal ?_
      have h := Option.some.inj h
      subst h
      exact .fin0 [] (B false) [] aln (.z .s)
  · rw [if_neg c1] at h
    refine .cond' (.tmp 9) true [c_ 52, c_ 53, c_ 7] (bT (nT (qF c1))) ?_
    refine .reg' [4] [] ⟨[(4, (B false))], [(256, [(I a0.f0), (I a0.f1), (I a0.f2)]), (257, [(I a1.f0), (I a1.f1), (I a1.f2)])], [], []⟩ [c_ 53, c_ 7] aln nocal ?_
    have h := Option.some.inj h
    subst h
    exact .fin0 [] (B false) [] aln (.z .s)
/-! laws_eqCallS: function 80 -/
def laws_eqCallS.l0 : Nat → (List S89) → (List S89) → Int → Option Bool
 | 0, _, _, _ => none
 | k + 1, a0, a1, x1 => (if x1 < (a0.length : Int) then (if 0 ≤ x1 then (if x1 < (a1.length : Int) then ((laws_eqCall.f (at_ a0 x1) (at_ a1 x1)).bind fun x2 => (if x2 = true then (laws_eqCallS.l0 k a0 a1 (wrap64 (x1 + 1))) else (some false))) else none) else none) else (some true))
def laws_eqCallS.f (k : Nat) (a0 : (List S89)) (a1 : (List S89)) : Option Bool := (if (a0.length : Int) = (a1.length : Int) then (laws_eqCallS.l0 k a0 a1 0) else (some false))
theorem laws_eqCallS.lab : ∀ k, (∀ (a0 : (List S89)) (a1 : (List S89)) (x1 : Int) (r : Bool), laws_eqCallS.l0 k a0 a1 x1 = some r → J prog (.run 80 [] [l_ 58, b_ 0, c_ 15] [(0, (.sl true a0.length 3 (a0.flatMap e89))), (1, (.sl true a1.length 3 (a1.flatMap e89))), (5, (I x1))] [] (B r) []))
 | 0 => (by intro a0 a1 x1 r h; unfold laws_eqCallS.l0 at h; cases h)
 | k + 1 => by
  have ih0 := laws_eqCallS.lab k
  · intro a0 a1 x1 r h
    unfold laws_eqCallS.l0 at h
    refine .loop' [c_ 464, c_ 465, c_ 233, l_ 58, b_ 0, c_ 15] ?_
    refine .reg' [0, 1, 5, 14] [] ⟨[(0, (.sl true a0.length 3 (a0.flatMap e89))), (1, (.sl true a1.length 3 (a1.flatMap e89))), (5, (I x1)), (14, (B (decide (x1 < (a0.length : Int)))))], [], [], []⟩ [c_ 465, c_ 233, l_ 58, b_ 0, c_ 15] aln nocal ?_
    by_cases c2 : x1 < (a0.length : Int)
    · rw [if_pos c2] at h
      refine .cond' (.tmp 14) true [c_ 1864, c_ 1865, b_ 1, c_ 467, l_ 58, b_ 0, c_ 15] (bT (dT c2)) ?_
      by_cases c3 : 0 ≤ x1
      · rw [if_pos c3] at h
        by_cases c4 : x1 < (a1.length : Int)
        · rw [if_pos c4] at h
          obtain ⟨x2, hx2, h⟩ := Option.bind_eq_some_iff.mp h
          refine .reg' [0, 1, 5, 26] [.no, .no, .no, .v (.ag [(I (at_ a0 x1).f0), (I (at_ a0 x1).f1), (I (at_ a0 x1).f2)]), .no, .no, .no, .v (.ag [(I (at_ a1 x1).f0), (I (at_ a1 x1).f1), (I (at_ a1 x1).f2)]), .c ⟨97, [(.ag [(I (at_ a0 x1).f0), (I (at_ a0 x1).f1), (I (at_ a0 x1).f2)]), (.ag [(I (at_ a1 x1).f0), (I (at_ a1 x1).f1), (I (at_ a1 x1).f2)])], [], (B x2), [], [], [], [], (B x2), []⟩] ⟨[(0, (.sl true a0.length 3 (a0.flatMap e89))), (1, (.sl true a1.length 3 (a1.flatMap e89))), (5, (I x1)), (26, (B (!x2)))], [], [(0 : Int) ≤ x1 ∧ x1 < (a0.length : Int), rdC prog 90 ((a0.flatMap e89).drop (x1.toNat * 3)) = (.ag [(I (at_ a0 x1).f0), (I (at_ a0 x1).f1), (I (at_ a0 x1).f2)]), 3 ≤ ((a0.flatMap e89).drop (x1.toNat * 3)).length, (0 : Int) ≤ x1 ∧ x1 < (a1.length : Int), rdC prog 90 ((a1.flatMap e89).drop (x1.toNat * 3)) = (.ag [(I (at_ a1 x1).f0), (I (at_ a1 x1).f1), (I (at_ a1 x1).f2)]), 3 ≤ ((a1.flatMap e89).drop (x1.toNat * 3)).length, COK (hget []) [(.ag [(I (at_ a0 x1).f0), (I (at_ a0 x1).f1), (I (at_ a0 x1).f2)]), (.ag [(I (at_ a1 x1).f0), (I (at_ a1 x1).f1), (I (at_ a1 x1).f2)])] ⟨97, [(.ag [(I (at_ a0 x1).f0), (I (at_ a0 x1).f1), (I (at_ a0 x1).f2)]), (.ag [(I (at_ a1 x1).f0), (I (at_ a1 x1).f1), (I (at_ a1 x1).f2)])], [], (B x2), [], [], [], [], (B x2), []⟩], [⟨97, [(.ag [(I (at_ a0 x1).f0), (I (at_ a0 x1).f1), (I (at_ a0 x1).f2)]), (.ag [(I (at_ a1 x1).f0), (I (at_ a1 x1).f1), (I (at_ a1 x1).f2)])], [], (B x2), [], [], [], [], (B x2), []⟩]⟩ [c_ 1865, b_ 1, c_ 467, l_ 58, b_ 0, c_ 15] (alc ⟨c3, c2⟩ (alc (ldA e89_ok rfl rfl c3 c2) (alc (okI e89_ok c3 c2 (by decide)) (alc ⟨c3, c4⟩ (alc (ldA e89_ok rfl rfl c3 c4) (alc (okI e89_ok c3 c4 (by decide)) (alc (cok0 false (a2c (.z (frz_ag (a2c .s (a2c .s (a2c .s a2n))))) (a2c (.z (frz_ag (a2c .s (a2c .s (a2c .s a2n))))) a2n)) (.z .s) (fun h => absurd h (by decide))) aln))))))) (acal (laws_eqCall.J (at_ a0 x1) (at_ a1 x1) _ hx2) nocal) ?_
          by_cases c5 : x2 = true
          · rw [if_pos c5] at h
            refine .cond' (.tmp 26) false [c_ 467, l_ 58, b_ 0, c_ 15] (bF (nF c5)) ?_
            refine .reg' [0, 1, 5] [] ⟨[(0, (.sl true a0.length 3 (a0.flatMap e89))), (1, (.sl true a1.length 3 (a1.flatMap e89))), (5, (I (wrap64 (x1 + 1))))], [], [], []⟩ [l_ 58, b_ 0, c_ 15] aln nocal ?_
            exact ih0 a0 a1 (wrap64 (x1 + 1)) _ h
          · rw [if_neg c5] at h
            refine .cond' (.tmp 26) true [c_ 7460, c_ 7461, b_ 1, c_ 467, l_ 58, b_ 0, c_ 15] (bT (nT (vF c5))) ?_
            refine .reg' [4] [] ⟨[(4, (B false))], [], [], []⟩ [c_ 7461, b_ 1, c_ 467, l_ 58, b_ 0, c_ 15] aln nocal ?_
            have h := Option.some.inj h
            subst h
            exact .fin0 [] (B false) [] aln (.z .s)
        · rw [if_neg c4] at h
          cases h
      · rw [if_neg c3] at h
        cases h
    · rw [if_neg c2] at h
      refine .cond' (.tmp 14) false [c_ 30, c_ 31] (bF (dF c2)) ?_
      refine .reg' [4] [] ⟨[(4, (B true))], [], [], []⟩ [c_ 31] aln nocal ?_
      have h := Option.some.inj h
      subst h
      exact .fin0 [] (B true) [] aln (.z .s)
theorem laws_eqCallS.J (k : Nat) (a0 : (List S89)) (a1 : (List S89)) (r : Bool) (h : laws_eqCallS.f k a0 a1 = some r) : J prog (.call 80 [(.sl true a0.length 3 (a0.flatMap e89)), (.sl true a1.length 3 (a1.flatMap e89))] [] (B r) []) := by
  unfold laws_eqCallS.f at h
  have ih0 := laws_eqCallS.lab k
  refine .call' [c_ 2, c_ 3] ?_
  refine .reg' [0, 1] [] ⟨[(0, (.sl true a0.length 3 (a0.flatMap e89))), (1, (.sl true a1.length 3 (a1.flatMap e89)))], [], [], []⟩ [c_ 12, c_ 13, c_ 7] aln nocal ?_
  refine .reg' [0, 1, 10] [] ⟨[(0, (.sl true a0.length 3 (a0.flatMap e89))), (1, (.sl true a1.length 3 (a1.flatMap e89))), (10, (B (!((a0.length : Int) == (a1.length : Int)))))], [], [], []⟩ [c_ 13, c_ 7] aln nocal ?_
  by_cases c1 : (a0.length : Int) = (a1.length : Int)
  · rw [if_pos c1] at h
    refine .cond' (.tmp 10) false [c_ 28, c_ 29, c_ 15] (bF (nF (qT c1))) ?_
    refine .reg' [0, 1, 5] [] ⟨[(0, (.sl true a0.length 3 (a0.flatMap e89))), (1, (.sl true a1.length 3 (a1.flatMap e89))), (5, (I 0))], [], [], []⟩ [l_ 58, b_ 0, c_ 15] aln nocal ?_
    exact ih0 a0 a1 0 _ h
  · rw [if_neg c1] at h
    refine .cond' (.tmp 10) true [c_ 52, c_ 53, c_ 7] (bT (nT (qF c1))) ?_
    refine .reg' [4] [] ⟨[(4, (B false))], [], [], []⟩ [c_ 53, c_ 7] aln nocal ?_
    have h := Option.some.inj h
    subst h
    exact .fin0 [] (B false) [] aln (.z .s)
/-! laws_eqTrip: function 43 -/
def laws_eqTrip.f (k : Nat) (a0 : S66) (a1 : S66) : Option Bool := (if (sEq a0.f0 a1.f0) = true then ((laws_eqCallS.f k a0.f1 a1.f1).bind fun x1 => (if x1 = true then (some true) else (some false))) else (some false))
theorem laws_eqTrip.J (k : Nat) (a0 : S66) (a1 : S66) (r : Bool) (h : laws_eqTrip.f k a0 a1 = some r) : J prog (.call 43 [(.ag [(S a0.f0), (.sl true a0.f1.length 3 (a0.f1.flatMap e89))]), (.ag [(S a1.f0), (.sl true a1.f1.length 3 (a1.f1.flatMap e89))])] [] (B r) []) := by
  unfold laws_eqTrip.f at h
  refine .call' [c_ 2, c_ 3] ?_
  refine .reg' [2, 3] [] ⟨[(2, (.pt 256 0 2)), (3, (.pt 257 0 2))], [(256, [(S a0.f0), (.sl true a0.f1.length 3 (a0.f1.flatMap e89))]), (257, [(S a1.f0), (.sl true a1.f1.length 3 (a1.f1.flatMap e89))])], [], []⟩ [c_ 12, c_ 13, c_ 7] aln nocal ?_
  refine .reg' [2, 3, 9] [] ⟨[(2, (.pt 256 0 2)), (3, (.pt 257 0 2)), (9, (B (!(sEq a0.f0 a1.f0))))], [(256, [(S a0.f0), (.sl true a0.f1.length 3 (a0.f1.flatMap e89))]), (257, [(S a1.f0), (.sl true a1.f1.length 3 (a1.f1.flatMap e89))])], [2 = 2 ∧ 0 + 1 ≤ 2, 2 = 2 ∧ 0 + 1 ≤ 2], []⟩ [c_ 13, c_ 7] (alc ⟨rfl, by decide⟩ (alc ⟨rfl, by decide⟩ aln)) nocal ?_
  by_cases c1 : (sEq a0.f0 a1.f0) = true
  · rw [if_pos c1] at h
    refine .cond' (.tmp 9) false [c_ 28, c_ 29, c_ 15] (bF (nF c1)) ?_
    obtain ⟨x1, hx1, h⟩ := Option.bind_eq_some_iff.mp h
    refine .reg' [15] [.no, .no, .no, .no, .c ⟨80, [(.sl true a0.f1.length 3 (a0.f1.flatMap e89)), (.sl true a1.f1.length 3 (a1.f1.flatMap e89))], [], (B x1), [], [], [], [], (B x1), []⟩] ⟨[(15, (B (!x1)))], [(256, [(S a0.f0), (.sl true a0.f1.length 3 (a0.f1.flatMap e89))]), (257, [(S a1.f0), (.sl true a1.f1.length 3 (a1.f1.flatMap e89))])], [2 = 2 ∧ 1 + 1 ≤ 2, 2 = 2 ∧ 1 + 1 ≤ 2, COK (hget [(256, [(S a0.f0), (.sl true a0.f1.length 3 (a0.f1.flatMap e89))]), (257, [(S a1.f0), (.sl true a1.f1.length 3 (a1.f1.flatMap e89))])]) [(.sl true a0.f1.length 3 (a0.f1.flatMap e89)), (.sl true a1.f1.length 3 (a1.f1.flatMap e89))] ⟨80, [(.sl true a0.f1.length 3 (a0.f1.flatMap e89)), (.sl true a1.f1.length 3 (a1.f1.flatMap e89))], [], (B x1), [], [], [], [], (B x1), []⟩], [⟨80, [(.sl true a0.f1.length 3 (a0.f1.flatMap e89)), (.sl true a1.f1.length 3 (a1.f1.flatMap e89))], [], (B x1), [], [], [], [], (B x1), []⟩]⟩ [c_ 29, c_ 15] (alc ⟨rfl, by decide⟩ (alc ⟨rfl, by decide⟩ (alc (cok0 false (a2c (.z (frz_sl e89_ok (fun h => h))) (a2c (.z (frz_sl e89_ok (fun h => h))) a2n)) (.z .s) (fun h => absurd h (by decide))) aln))) (acal (laws_eqCallS.J k a0.f1 a1.f1 _ hx1) nocal) ?_
    by_cases c2 : x1 = true
    · rw [if_pos c2] at h
      refine .cond' (.tmp 15) false [c_ 30, c_ 31] (bF (nF c2)) ?_
      refine .reg' [4] [] ⟨[(4, (B true))], [(256, [(S a0.f0), (.sl true a0.f1.length 3 (a0.f1.flatMap e89))]), (257, [(S a1.f0), (.sl true a1.f1.length 3 (a1.f1.flatMap e89))])], [], []⟩ [c_ 31] aln nocal ?_
      have h := Option.some.inj h
      subst h
      exact .fin0 [] (B true) [] aln (.z .s)
    · rw [if_neg c2] at h
      refine .cond' (.tmp 15) true [c_ 116, c_ 117, c_ 15] (bT (nT (vF c2))) ?_
      refine .reg' [4] [] ⟨[(4, (B false))], [(256, [(S a0.f0), (.sl true a0.f1.length 3 (a0.f1.flatMap e89))]), (257, [(S a1.f0), (.sl true a1.f1.length 3 (a1.f1.flatMap e89))])], [], []⟩ [c_ 117, c_ 15] aln nocal ?_
      have h := Option.some.inj h
      subst h
      exact .fin0 [] (B false) [] aln (.z .s)
  · rw [if_neg c1] at h
    refine .cond' (.tmp 9) true [c_ 52, c_ 53, c_ 7] (bT (nT (vF c1))) ?_
    refine .reg' [4] [] ⟨[(4, (B false))], [(256, [(S a0.f0), (.sl true a0.f1.length 3 (a0.f1.flatMap e89))]), (257, [(S a1.f0), (.sl true a1.f1.length 3 (a1.f1.flatMap e89))])], [], []⟩ [c_ 53, c_ 7] aln nocal ?_
    have h := Option.some.inj h
    subst h
    exact .fin0 [] (B false) [] aln (.z .s)
/-! laws_eqTripS: function 30 -/
end Go.Proofs.Ytebgaiokpncacaa.Fns
