/- The functions that the law FnSettle reaches, by the engine. Printed by a program of this seat. -/
import Derived.Test.YtebgaiokpncacaaE5
import Derived.Test.YtebgaiokpncacaaProg
import Derived.Test.YtebgaiokpncacaaFFnSettlex2
namespace Go.Proofs.Ytebgaiokpncacaa.Fns
open Go.Proofs.Try Go.Proofs.Ytebgaiokpncacaa.Eng Go.RowKit
set_option maxRecDepth 100000
set_option linter.unusedVariables false
set_option linter.unusedSimpArgs false
theorem impl_TableOk.lab : ∀ k, (∀ (a0 : (List S66)) (x1 : Int) (r : Bool), impl_TableOk.l0 k a0 x1 = some r → J prog (.run 88 [] [l_ 58, b_ 0, c_ 15] [(0, (.sl true a0.length 2 (a0.flatMap (e66 true)))), (8, (.sl true a0.length 2 (a0.flatMap (e66 true)))), (9, (I (a0.length : Int))), (10, (I x1))] [] (B r) []))
 | 0 => (by intro a0 x1 r h; unfold impl_TableOk.l0 at h; cases h)
 | k + 1 => by
  have ih0 := impl_TableOk.lab k
  · intro a0 x1 r h
    unfold impl_TableOk.l0 at h
    refine .loop' [c_ 232, c_ 233, l_ 58, b_ 0, c_ 15] ?_
    refine .reg' [0, 8, 9, 10, 11] [] ⟨[(0, (.sl true a0.length 2 (a0.flatMap (e66 true)))), (8, (.sl true a0.length 2 (a0.flatMap (e66 true)))), (9, (I (a0.length : Int))), (10, (I x1)), (11, (B (decide (x1 < (a0.length : Int)))))], [], [], []⟩ [c_ 466, c_ 467, l_ 58, b_ 0, c_ 15] aln nocal ?_
    by_cases c2 : x1 < (a0.length : Int)
    · rw [if_pos c2] at h
      refine .cond' (.tmp 11) true [c_ 3736, c_ 3737, b_ 1, c_ 935, l_ 58, b_ 0, c_ 15] (bT (dT c2)) ?_
      by_cases c3 : 0 ≤ x1
      · rw [if_pos c3] at h
        refine .reg' [0, 3, 4, 8, 9, 10] [.no, .no, .v (.ag [(S (at_ a0 x1).f0), (.sl true (at_ a0 x1).f1.length 3 ((at_ a0 x1).f1.flatMap e89))])] ⟨[(0, (.sl true a0.length 2 (a0.flatMap (e66 true)))), (3, (I x1)), (4, (.pt 1539 0 2)), (8, (.sl true a0.length 2 (a0.flatMap (e66 true)))), (9, (I (a0.length : Int))), (10, (I x1))], [(1539, [(S (at_ a0 x1).f0), (.sl true (at_ a0 x1).f1.length 3 ((at_ a0 x1).f1.flatMap e89))])], [(0 : Int) ≤ x1 ∧ x1 < (a0.length : Int), rdC prog 67 ((a0.flatMap (e66 true)).drop (x1.toNat * 2)) = (.ag [(S (at_ a0 x1).f0), (.sl true (at_ a0 x1).f1.length 3 ((at_ a0 x1).f1.flatMap e89))]), 2 ≤ ((a0.flatMap (e66 true)).drop (x1.toNat * 2)).length, 2 = 2 ∧ 0 + 2 ≤ 2], []⟩ [c_ 7474, c_ 7475, b_ 1, c_ 935, l_ 58, b_ 0, c_ 15] (alc ⟨c3, c2⟩ (alc (ldA (e66_ok true) rfl rfl c3 c2) (alc (okI (e66_ok true) c3 c2 (by decide)) (alc ⟨rfl, by decide⟩ aln)))) nocal ?_
        obtain ⟨x2, hx2, h⟩ := Option.bind_eq_some_iff.mp h
        by_cases c4 : x2 = true
        · rw [if_pos c4] at h
          by_cases c5 : x1 ≤ (a0.length : Int)
          · rw [if_pos c5] at h
            obtain ⟨x3, hx3, h⟩ := Option.bind_eq_some_iff.mp h
            refine .reg' [0, 8, 9, 10, 26] [.no, .c ⟨76, [(.ag [(S (at_ a0 x1).f0), (.sl true (at_ a0 x1).f1.length 3 ((at_ a0 x1).f1.flatMap e89))])], [], (B x2), [], [], [], [], (B x2), []⟩, .no, .v (B false), .no, .no, .v (.sl true ((a0.drop (0 : Int).toNat).take (x1.toNat - (0 : Int).toNat)).length 2 (((a0.drop (0 : Int).toNat).take (x1.toNat - (0 : Int).toNat)).flatMap (e66 true))), .no, .no, .c ⟨77, [(.sl true ((a0.drop (0 : Int).toNat).take (x1.toNat - (0 : Int).toNat)).length 2 (((a0.drop (0 : Int).toNat).take (x1.toNat - (0 : Int).toNat)).flatMap (e66 true))), (S (at_ a0 x1).f0)], [], (I x3), [], [], [], [], (I x3), []⟩] ⟨[(0, (.sl true a0.length 2 (a0.flatMap (e66 true)))), (8, (.sl true a0.length 2 (a0.flatMap (e66 true)))), (9, (I (a0.length : Int))), (10, (I x1)), (26, (B (decide (x3 ≥ 0))))], [(1539, [(S (at_ a0 x1).f0), (.sl true (at_ a0 x1).f1.length 3 ((at_ a0 x1).f1.flatMap e89))])], [2 = 2 ∧ 0 + 2 ≤ 2, COK (hget [(1539, [(S (at_ a0 x1).f0), (.sl true (at_ a0 x1).f1.length 3 ((at_ a0 x1).f1.flatMap e89))])]) [(.ag [(S (at_ a0 x1).f0), (.sl true (at_ a0 x1).f1.length 3 ((at_ a0 x1).f1.flatMap e89))])] ⟨76, [(.ag [(S (at_ a0 x1).f0), (.sl true (at_ a0 x1).f1.length 3 ((at_ a0 x1).f1.flatMap e89))])], [], (B x2), [], [], [], [], (B x2), []⟩, (B (!x2) : V) = B false, V.sl true (x1.toNat - (0 : Int).toNat) 2 (((a0.flatMap (e66 true)).drop ((0 : Int).toNat * 2)).take ((x1.toNat - (0 : Int).toNat) * 2)) = (.sl true ((a0.drop (0 : Int).toNat).take (x1.toNat - (0 : Int).toNat)).length 2 (((a0.drop (0 : Int).toNat).take (x1.toNat - (0 : Int).toNat)).flatMap (e66 true))), 0 ≤ (0 : Int) ∧ 0 ≤ x1 ∧ x1 ≤ (a0.length : Int), 2 = 2 ∧ 0 + 1 ≤ 2, COK (hget [(1539, [(S (at_ a0 x1).f0), (.sl true (at_ a0 x1).f1.length 3 ((at_ a0 x1).f1.flatMap e89))])]) [(.sl true ((a0.drop (0 : Int).toNat).take (x1.toNat - (0 : Int).toNat)).length 2 (((a0.drop (0 : Int).toNat).take (x1.toNat - (0 : Int).toNat)).flatMap (e66 true))), (S (at_ a0 x1).f0)] ⟨77, [(.sl true ((a0.drop (0 : Int).toNat).take (x1.toNat - (0 : Int).toNat)).length 2 (((a0.drop (0 : Int).toNat).take (x1.toNat - (0 : Int).toNat)).flatMap (e66 true))), (S (at_ a0 x1).f0)], [], (I x3), [], [], [], [], (I x3), []⟩], [⟨76, [(.ag [(S (at_ a0 x1).f0), (.sl true (at_ a0 x1).f1.length 3 ((at_ a0 x1).f1.flatMap e89))])], [], (B x2), [], [], [], [], (B x2), []⟩, ⟨77, [(.sl true ((a0.drop (0 : Int).toNat).take (x1.toNat - (0 : Int).toNat)).length 2 (((a0.drop (0 : Int).toNat).take (x1.toNat - (0 : Int).toNat)).flatMap (e66 true))), (S (at_ a0 x1).f0)], [], (I x3), [], [], [], [], (I x3), []⟩]⟩ [c_ 7475, b_ 1, c_ 935, l_ 58, b_ 0, c_ 15] (alc ⟨rfl, by decide⟩ (alc (cok0 false (a2c (.z (frz_ag (a2c .s (a2c (frz_sl e89_ok (fun h => h)) a2n)))) a2n) (.z .s) (fun h => absurd h (by decide))) (alc (bF (nF c4)) (alc (slS (e66_ok true) (by omega) (by omega)) (alc ⟨(by decide), c3, c5⟩ (alc ⟨rfl, by decide⟩ (alc (cok0 false (a2c (.z (frz_sl (e66_ok true) (fun h => h))) (a2c (.z .s) a2n)) (.z .s) (fun h => absurd h (by decide))) aln))))))) (acal (impl_TripOk.J k (at_ a0 x1) _ hx2) (acal (impl_tripNamed.J k ((a0.drop (0 : Int).toNat).take (x1.toNat - (0 : Int).toNat)) ((at_ a0 x1).f0) _ hx3) nocal)) ?_
            by_cases c6 : x3 ≥ 0
            · rw [if_pos c6] at h
              refine .cond' (.tmp 26) true [c_ 29900, c_ 29901, b_ 1, c_ 935, l_ 58, b_ 0, c_ 15] (bT (dT c6)) ?_
              refine .reg' [2] [] ⟨[(2, (B false))], [(1539, [(S (at_ a0 x1).f0), (.sl true (at_ a0 x1).f1.length 3 ((at_ a0 x1).f1.flatMap e89))])], [], []⟩ [c_ 29901, b_ 1, c_ 935, l_ 58, b_ 0, c_ 15] aln nocal ?_
              have h := Option.some.inj h
              subst h
              exact .fin0 [] (B false) [] aln (.z .s)
            · rw [if_neg c6] at h
              refine .cond' (.tmp 26) false [c_ 935, l_ 58, b_ 0, c_ 15] (bF (dF c6)) ?_
              refine .reg' [0, 8, 9, 10] [] ⟨[(0, (.sl true a0.length 2 (a0.flatMap (e66 true)))), (8, (.sl true a0.length 2 (a0.flatMap (e66 true)))), (9, (I (a0.length : Int))), (10, (I (wrap64 (x1 + 1))))], [(1539, [(S (at_ a0 x1).f0), (.sl true (at_ a0 x1).f1.length 3 ((at_ a0 x1).f1.flatMap e89))])], [], []⟩ [l_ 58, b_ 0, c_ 15] aln nocal ?_
              refine .wk' [] [] [(0, (.sl true a0.length 2 (a0.flatMap (e66 true)))), (8, (.sl true a0.length 2 (a0.flatMap (e66 true)))), (9, (I (a0.length : Int))), (10, (I (wrap64 (x1 + 1))))] [] shn (enc_ (.z (frz_sl (e66_ok true) (fun h => h))) (enc_ (.z (frz_sl (e66_ok true) (fun h => h))) (enc_ (.z .s) (enc_ (.z .s) enn)))) ?_
              exact ih0 a0 (wrap64 (x1 + 1)) _ h
          · rw [if_neg c5] at h
            cases h
        · rw [if_neg c4] at h
          refine .reg' [0, 8, 9, 10, 26] [.no, .c ⟨76, [(.ag [(S (at_ a0 x1).f0), (.sl true (at_ a0 x1).f1.length 3 ((at_ a0 x1).f1.flatMap e89))])], [], (B x2), [], [], [], [], (B x2), []⟩, .no, .v (B true)] ⟨[(0, (.sl true a0.length 2 (a0.flatMap (e66 true)))), (8, (.sl true a0.length 2 (a0.flatMap (e66 true)))), (9, (I (a0.length : Int))), (10, (I x1)), (26, (B true))], [(1539, [(S (at_ a0 x1).f0), (.sl true (at_ a0 x1).f1.length 3 ((at_ a0 x1).f1.flatMap e89))])], [2 = 2 ∧ 0 + 2 ≤ 2, COK (hget [(1539, [(S (at_ a0 x1).f0), (.sl true (at_ a0 x1).f1.length 3 ((at_ a0 x1).f1.flatMap e89))])]) [(.ag [(S (at_ a0 x1).f0), (.sl true (at_ a0 x1).f1.length 3 ((at_ a0 x1).f1.flatMap e89))])] ⟨76, [(.ag [(S (at_ a0 x1).f0), (.sl true (at_ a0 x1).f1.length 3 ((at_ a0 x1).f1.flatMap e89))])], [], (B x2), [], [], [], [], (B x2), []⟩, (B (!x2) : V) = B true], [⟨76, [(.ag [(S (at_ a0 x1).f0), (.sl true (at_ a0 x1).f1.length 3 ((at_ a0 x1).f1.flatMap e89))])], [], (B x2), [], [], [], [], (B x2), []⟩]⟩ [c_ 7475, b_ 1, c_ 935, l_ 58, b_ 0, c_ 15] (alc ⟨rfl, by decide⟩ (alc (cok0 false (a2c (.z (frz_ag (a2c .s (a2c (frz_sl e89_ok (fun h => h)) a2n)))) a2n) (.z .s) (fun h => absurd h (by decide))) (alc (bT (nT (vF c4))) aln))) (acal (impl_TripOk.J k (at_ a0 x1) _ hx2) nocal) ?_
          refine .cond' (.tmp 26) true [c_ 29900, c_ 29901, b_ 1, c_ 935, l_ 58, b_ 0, c_ 15] (rfl) ?_
          refine .reg' [2] [] ⟨[(2, (B false))], [(1539, [(S (at_ a0 x1).f0), (.sl true (at_ a0 x1).f1.length 3 ((at_ a0 x1).f1.flatMap e89))])], [], []⟩ [c_ 29901, b_ 1, c_ 935, l_ 58, b_ 0, c_ 15] aln nocal ?_
          have h := Option.some.inj h
          subst h
          exact .fin0 [] (B false) [] aln (.z .s)
      · rw [if_neg c3] at h
        cases h
    · rw [if_neg c2] at h
      refine .cond' (.tmp 11) false [c_ 30, c_ 31] (bF (dF c2)) ?_
      refine .reg' [2] [] ⟨[(2, (B true))], [], [], []⟩ [c_ 31] aln nocal ?_
      have h := Option.some.inj h
      subst h
      exact .fin0 [] (B true) [] aln (.z .s)
theorem impl_TableOk.J (k : Nat) (a0 : (List S66)) (r : Bool) (h : impl_TableOk.f k a0 = some r) : J prog (.call 88 [(.sl true a0.length 2 (a0.flatMap (e66 true)))] [] (B r) []) := by
  unfold impl_TableOk.f at h
  have ih0 := impl_TableOk.lab k
  refine .call' [c_ 2, c_ 3] ?_
  refine .reg' [0] [] ⟨[(0, (.sl true a0.length 2 (a0.flatMap (e66 true))))], [], [], []⟩ [c_ 12, c_ 13, c_ 7] aln nocal ?_
  refine .reg' [0, 7] [] ⟨[(0, (.sl true a0.length 2 (a0.flatMap (e66 true)))), (7, (B (decide ((a0.length : Int) > 24))))], [], [], []⟩ [c_ 13, c_ 7] aln nocal ?_
  by_cases c1 : (a0.length : Int) > 24
  · rw [if_pos c1] at h
    refine .cond' (.tmp 7) true [c_ 52, c_ 53, c_ 7] (bT (dT c1)) ?_
    refine .reg' [2] [] ⟨[(2, (B false))], [], [], []⟩ [c_ 53, c_ 7] aln nocal ?_
    have h := Option.some.inj h
    subst h
    exact .fin0 [] (B false) [] aln (.z .s)
  · rw [if_neg c1] at h
    refine .cond' (.tmp 7) false [c_ 28, c_ 29, c_ 15] (bF (dF c1)) ?_
    refine .reg' [0, 8, 9, 10] [] ⟨[(0, (.sl true a0.length 2 (a0.flatMap (e66 true)))), (8, (.sl true a0.length 2 (a0.flatMap (e66 true)))), (9, (I (a0.length : Int))), (10, (I 0))], [], [], []⟩ [l_ 58, b_ 0, c_ 15] aln nocal ?_
    exact ih0 a0 0 _ h
/-! impl_Net_joining: function 96 -/
def impl_Net_joining.l0 : Nat → S46 → Int → Int → Int → Option (Int × Int)
 | 0, _, _, _, _ => none
 | k + 1, a0, a1, a2, x1 => (if x1 < (a0.f1.length : Int) then (if 0 ≤ x1 then (if (at_ a0.f1 x1).f0 = a1 then (if (at_ a0.f1 x1).f1 = a2 then (some (x1, 0)) else (if (at_ a0.f1 x1).f0 = a2 then (if (at_ a0.f1 x1).f1 = a1 then (some (x1, 1)) else (impl_Net_joining.l0 k a0 a1 a2 (wrap64 (x1 + 1)))) else (impl_Net_joining.l0 k a0 a1 a2 (wrap64 (x1 + 1))))) else (if (at_ a0.f1 x1).f0 = a2 then (if (at_ a0.f1 x1).f1 = a1 then (some (x1, 1)) else (impl_Net_joining.l0 k a0 a1 a2 (wrap64 (x1 + 1)))) else (impl_Net_joining.l0 k a0 a1 a2 (wrap64 (x1 + 1))))) else none) else (some ((-1), 0)))
def impl_Net_joining.f (k : Nat) (a0 : S46) (a1 : Int) (a2 : Int) : Option (Int × Int) := (impl_Net_joining.l0 k a0 a1 a2 0)
theorem impl_Net_joining.lab : ∀ k, (∀ (a0 : S46) (a1 : Int) (a2 : Int) (x1 : Int) (r : (Int × Int)), impl_Net_joining.l0 k a0 a1 a2 x1 = some r → J prog (.run 96 [] [l_ 26, b_ 0, c_ 7] [(1, (I a1)), (2, (I a2)), (11, (.sl true a0.f1.length 4 (a0.f1.flatMap e95))), (12, (I (a0.f1.length : Int))), (13, (I x1))] [] (.tp [(I r.1), (I r.2)]) []))
 | 0 => (by intro a0 a1 a2 x1 r h; unfold impl_Net_joining.l0 at h; cases h)
 | k + 1 => by
  have ih0 := impl_Net_joining.lab k
  · intro a0 a1 a2 x1 r h
    unfold impl_Net_joining.l0 at h
    refine .loop' [c_ 104, c_ 105, l_ 26, b_ 0, c_ 7] ?_
    refine .reg' [1, 2, 11, 12, 13, 14] [] ⟨[(1, (I a1)), (2, (I a2)), (11, (.sl true a0.f1.length 4 (a0.f1.flatMap e95))), (12, (I (a0.f1.length : Int))), (13, (I x1)), (14, (B (decide (x1 < (a0.f1.length : Int)))))], [], [], []⟩ [c_ 210, c_ 211, l_ 26, b_ 0, c_ 7] aln nocal ?_
    by_cases c1 : x1 < (a0.f1.length : Int)
    · rw [if_pos c1] at h
      refine .cond' (.tmp 14) true [c_ 1688, c_ 1689, b_ 1, c_ 423, l_ 26, b_ 0, c_ 7] (bT (dT c1)) ?_
      by_cases c2 : 0 ≤ x1
      · rw [if_pos c2] at h
        refine .reg' [1, 2, 8, 9, 11, 12, 13] [.no, .no, .v (.ag [(I (at_ a0.f1 x1).f0), (I (at_ a0.f1 x1).f1), (I (at_ a0.f1 x1).f2), (I (at_ a0.f1 x1).f3)])] ⟨[(1, (I a1)), (2, (I a2)), (8, (I x1)), (9, (.pt 1027 0 4)), (11, (.sl true a0.f1.length 4 (a0.f1.flatMap e95))), (12, (I (a0.f1.length : Int))), (13, (I x1))], [(1027, [(I (at_ a0.f1 x1).f0), (I (at_ a0.f1 x1).f1), (I (at_ a0.f1 x1).f2), (I (at_ a0.f1 x1).f3)])], [(0 : Int) ≤ x1 ∧ x1 < (a0.f1.length : Int), rdC prog 96 ((a0.f1.flatMap e95).drop (x1.toNat * 4)) = (.ag [(I (at_ a0.f1 x1).f0), (I (at_ a0.f1 x1).f1), (I (at_ a0.f1 x1).f2), (I (at_ a0.f1 x1).f3)]), 4 ≤ ((a0.f1.flatMap e95).drop (x1.toNat * 4)).length, 4 = 4 ∧ 0 + 4 ≤ 4], []⟩ [c_ 6756, c_ 6757, c_ 3379, b_ 1, c_ 423, l_ 26, b_ 0, c_ 7] (alc ⟨c2, c1⟩ (alc (ldA e95_ok rfl rfl c2 c1) (alc (okI e95_ok c2 c1 (by decide)) (alc ⟨rfl, by decide⟩ aln)))) nocal ?_
        by_cases c3 : (at_ a0.f1 x1).f0 = a1
        · rw [if_pos c3] at h
          refine .reg' [1, 2, 8, 9, 11, 12, 13, 27] [.no, .no, .no, .no, .v (B true)] ⟨[(1, (I a1)), (2, (I a2)), (8, (I x1)), (9, (.pt 1027 0 4)), (11, (.sl true a0.f1.length 4 (a0.f1.flatMap e95))), (12, (I (a0.f1.length : Int))), (13, (I x1)), (27, (B ((at_ a0.f1 x1).f1 == a2)))], [(1027, [(I (at_ a0.f1 x1).f0), (I (at_ a0.f1 x1).f1), (I (at_ a0.f1 x1).f2), (I (at_ a0.f1 x1).f3)])], [4 = 4 ∧ 0 + 1 ≤ 4, (B ((at_ a0.f1 x1).f0 == a1) : V) = B true, 4 = 4 ∧ 1 + 1 ≤ 4], []⟩ [c_ 6757, c_ 3379, b_ 1, c_ 423, l_ 26, b_ 0, c_ 7] (alc ⟨rfl, by decide⟩ (alc (bT (qT c3)) (alc ⟨rfl, by decide⟩ aln))) nocal ?_
          by_cases c4 : (at_ a0.f1 x1).f1 = a2
          · rw [if_pos c4] at h
            refine .cond' (.tmp 27) true [c_ 27028, c_ 27029, c_ 3379, b_ 1, c_ 423, l_ 26, b_ 0, c_ 7] (bT (qT c4)) ?_
            refine .reg' [6, 7] [] ⟨[(6, (I x1)), (7, (I 0))], [(1027, [(I (at_ a0.f1 x1).f0), (I (at_ a0.f1 x1).f1), (I (at_ a0.f1 x1).f2), (I (at_ a0.f1 x1).f3)])], [], []⟩ [c_ 27029, c_ 3379, b_ 1, c_ 423, l_ 26, b_ 0, c_ 7] aln nocal ?_
            have h := Option.some.inj h
            subst h
            exact .fin0 [] (.tp [(I x1), (I 0)]) [] aln (cnv_tp (a2c (.z .s) (a2c (.z .s) a2n)))
          · rw [if_neg c4] at h
            refine .cond' (.tmp 27) false [c_ 6758, c_ 6759, b_ 1, c_ 423, l_ 26, b_ 0, c_ 7] (bF (qF c4)) ?_
            by_cases c5 : (at_ a0.f1 x1).f0 = a2
            · rw [if_pos c5] at h
              refine .reg' [1, 2, 8, 11, 12, 13, 38] [.no, .no, .no, .no, .v (B true)] ⟨[(1, (I a1)), (2, (I a2)), (8, (I x1)), (11, (.sl true a0.f1.length 4 (a0.f1.flatMap e95))), (12, (I (a0.f1.length : Int))), (13, (I x1)), (38, (B ((at_ a0.f1 x1).f1 == a1)))], [(1027, [(I (at_ a0.f1 x1).f0), (I (at_ a0.f1 x1).f1), (I (at_ a0.f1 x1).f2), (I (at_ a0.f1 x1).f3)])], [4 = 4 ∧ 0 + 1 ≤ 4, (B ((at_ a0.f1 x1).f0 == a2) : V) = B true, 4 = 4 ∧ 1 + 1 ≤ 4], []⟩ [c_ 6759, b_ 1, c_ 423, l_ 26, b_ 0, c_ 7] (alc ⟨rfl, by decide⟩ (alc (bT (qT c5)) (alc ⟨rfl, by decide⟩ aln))) nocal ?_
              by_cases c6 : (at_ a0.f1 x1).f1 = a1
              · rw [if_pos c6] at h
                refine .cond' (.tmp 38) true [c_ 27036, c_ 27037, b_ 1, c_ 423, l_ 26, b_ 0, c_ 7] (bT (qT c6)) ?_
                refine .reg' [6, 7] [] ⟨[(6, (I x1)), (7, (I 1))], [(1027, [(I (at_ a0.f1 x1).f0), (I (at_ a0.f1 x1).f1), (I (at_ a0.f1 x1).f2), (I (at_ a0.f1 x1).f3)])], [], []⟩ [c_ 27037, b_ 1, c_ 423, l_ 26, b_ 0, c_ 7] aln nocal ?_
                have h := Option.some.inj h
                subst h
                exact .fin0 [] (.tp [(I x1), (I 1)]) [] aln (cnv_tp (a2c (.z .s) (a2c (.z .s) a2n)))
              · rw [if_neg c6] at h
                refine .cond' (.tmp 38) false [c_ 423, l_ 26, b_ 0, c_ 7] (bF (qF c6)) ?_
                refine .reg' [1, 2, 11, 12, 13] [] ⟨[(1, (I a1)), (2, (I a2)), (11, (.sl true a0.f1.length 4 (a0.f1.flatMap e95))), (12, (I (a0.f1.length : Int))), (13, (I (wrap64 (x1 + 1))))], [(1027, [(I (at_ a0.f1 x1).f0), (I (at_ a0.f1 x1).f1), (I (at_ a0.f1 x1).f2), (I (at_ a0.f1 x1).f3)])], [], []⟩ [l_ 26, b_ 0, c_ 7] aln nocal ?_
                refine .wk' [] [] [(1, (I a1)), (2, (I a2)), (11, (.sl true a0.f1.length 4 (a0.f1.flatMap e95))), (12, (I (a0.f1.length : Int))), (13, (I (wrap64 (x1 + 1))))] [] shn (enc_ (.z .s) (enc_ (.z .s) (enc_ (.z (frz_sl e95_ok (fun h => h))) (enc_ (.z .s) (enc_ (.z .s) enn))))) ?_
                exact ih0 a0 a1 a2 (wrap64 (x1 + 1)) _ h
            · rw [if_neg c5] at h
              refine .reg' [1, 2, 8, 11, 12, 13, 38] [.no, .no, .no, .no, .v (B false)] ⟨[(1, (I a1)), (2, (I a2)), (8, (I x1)), (11, (.sl true a0.f1.length 4 (a0.f1.flatMap e95))), (12, (I (a0.f1.length : Int))), (13, (I x1)), (38, (B false))], [(1027, [(I (at_ a0.f1 x1).f0), (I (at_ a0.f1 x1).f1), (I (at_ a0.f1 x1).f2), (I (at_ a0.f1 x1).f3)])], [4 = 4 ∧ 0 + 1 ≤ 4, (B ((at_ a0.f1 x1).f0 == a2) : V) = B false], []⟩ [c_ 6759, b_ 1, c_ 423, l_ 26, b_ 0, c_ 7] (alc ⟨rfl, by decide⟩ (alc (bF (qF c5)) aln)) nocal ?_
              refine .cond' (.tmp 38) false [c_ 423, l_ 26, b_ 0, c_ 7] (rfl) ?_
              refine .reg' [1, 2, 11, 12, 13] [] ⟨[(1, (I a1)), (2, (I a2)), (11, (.sl true a0.f1.length 4 (a0.f1.flatMap e95))), (12, (I (a0.f1.length : Int))), (13, (I (wrap64 (x1 + 1))))], [(1027, [(I (at_ a0.f1 x1).f0), (I (at_ a0.f1 x1).f1), (I (at_ a0.f1 x1).f2), (I (at_ a0.f1 x1).f3)])], [], []⟩ [l_ 26, b_ 0, c_ 7] aln nocal ?_
              refine .wk' [] [] [(1, (I a1)), (2, (I a2)), (11, (.sl true a0.f1.length 4 (a0.f1.flatMap e95))), (12, (I (a0.f1.length : Int))), (13, (I (wrap64 (x1 + 1))))] [] shn (enc_ (.z .s) (enc_ (.z .s) (enc_ (.z (frz_sl e95_ok (fun h => h))) (enc_ (.z .s) (enc_ (.z .s) enn))))) ?_
              exact ih0 a0 a1 a2 (wrap64 (x1 + 1)) _ h
        · rw [if_neg c3] at h
          refine .reg' [1, 2, 8, 9, 11, 12, 13, 27] [.no, .no, .no, .no, .v (B false)] ⟨[(1, (I a1)), (2, (I a2)), (8, (I x1)), (9, (.pt 1027 0 4)), (11, (.sl true a0.f1.length 4 (a0.f1.flatMap e95))), (12, (I (a0.f1.length : Int))), (13, (I x1)), (27, (B false))], [(1027, [(I (at_ a0.f1 x1).f0), (I (at_ a0.f1 x1).f1), (I (at_ a0.f1 x1).f2), (I (at_ a0.f1 x1).f3)])], [4 = 4 ∧ 0 + 1 ≤ 4, (B ((at_ a0.f1 x1).f0 == a1) : V) = B false], []⟩ [c_ 6757, c_ 3379, b_ 1, c_ 423, l_ 26, b_ 0, c_ 7] (alc ⟨rfl, by decide⟩ (alc (bF (qF c3)) aln)) nocal ?_
          refine .cond' (.tmp 27) false [c_ 6758, c_ 6759, b_ 1, c_ 423, l_ 26, b_ 0, c_ 7] (rfl) ?_
          by_cases c7 : (at_ a0.f1 x1).f0 = a2
          · rw [if_pos c7] at h
            refine .reg' [1, 2, 8, 11, 12, 13, 38] [.no, .no, .no, .no, .v (B true)] ⟨[(1, (I a1)), (2, (I a2)), (8, (I x1)), (11, (.sl true a0.f1.length 4 (a0.f1.flatMap e95))), (12, (I (a0.f1.length : Int))), (13, (I x1)), (38, (B ((at_ a0.f1 x1).f1 == a1)))], [(1027, [(I (at_ a0.f1 x1).f0), (I (at_ a0.f1 x1).f1), (I (at_ a0.f1 x1).f2), (I (at_ a0.f1 x1).f3)])], [4 = 4 ∧ 0 + 1 ≤ 4, (B ((at_ a0.f1 x1).f0 == a2) : V) = B true, 4 = 4 ∧ 1 + 1 ≤ 4], []⟩ [c_ 6759, b_ 1, c_ 423, l_ 26, b_ 0, c_ 7] (alc ⟨rfl, by decide⟩ (alc (bT (qT c7)) (alc ⟨rfl, by decide⟩ aln))) nocal ?_
            by_cases c8 : (at_ a0.f1 x1).f1 = a1
            · rw [if_pos c8] at h
              refine .cond' (.tmp 38) true [c_ 27036, c_ 27037, b_ 1, c_ 423, l_ 26, b_ 0, c_ 7] (bT (qT c8)) ?_
              refine .reg' [6, 7] [] ⟨[(6, (I x1)), (7, (I 1))], [(1027, [(I (at_ a0.f1 x1).f0), (I (at_ a0.f1 x1).f1), (I (at_ a0.f1 x1).f2), (I (at_ a0.f1 x1).f3)])], [], []⟩ [c_ 27037, b_ 1, c_ 423, l_ 26, b_ 0, c_ 7] aln nocal ?_
              have h := Option.some.inj h
              subst h
              exact .fin0 [] (.tp [(I x1), (I 1)]) [] aln (cnv_tp (a2c (.z .s) (a2c (.z .s) a2n)))
            · rw [if_neg c8] at h
              refine .cond' (.tmp 38) false [c_ 423, l_ 26, b_ 0, c_ 7] (bF (qF c8)) ?_
              refine .reg' [1, 2, 11, 12, 13] [] ⟨[(1, (I a1)), (2, (I a2)), (11, (.sl true a0.f1.length 4 (a0.f1.flatMap e95))), (12, (I (a0.f1.length : Int))), (13, (I (wrap64 (x1 + 1))))], [(1027, [(I (at_ a0.f1 x1).f0), (I (at_ a0.f1 x1).f1), (I (at_ a0.f1 x1).f2), (I (at_ a0.f1 x1).f3)])], [], []⟩ [l_ 26, b_ 0, c_ 7] aln nocal ?_
              refine .wk' [] [] [(1, (I a1)), (2, (I a2)), (11, (.sl true a0.f1.length 4 (a0.f1.flatMap e95))), (12, (I (a0.f1.length : Int))), (13, (I (wrap64 (x1 + 1))))] [] shn (enc_ (.z .s) (enc_ (.z .s) (enc_ (.z (frz_sl e95_ok (fun h => h))) (enc_ (.z .s) (enc_ (.z .s) enn))))) ?_
              exact ih0 a0 a1 a2 (wrap64 (x1 + 1)) _ h
          · rw [if_neg c7] at h
            refine .reg' [1, 2, 8, 11, 12, 13, 38] [.no, .no, .no, .no, .v (B false)] ⟨[(1, (I a1)), (2, (I a2)), (8, (I x1)), (11, (.sl true a0.f1.length 4 (a0.f1.flatMap e95))), (12, (I (a0.f1.length : Int))), (13, (I x1)), (38, (B false))], [(1027, [(I (at_ a0.f1 x1).f0), (I (at_ a0.f1 x1).f1), (I (at_ a0.f1 x1).f2), (I (at_ a0.f1 x1).f3)])], [4 = 4 ∧ 0 + 1 ≤ 4, (B ((at_ a0.f1 x1).f0 == a2) : V) = B false], []⟩ [c_ 6759, b_ 1, c_ 423, l_ 26, b_ 0, c_ 7] (alc ⟨rfl, by decide⟩ (alc (bF (qF c7)) aln)) nocal ?_
            refine .cond' (.tmp 38) false [c_ 423, l_ 26, b_ 0, c_ 7] (rfl) ?_
            refine .reg' [1, 2, 11, 12, 13] [] ⟨[(1, (I a1)), (2, (I a2)), (11, (.sl true a0.f1.length 4 (a0.f1.flatMap e95))), (12, (I (a0.f1.length : Int))), (13, (I (wrap64 (x1 + 1))))], [(1027, [(I (at_ a0.f1 x1).f0), (I (at_ a0.f1 x1).f1), (I (at_ a0.f1 x1).f2), (I (at_ a0.f1 x1).f3)])], [], []⟩ [l_ 26, b_ 0, c_ 7] aln nocal ?_
            refine .wk' [] [] [(1, (I a1)), (2, (I a2)), (11, (.sl true a0.f1.length 4 (a0.f1.flatMap e95))), (12, (I (a0.f1.length : Int))), (13, (I (wrap64 (x1 + 1))))] [] shn (enc_ (.z .s) (enc_ (.z .s) (enc_ (.z (frz_sl e95_ok (fun h => h))) (enc_ (.z .s) (enc_ (.z .s) enn))))) ?_
            exact ih0 a0 a1 a2 (wrap64 (x1 + 1)) _ h
      · rw [if_neg c2] at h
        cases h
    · rw [if_neg c1] at h
      refine .cond' (.tmp 14) false [c_ 14, c_ 15] (bF (dF c1)) ?_
      refine .reg' [6, 7] [] ⟨[(6, (I (-1))), (7, (I 0))], [], [], []⟩ [c_ 15] aln nocal ?_
      have h := Option.some.inj h
      subst h
      exact .fin0 [] (.tp [(I (-1)), (I 0)]) [] aln (cnv_tp (a2c (.z .s) (a2c (.z .s) a2n)))
theorem impl_Net_joining.J (k : Nat) (a0 : S46) (a1 : Int) (a2 : Int) (r : (Int × Int)) (h : impl_Net_joining.f k a0 a1 a2 = some r) : J prog (.call 96 [(.ag [(I a0.f0), (.sl true a0.f1.length 4 (a0.f1.flatMap e95))]), (I a1), (I a2)] [] (.tp [(I r.1), (I r.2)]) []) := by
  unfold impl_Net_joining.f at h
  have ih0 := impl_Net_joining.lab k
  refine .call' [c_ 2, c_ 3] ?_
  refine .reg' [1, 2, 3] [] ⟨[(1, (I a1)), (2, (I a2)), (3, (.pt 256 0 2))], [(256, [(I a0.f0), (.sl true a0.f1.length 4 (a0.f1.flatMap e95))])], [], []⟩ [c_ 12, c_ 13, c_ 7] aln nocal ?_
  refine .reg' [1, 2, 11, 12, 13] [] ⟨[(1, (I a1)), (2, (I a2)), (11, (.sl true a0.f1.length 4 (a0.f1.flatMap e95))), (12, (I (a0.f1.length : Int))), (13, (I 0))], [(256, [(I a0.f0), (.sl true a0.f1.length 4 (a0.f1.flatMap e95))])], [2 = 2 ∧ 1 + 1 ≤ 2], []⟩ [l_ 26, b_ 0, c_ 7] (alc ⟨rfl, by decide⟩ aln) nocal ?_
  refine .wk' [] [] [(1, (I a1)), (2, (I a2)), (11, (.sl true a0.f1.length 4 (a0.f1.flatMap e95))), (12, (I (a0.f1.length : Int))), (13, (I 0))] [] shn (enc_ (.z .s) (enc_ (.z .s) (enc_ (.z (frz_sl e95_ok (fun h => h))) (enc_ (.z .s) (enc_ (.z .s) enn))))) ?_
  exact ih0 a0 a1 a2 0 _ h
/-! impl_Net_usesOf: function 78 -/
def impl_Net_usesOf.l0 : Nat → S46 → S66 → Int → (List S22) → Int → Option ((List S22) × Bool)
 | 0, _, _, _, _, _ => none
 | k + 1, a0, a1, a2, x1, x2 => (if x2 < (a1.f1.length : Int) then (if 0 ≤ (wrap64 (x2 - 1)) then (if (wrap64 (x2 - 1)) < (a1.f1.length : Int) then (if 0 ≤ x2 then ((impl_Net_joining.f k a0 ((at_ a1.f1 (wrap64 (x2 - 1))).f0) ((at_ a1.f1 x2).f0)).bind fun x3 => (if x3.1 < 0 then (some (([] : List S22), false)) else (if (x1.length + ([(⟨x3.1, x3.2, (at_ a1.f1 (wrap64 (x2 - 1))).f2, (at_ a1.f1 x2).f1, a2⟩ : S22)] : List S22).length) * 40 ≤ 70368744177664 then (impl_Net_usesOf.l0 k a0 a1 a2 (x1 ++ ([(⟨x3.1, x3.2, (at_ a1.f1 (wrap64 (x2 - 1))).f2, (at_ a1.f1 x2).f1, a2⟩ : S22)] : List S22)) (wrap64 (x2 + 1))) else none))) else none) else none) else none) else (some (x1, true)))
def impl_Net_usesOf.f (k : Nat) (a0 : S46) (a1 : S66) (a2 : Int) : Option ((List S22) × Bool) := (impl_Net_usesOf.l0 k a0 a1 a2 ([] : List S22) 1)
theorem impl_Net_usesOf.lab : ∀ k, (∀ (a0 : S46) (a1 : S66) (a2 : Int) (x1 : (List S22)) (x2 : Int) (r : ((List S22) × Bool)), impl_Net_usesOf.l0 k a0 a1 a2 x1 x2 = some r → J prog (.run 78 [] [l_ 58, b_ 0, c_ 15] [(2, (I a2)), (3, (.pt 256 0 2)), (4, (.pt 257 0 2)), (8, (.rf 512 0 x1.length 5 (x1.length * 5))), (9, (I x2))] [(256, [(I a0.f0), (.sl true a0.f1.length 4 (a0.f1.flatMap e95))]), (257, [(S a1.f0), (.sl true a1.f1.length 3 (a1.f1.flatMap e89))]), (512, (x1.flatMap e22))] (.tp [(.rf 512 0 r.1.length 5 (r.1.length * 5)), (B r.2)]) [(512, (r.1.flatMap e22))]))
 | 0 => (by intro a0 a1 a2 x1 x2 r h; unfold impl_Net_usesOf.l0 at h; cases h)
 | k + 1 => by
  have ih0 := impl_Net_usesOf.lab k
  · intro a0 a1 a2 x1 x2 r h
    unfold impl_Net_usesOf.l0 at h
    refine .loop' [c_ 464, c_ 465, c_ 233, l_ 58, b_ 0, c_ 15] ?_
    refine .reg' [2, 3, 4, 8, 9, 19] [] ⟨[(2, (I a2)), (3, (.pt 256 0 2)), (4, (.pt 257 0 2)), (8, (.rf 512 0 x1.length 5 (x1.length * 5))), (9, (I x2)), (19, (B (decide (x2 < (a1.f1.length : Int)))))], [(256, [(I a0.f0), (.sl true a0.f1.length 4 (a0.f1.flatMap e95))]), (257, [(S a1.f0), (.sl true a1.f1.length 3 (a1.f1.flatMap e89))]), (512, (x1.flatMap e22))], [2 = 2 ∧ 1 + 1 ≤ 2], []⟩ [c_ 465, c_ 233, l_ 58, b_ 0, c_ 15] (alc ⟨rfl, by decide⟩ aln) nocal ?_
    by_cases c1 : x2 < (a1.f1.length : Int)
    · rw [if_pos c1] at h
      refine .cond' (.tmp 19) true [c_ 1864, c_ 1865, b_ 1, c_ 467, l_ 58, b_ 0, c_ 15] (bT (dT c1)) ?_
      by_cases c2 : 0 ≤ (wrap64 (x2 - 1))
      · rw [if_pos c2] at h
        by_cases c3 : (wrap64 (x2 - 1)) < (a1.f1.length : Int)
        · rw [if_pos c3] at h
          by_cases c4 : 0 ≤ x2
          · rw [if_pos c4] at h
            refine .reg' [2, 3, 4, 8, 9, 10, 11] [.no, .no, .no, .no, .no, .v (.ag [(I (at_ a1.f1 (wrap64 (x2 - 1))).f0), (I (at_ a1.f1 (wrap64 (x2 - 1))).f1), (I (at_ a1.f1 (wrap64 (x2 - 1))).f2)]), .no, .no, .no, .no, .v (.ag [(I (at_ a1.f1 x2).f0), (I (at_ a1.f1 x2).f1), (I (at_ a1.f1 x2).f2)])] ⟨[(2, (I a2)), (3, (.pt 256 0 2)), (4, (.pt 257 0 2)), (8, (.rf 512 0 x1.length 5 (x1.length * 5))), (9, (I x2)), (10, (.pt 1547 0 3)), (11, (.pt 1548 0 3))], [(256, [(I a0.f0), (.sl true a0.f1.length 4 (a0.f1.flatMap e95))]), (257, [(S a1.f0), (.sl true a1.f1.length 3 (a1.f1.flatMap e89))]), (512, (x1.flatMap e22)), (1547, [(I (at_ a1.f1 (wrap64 (x2 - 1))).f0), (I (at_ a1.f1 (wrap64 (x2 - 1))).f1), (I (at_ a1.f1 (wrap64 (x2 - 1))).f2)]), (1548, [(I (at_ a1.f1 x2).f0), (I (at_ a1.f1 x2).f1), (I (at_ a1.f1 x2).f2)])], [2 = 2 ∧ 1 + 1 ≤ 2, (0 : Int) ≤ (wrap64 (x2 - 1)) ∧ (wrap64 (x2 - 1)) < (a1.f1.length : Int), rdC prog 90 ((a1.f1.flatMap e89).drop ((wrap64 (x2 - 1)).toNat * 3)) = (.ag [(I (at_ a1.f1 (wrap64 (x2 - 1))).f0), (I (at_ a1.f1 (wrap64 (x2 - 1))).f1), (I (at_ a1.f1 (wrap64 (x2 - 1))).f2)]), 3 ≤ ((a1.f1.flatMap e89).drop ((wrap64 (x2 - 1)).toNat * 3)).length, 2 = 2 ∧ 1 + 1 ≤ 2, (0 : Int) ≤ x2 ∧ x2 < (a1.f1.length : Int), rdC prog 90 ((a1.f1.flatMap e89).drop (x2.toNat * 3)) = (.ag [(I (at_ a1.f1 x2).f0), (I (at_ a1.f1 x2).f1), (I (at_ a1.f1 x2).f2)]), 3 ≤ ((a1.f1.flatMap e89).drop (x2.toNat * 3)).length, 3 = 3 ∧ 0 + 3 ≤ 3, 3 = 3 ∧ 0 + 3 ≤ 3], []⟩ [c_ 3730, c_ 3731, b_ 1, c_ 467, l_ 58, b_ 0, c_ 15] (alc ⟨rfl, by decide⟩ (alc ⟨c2, c3⟩ (alc (ldA e89_ok rfl rfl c2 c3) (alc (okI e89_ok c2 c3 (by decide)) (alc ⟨rfl, by decide⟩ (alc ⟨c4, c1⟩ (alc (ldA e89_ok rfl rfl c4 c1) (alc (okI e89_ok c4 c1 (by decide)) (alc ⟨rfl, by decide⟩ (alc ⟨rfl, by decide⟩ aln)))))))))) nocal ?_
            obtain ⟨x3, hx3, h⟩ := Option.bind_eq_some_iff.mp h
            refine .reg' [2, 3, 4, 8, 9, 10, 11, 12, 13] [.no, .no, .no, .no, .no, .c ⟨96, [(.ag [(I a0.f0), (.sl true a0.f1.length 4 (a0.f1.flatMap e95))]), (I (at_ a1.f1 (wrap64 (x2 - 1))).f0), (I (at_ a1.f1 x2).f0)], [], (.tp [(I x3.1), (I x3.2)]), [], [], [], [], (.tp [(I x3.1), (I x3.2)]), []⟩] ⟨[(2, (I a2)), (3, (.pt 256 0 2)), (4, (.pt 257 0 2)), (8, (.rf 512 0 x1.length 5 (x1.length * 5))), (9, (I x2)), (10, (.pt 1547 0 3)), (11, (.pt 1548 0 3)), (12, (I x3.1)), (13, (I x3.2))], [(256, [(I a0.f0), (.sl true a0.f1.length 4 (a0.f1.flatMap e95))]), (257, [(S a1.f0), (.sl true a1.f1.length 3 (a1.f1.flatMap e89))]), (512, (x1.flatMap e22)), (1547, [(I (at_ a1.f1 (wrap64 (x2 - 1))).f0), (I (at_ a1.f1 (wrap64 (x2 - 1))).f1), (I (at_ a1.f1 (wrap64 (x2 - 1))).f2)]), (1548, [(I (at_ a1.f1 x2).f0), (I (at_ a1.f1 x2).f1), (I (at_ a1.f1 x2).f2)])], [2 = 2 ∧ 0 + 2 ≤ 2, 3 = 3 ∧ 0 + 1 ≤ 3, 3 = 3 ∧ 0 + 1 ≤ 3, COK (hget [(256, [(I a0.f0), (.sl true a0.f1.length 4 (a0.f1.flatMap e95))]), (257, [(S a1.f0), (.sl true a1.f1.length 3 (a1.f1.flatMap e89))]), (512, (x1.flatMap e22)), (1547, [(I (at_ a1.f1 (wrap64 (x2 - 1))).f0), (I (at_ a1.f1 (wrap64 (x2 - 1))).f1), (I (at_ a1.f1 (wrap64 (x2 - 1))).f2)]), (1548, [(I (at_ a1.f1 x2).f0), (I (at_ a1.f1 x2).f1), (I (at_ a1.f1 x2).f2)])]) [(.ag [(I a0.f0), (.sl true a0.f1.length 4 (a0.f1.flatMap e95))]), (I (at_ a1.f1 (wrap64 (x2 - 1))).f0), (I (at_ a1.f1 x2).f0)] ⟨96, [(.ag [(I a0.f0), (.sl true a0.f1.length 4 (a0.f1.flatMap e95))]), (I (at_ a1.f1 (wrap64 (x2 - 1))).f0), (I (at_ a1.f1 x2).f0)], [], (.tp [(I x3.1), (I x3.2)]), [], [], [], [], (.tp [(I x3.1), (I x3.2)]), []⟩], [⟨96, [(.ag [(I a0.f0), (.sl true a0.f1.length 4 (a0.f1.flatMap e95))]), (I (at_ a1.f1 (wrap64 (x2 - 1))).f0), (I (at_ a1.f1 x2).f0)], [], (.tp [(I x3.1), (I x3.2)]), [], [], [], [], (.tp [(I x3.1), (I x3.2)]), []⟩]⟩ [c_ 14924, c_ 14925, c_ 7463, b_ 1, c_ 467, l_ 58, b_ 0, c_ 15] (alc ⟨rfl, by decide⟩ (alc ⟨rfl, by decide⟩ (alc ⟨rfl, by decide⟩ (alc (cok0 false (a2c (.z (frz_ag (a2c .s (a2c (frz_sl e95_ok (fun h => h)) a2n)))) (a2c (.z .s) (a2c (.z .s) a2n))) (bck_tp (a2c (.z .s) (a2c (.z .s) a2n))) (fun h => absurd h (by decide))) aln)))) (acal (impl_Net_joining.J k a0 ((at_ a1.f1 (wrap64 (x2 - 1))).f0) ((at_ a1.f1 x2).f0) _ hx3) nocal) ?_
            refine .reg' [2, 3, 4, 8, 9, 10, 11, 12, 13, 43] [] ⟨[(2, (I a2)), (3, (.pt 256 0 2)), (4, (.pt 257 0 2)), (8, (.rf 512 0 x1.length 5 (x1.length * 5))), (9, (I x2)), (10, (.pt 1547 0 3)), (11, (.pt 1548 0 3)), (12, (I x3.1)), (13, (I x3.2)), (43, (B (decide (x3.1 < 0))))], [(256, [(I a0.f0), (.sl true a0.f1.length 4 (a0.f1.flatMap e95))]), (257, [(S a1.f0), (.sl true a1.f1.length 3 (a1.f1.flatMap e89))]), (512, (x1.flatMap e22)), (1547, [(I (at_ a1.f1 (wrap64 (x2 - 1))).f0), (I (at_ a1.f1 (wrap64 (x2 - 1))).f1), (I (at_ a1.f1 (wrap64 (x2 - 1))).f2)]), (1548, [(I (at_ a1.f1 x2).f0), (I (at_ a1.f1 x2).f1), (I (at_ a1.f1 x2).f2)])], [], []⟩ [c_ 14925, c_ 7463, b_ 1, c_ 467, l_ 58, b_ 0, c_ 15] aln nocal ?_
            by_cases c5 : x3.1 < 0
            · rw [if_pos c5] at h
              refine .cond' (.tmp 43) true [c_ 59700, c_ 59701, c_ 7463, b_ 1, c_ 467, l_ 58, b_ 0, c_ 15] (bT (dT c5)) ?_
              refine .reg' [6, 7] [] ⟨[(6, nilS), (7, (B false))], [(256, [(I a0.f0), (.sl true a0.f1.length 4 (a0.f1.flatMap e95))]), (257, [(S a1.f0), (.sl true a1.f1.length 3 (a1.f1.flatMap e89))]), (512, (x1.flatMap e22)), (1547, [(I (at_ a1.f1 (wrap64 (x2 - 1))).f0), (I (at_ a1.f1 (wrap64 (x2 - 1))).f1), (I (at_ a1.f1 (wrap64 (x2 - 1))).f2)]), (1548, [(I (at_ a1.f1 x2).f0), (I (at_ a1.f1 x2).f1), (I (at_ a1.f1 x2).f2)])], [], []⟩ [c_ 59701, c_ 7463, b_ 1, c_ 467, l_ 58, b_ 0, c_ 15] aln nocal ?_
              have h := Option.some.inj h
              subst h
              refine .nl' 513 ?_
              exact .fin' [] [(513, 512)] (.tp [nilS, (B false)]) [] aln (shc 513 (rowF e22_ok _) shn) (cnv_tp (a2c (.nl (memP_mem (p := (513, 512)) rfl) rfl) (a2c (.z .s) a2n)))
            · rw [if_neg c5] at h
              refine .cond' (.tmp 43) false [c_ 7463, b_ 1, c_ 467, l_ 58, b_ 0, c_ 15] (bF (dF c5)) ?_
              by_cases c6 : (x1.length + ([(⟨x3.1, x3.2, (at_ a1.f1 (wrap64 (x2 - 1))).f2, (at_ a1.f1 x2).f1, a2⟩ : S22)] : List S22).length) * 40 ≤ 70368744177664
              · rw [if_pos c6] at h
                refine .reg' [2, 3, 4, 8, 9] [.no, .no, .no, .no, .no, .no, .no, .no, .no, .no, .w (.rf 512 0 ((x1 ++ ([(⟨x3.1, x3.2, (at_ a1.f1 (wrap64 (x2 - 1))).f2, (at_ a1.f1 x2).f1, a2⟩ : S22)] : List S22)).length) 5 ((x1 ++ ([(⟨x3.1, x3.2, (at_ a1.f1 (wrap64 (x2 - 1))).f2, (at_ a1.f1 x2).f1, a2⟩ : S22)] : List S22)).length * 5)) ((x1 ++ ([(⟨x3.1, x3.2, (at_ a1.f1 (wrap64 (x2 - 1))).f2, (at_ a1.f1 x2).f1, a2⟩ : S22)] : List S22)).flatMap e22)] ⟨[(2, (I a2)), (3, (.pt 256 0 2)), (4, (.pt 257 0 2)), (8, (.rf 512 0 ((x1 ++ ([(⟨x3.1, x3.2, (at_ a1.f1 (wrap64 (x2 - 1))).f2, (at_ a1.f1 x2).f1, a2⟩ : S22)] : List S22)).length) 5 ((x1 ++ ([(⟨x3.1, x3.2, (at_ a1.f1 (wrap64 (x2 - 1))).f2, (at_ a1.f1 x2).f1, a2⟩ : S22)] : List S22)).length * 5))), (9, (I x2))], [(256, [(I a0.f0), (.sl true a0.f1.length 4 (a0.f1.flatMap e95))]), (257, [(S a1.f0), (.sl true a1.f1.length 3 (a1.f1.flatMap e89))]), (512, ((x1 ++ ([(⟨x3.1, x3.2, (at_ a1.f1 (wrap64 (x2 - 1))).f2, (at_ a1.f1 x2).f1, a2⟩ : S22)] : List S22)).flatMap e22)), (1547, [(I (at_ a1.f1 (wrap64 (x2 - 1))).f0), (I (at_ a1.f1 (wrap64 (x2 - 1))).f1), (I (at_ a1.f1 (wrap64 (x2 - 1))).f2)]), (1548, [(I (at_ a1.f1 x2).f0), (I (at_ a1.f1 x2).f1), (I (at_ a1.f1 x2).f2)]), (2569, (([(⟨x3.1, x3.2, (at_ a1.f1 (wrap64 (x2 - 1))).f2, (at_ a1.f1 x2).f1, a2⟩ : S22)] : List S22).flatMap e22))], [3 = 3 ∧ 2 + 1 ≤ 3, 3 = 3 ∧ 1 + 1 ≤ 3, V.rf 512 0 (x1.length + ([(⟨x3.1, x3.2, (at_ a1.f1 (wrap64 (x2 - 1))).f2, (at_ a1.f1 x2).f1, a2⟩ : S22)] : List S22).length) 5 (x1.length * 5 + ([(⟨x3.1, x3.2, (at_ a1.f1 (wrap64 (x2 - 1))).f2, (at_ a1.f1 x2).f1, a2⟩ : S22)] : List S22).length * 5) = (.rf 512 0 ((x1 ++ ([(⟨x3.1, x3.2, (at_ a1.f1 (wrap64 (x2 - 1))).f2, (at_ a1.f1 x2).f1, a2⟩ : S22)] : List S22)).length) 5 ((x1 ++ ([(⟨x3.1, x3.2, (at_ a1.f1 (wrap64 (x2 - 1))).f2, (at_ a1.f1 x2).f1, a2⟩ : S22)] : List S22)).length * 5)), x1.flatMap e22 ++ (((([(⟨x3.1, x3.2, (at_ a1.f1 (wrap64 (x2 - 1))).f2, (at_ a1.f1 x2).f1, a2⟩ : S22)] : List S22).flatMap e22).drop 0).take (([(⟨x3.1, x3.2, (at_ a1.f1 (wrap64 (x2 - 1))).f2, (at_ a1.f1 x2).f1, a2⟩ : S22)] : List S22).length * 5)) = ((x1 ++ ([(⟨x3.1, x3.2, (at_ a1.f1 (wrap64 (x2 - 1))).f2, (at_ a1.f1 x2).f1, a2⟩ : S22)] : List S22)).flatMap e22), (([(⟨x3.1, x3.2, (at_ a1.f1 (wrap64 (x2 - 1))).f2, (at_ a1.f1 x2).f1, a2⟩ : S22)] : List S22).length * 5 = (([(⟨x3.1, x3.2, (at_ a1.f1 (wrap64 (x2 - 1))).f2, (at_ a1.f1 x2).f1, a2⟩ : S22)] : List S22).flatMap e22).length ∧ 0 + ([(⟨x3.1, x3.2, (at_ a1.f1 (wrap64 (x2 - 1))).f2, (at_ a1.f1 x2).f1, a2⟩ : S22)] : List S22).length * 5 ≤ (([(⟨x3.1, x3.2, (at_ a1.f1 (wrap64 (x2 - 1))).f2, (at_ a1.f1 x2).f1, a2⟩ : S22)] : List S22).flatMap e22).length) ∧ x1.length * 5 = (x1.flatMap e22).length ∧ x1.length * 5 = (x1.flatMap e22).length ∧ (x1.length + ([(⟨x3.1, x3.2, (at_ a1.f1 (wrap64 (x2 - 1))).f2, (at_ a1.f1 x2).f1, a2⟩ : S22)] : List S22).length) * 40 ≤ 70368744177664], []⟩ [c_ 467, l_ 58, b_ 0, c_ 15] (alc ⟨rfl, by decide⟩ (alc ⟨rfl, by decide⟩ (alc (apV rfl) (alc (apR e22_ok rfl) (alc (apO e22_ok rfl c6 rfl) aln))))) nocal ?_
                refine .reg' [2, 3, 4, 8, 9] [] ⟨[(2, (I a2)), (3, (.pt 256 0 2)), (4, (.pt 257 0 2)), (8, (.rf 512 0 ((x1 ++ ([(⟨x3.1, x3.2, (at_ a1.f1 (wrap64 (x2 - 1))).f2, (at_ a1.f1 x2).f1, a2⟩ : S22)] : List S22)).length) 5 ((x1 ++ ([(⟨x3.1, x3.2, (at_ a1.f1 (wrap64 (x2 - 1))).f2, (at_ a1.f1 x2).f1, a2⟩ : S22)] : List S22)).length * 5))), (9, (I (wrap64 (x2 + 1))))], [(256, [(I a0.f0), (.sl true a0.f1.length 4 (a0.f1.flatMap e95))]), (257, [(S a1.f0), (.sl true a1.f1.length 3 (a1.f1.flatMap e89))]), (512, ((x1 ++ ([(⟨x3.1, x3.2, (at_ a1.f1 (wrap64 (x2 - 1))).f2, (at_ a1.f1 x2).f1, a2⟩ : S22)] : List S22)).flatMap e22)), (1547, [(I (at_ a1.f1 (wrap64 (x2 - 1))).f0), (I (at_ a1.f1 (wrap64 (x2 - 1))).f1), (I (at_ a1.f1 (wrap64 (x2 - 1))).f2)]), (1548, [(I (at_ a1.f1 x2).f0), (I (at_ a1.f1 x2).f1), (I (at_ a1.f1 x2).f2)]), (2569, (([(⟨x3.1, x3.2, (at_ a1.f1 (wrap64 (x2 - 1))).f2, (at_ a1.f1 x2).f1, a2⟩ : S22)] : List S22).flatMap e22))], [], []⟩ [l_ 58, b_ 0, c_ 15] aln nocal ?_
                refine .wk' [] [(256, 256), (257, 257), (512, 512)] [(2, (I a2)), (3, (.pt 256 0 2)), (4, (.pt 257 0 2)), (8, (.rf 512 0 ((x1 ++ ([(⟨x3.1, x3.2, (at_ a1.f1 (wrap64 (x2 - 1))).f2, (at_ a1.f1 x2).f1, a2⟩ : S22)] : List S22)).length) 5 ((x1 ++ ([(⟨x3.1, x3.2, (at_ a1.f1 (wrap64 (x2 - 1))).f2, (at_ a1.f1 x2).f1, a2⟩ : S22)] : List S22)).length * 5))), (9, (I (wrap64 (x2 + 1))))] [(256, [(I a0.f0), (.sl true a0.f1.length 4 (a0.f1.flatMap e95))]), (257, [(S a1.f0), (.sl true a1.f1.length 3 (a1.f1.flatMap e89))]), (512, ((x1 ++ ([(⟨x3.1, x3.2, (at_ a1.f1 (wrap64 (x2 - 1))).f2, (at_ a1.f1 x2).f1, a2⟩ : S22)] : List S22)).flatMap e22))] (shc 256 (a2c (.z .s) (a2c (.z (frz_sl e95_ok (fun h => h))) a2n)) (shc 257 (a2c (.z .s) (a2c (.z (frz_sl e89_ok (fun h => h))) a2n)) (shc 512 (rowF e22_ok _) shn))) (enc_ (.z .s) (enc_ (.pt (memP_mem (p := (256, 256)) rfl)) (enc_ (.pt (memP_mem (p := (257, 257)) rfl)) (enc_ (.rf (memP_mem (p := (512, 512)) rfl)) (enc_ (.z .s) enn))))) ?_
                exact ih0 a0 a1 a2 (x1 ++ ([(⟨x3.1, x3.2, (at_ a1.f1 (wrap64 (x2 - 1))).f2, (at_ a1.f1 x2).f1, a2⟩ : S22)] : List S22)) (wrap64 (x2 + 1)) _ h
              · rw [if_neg c6] at h
                cases h
          · rw [if_neg c4] at h
            cases h
        · rw [if_neg c3] at h
          cases h
      · rw [if_neg c2] at h
        cases h
    · rw [if_neg c1] at h
      refine .cond' (.tmp 19) false [c_ 30, c_ 31] (bF (dF c1)) ?_
      refine .reg' [6, 7] [] ⟨[(6, (.rf 512 0 x1.length 5 (x1.length * 5))), (7, (B true))], [(256, [(I a0.f0), (.sl true a0.f1.length 4 (a0.f1.flatMap e95))]), (257, [(S a1.f0), (.sl true a1.f1.length 3 (a1.f1.flatMap e89))]), (512, (x1.flatMap e22))], [], []⟩ [c_ 31] aln nocal ?_
      have h := Option.some.inj h
      subst h
      exact .fin' [] [(512, 512)] (.tp [(.rf 512 0 x1.length 5 (x1.length * 5)), (B true)]) [] aln (shc 512 (rowF e22_ok _) shn) (cnv_tp (a2c (.rf (memP_mem (p := (512, 512)) rfl)) (a2c (.z .s) a2n)))
theorem impl_Net_usesOf.J (k : Nat) (a0 : S46) (a1 : S66) (a2 : Int) (r : ((List S22) × Bool)) (h : impl_Net_usesOf.f k a0 a1 a2 = some r) : J prog (.call 78 [(.ag [(I a0.f0), (.sl true a0.f1.length 4 (a0.f1.flatMap e95))]), (.ag [(S a1.f0), (.sl true a1.f1.length 3 (a1.f1.flatMap e89))]), (I a2)] [] (.tp [(.rf 512 0 r.1.length 5 (r.1.length * 5)), (B r.2)]) [(512, (r.1.flatMap e22))]) := by
  unfold impl_Net_usesOf.f at h
  have ih0 := impl_Net_usesOf.lab k
  refine .call' [c_ 2, c_ 3] ?_
  refine .reg' [2, 3, 4] [] ⟨[(2, (I a2)), (3, (.pt 256 0 2)), (4, (.pt 257 0 2))], [(256, [(I a0.f0), (.sl true a0.f1.length 4 (a0.f1.flatMap e95))]), (257, [(S a1.f0), (.sl true a1.f1.length 3 (a1.f1.flatMap e89))])], [], []⟩ [c_ 6, c_ 7] aln nocal ?_
  refine .reg' [2, 3, 4, 8] [] ⟨[(2, (I a2)), (3, (.pt 256 0 2)), (4, (.pt 257 0 2)), (8, (.rf 512 0 (([] : List S22).length) 5 (([] : List S22).length * 5)))], [(256, [(I a0.f0), (.sl true a0.f1.length 4 (a0.f1.flatMap e95))]), (257, [(S a1.f0), (.sl true a1.f1.length 3 (a1.f1.flatMap e89))]), (512, (([] : List S22).flatMap e22))], [], []⟩ [c_ 28, c_ 29, c_ 15] aln nocal ?_
  refine .reg' [2, 3, 4, 8, 9] [] ⟨[(2, (I a2)), (3, (.pt 256 0 2)), (4, (.pt 257 0 2)), (8, (.rf 512 0 (([] : List S22).length) 5 (([] : List S22).length * 5))), (9, (I 1))], [(256, [(I a0.f0), (.sl true a0.f1.length 4 (a0.f1.flatMap e95))]), (257, [(S a1.f0), (.sl true a1.f1.length 3 (a1.f1.flatMap e89))]), (512, (([] : List S22).flatMap e22))], [], []⟩ [l_ 58, b_ 0, c_ 15] aln nocal ?_
  exact ih0 a0 a1 a2 ([] : List S22) 1 _ h
/-! impl_usesOfAll: function 66 -/
def impl_usesOfAll.l0 : Nat → S46 → (List S66) → (List S22) → Int → Option ((List S22) × Bool)
 | 0, _, _, _, _ => none
 | k + 1, a0, a1, x3, x4 => (if x4 < (a1.length : Int) then (if 0 ≤ x4 then ((impl_Net_usesOf.f k a0 (at_ a1 x4) x4).bind fun x5 => (if x5.2 = true then (if (x3.length + x5.1.length) * 40 ≤ 70368744177664 then (impl_usesOfAll.l0 k a0 a1 (x3 ++ x5.1) (wrap64 (x4 + 1))) else none) else (some (([] : List S22), false)))) else none) else (some (x3, true)))
def impl_usesOfAll.f (k : Nat) (a0 : S46) (a1 : (List S66)) : Option ((List S22) × Bool) := ((impl_NetOk.f k a0).bind fun x1 => (if x1 = true then ((impl_TableOk.f k a1).bind fun x2 => (if x2 = true then (impl_usesOfAll.l0 k a0 a1 ([] : List S22) 0) else (some (([] : List S22), false)))) else (some (([] : List S22), false))))
theorem impl_usesOfAll.lab : ∀ k, (∀ (a0 : S46) (a1 : (List S66)) (x3 : (List S22)) (x4 : Int) (r : ((List S22) × Bool)), impl_usesOfAll.l0 k a0 a1 x3 x4 = some r → J prog (.run 66 [] [l_ 122, b_ 0, c_ 31] [(2, (.pt 256 0 2)), (6, (.rf 1024 0 x3.length 5 (x3.length * 5))), (20, (.sl true a1.length 2 (a1.flatMap (e66 true)))), (21, (I (a1.length : Int))), (22, (I x4))] [(256, [(I a0.f0), (.sl true a0.f1.length 4 (a0.f1.flatMap e95))]), (1024, (x3.flatMap e22))] (.tp [(.rf 1024 0 r.1.length 5 (r.1.length * 5)), (B r.2)]) [(1024, (r.1.flatMap e22))]))
 | 0 => (by intro a0 a1 x3 x4 r h; unfold impl_usesOfAll.l0 at h; cases h)
 | k + 1 => by
  have ih0 := impl_usesOfAll.lab k
  · intro a0 a1 x3 x4 r h
    unfold impl_usesOfAll.l0 at h
    refine .loop' [c_ 488, c_ 489, l_ 122, b_ 0, c_ 31] ?_
    refine .reg' [2, 6, 20, 21, 22, 23] [] ⟨[(2, (.pt 256 0 2)), (6, (.rf 1024 0 x3.length 5 (x3.length * 5))), (20, (.sl true a1.length 2 (a1.flatMap (e66 true)))), (21, (I (a1.length : Int))), (22, (I x4)), (23, (B (decide (x4 < (a1.length : Int)))))], [(256, [(I a0.f0), (.sl true a0.f1.length 4 (a0.f1.flatMap e95))]), (1024, (x3.flatMap e22))], [], []⟩ [c_ 978, c_ 979, l_ 122, b_ 0, c_ 31] aln nocal ?_
    by_cases c3 : x4 < (a1.length : Int)
    · rw [if_pos c3] at h
      refine .cond' (.tmp 23) true [c_ 7832, c_ 7833, b_ 1, c_ 1959, l_ 122, b_ 0, c_ 31] (bT (dT c3)) ?_
      by_cases c4 : 0 ≤ x4
      · rw [if_pos c4] at h
        refine .reg' [2, 6, 7, 8, 20, 21, 22] [.no, .no, .v (.ag [(S (at_ a1 x4).f0), (.sl true (at_ a1 x4).f1.length 3 ((at_ a1 x4).f1.flatMap e89))])] ⟨[(2, (.pt 256 0 2)), (6, (.rf 1024 0 x3.length 5 (x3.length * 5))), (7, (I x4)), (8, (.pt 1795 0 2)), (20, (.sl true a1.length 2 (a1.flatMap (e66 true)))), (21, (I (a1.length : Int))), (22, (I x4))], [(256, [(I a0.f0), (.sl true a0.f1.length 4 (a0.f1.flatMap e95))]), (1024, (x3.flatMap e22)), (1795, [(S (at_ a1 x4).f0), (.sl true (at_ a1 x4).f1.length 3 ((at_ a1 x4).f1.flatMap e89))])], [(0 : Int) ≤ x4 ∧ x4 < (a1.length : Int), rdC prog 67 ((a1.flatMap (e66 true)).drop (x4.toNat * 2)) = (.ag [(S (at_ a1 x4).f0), (.sl true (at_ a1 x4).f1.length 3 ((at_ a1 x4).f1.flatMap e89))]), 2 ≤ ((a1.flatMap (e66 true)).drop (x4.toNat * 2)).length, 2 = 2 ∧ 0 + 2 ≤ 2], []⟩ [c_ 15666, c_ 15667, b_ 1, c_ 1959, l_ 122, b_ 0, c_ 31] (alc ⟨c4, c3⟩ (alc (ldA (e66_ok true) rfl rfl c4 c3) (alc (okI (e66_ok true) c4 c3 (by decide)) (alc ⟨rfl, by decide⟩ aln)))) nocal ?_
        obtain ⟨x5, hx5, h⟩ := Option.bind_eq_some_iff.mp h
        refine .reg' [2, 6, 9, 10, 20, 21, 22] [.no, .no, .no, .c ⟨78, [(.ag [(I a0.f0), (.sl true a0.f1.length 4 (a0.f1.flatMap e95))]), (.ag [(S (at_ a1 x4).f0), (.sl true (at_ a1 x4).f1.length 3 ((at_ a1 x4).f1.flatMap e89))]), (I x4)], [], (.tp [(.rf 512 0 x5.1.length 5 (x5.1.length * 5)), (B x5.2)]), [(512, (x5.1.flatMap e22))], [], [], [(1002051, 512)], (.tp [(.rf 1002051 0 x5.1.length 5 (x5.1.length * 5)), (B x5.2)]), [(1002051, (x5.1.flatMap e22))]⟩] ⟨[(2, (.pt 256 0 2)), (6, (.rf 1024 0 x3.length 5 (x3.length * 5))), (9, (.rf 1002051 0 x5.1.length 5 (x5.1.length * 5))), (10, (B x5.2)), (20, (.sl true a1.length 2 (a1.flatMap (e66 true)))), (21, (I (a1.length : Int))), (22, (I x4))], [(256, [(I a0.f0), (.sl true a0.f1.length 4 (a0.f1.flatMap e95))]), (1024, (x3.flatMap e22)), (1795, [(S (at_ a1 x4).f0), (.sl true (at_ a1 x4).f1.length 3 ((at_ a1 x4).f1.flatMap e89))]), (1002051, (x5.1.flatMap e22))], [2 = 2 ∧ 0 + 2 ≤ 2, 2 = 2 ∧ 0 + 2 ≤ 2, COK (hget [(256, [(I a0.f0), (.sl true a0.f1.length 4 (a0.f1.flatMap e95))]), (1024, (x3.flatMap e22)), (1795, [(S (at_ a1 x4).f0), (.sl true (at_ a1 x4).f1.length 3 ((at_ a1 x4).f1.flatMap e89))])]) [(.ag [(I a0.f0), (.sl true a0.f1.length 4 (a0.f1.flatMap e95))]), (.ag [(S (at_ a1 x4).f0), (.sl true (at_ a1 x4).f1.length 3 ((at_ a1 x4).f1.flatMap e89))]), (I x4)] ⟨78, [(.ag [(I a0.f0), (.sl true a0.f1.length 4 (a0.f1.flatMap e95))]), (.ag [(S (at_ a1 x4).f0), (.sl true (at_ a1 x4).f1.length 3 ((at_ a1 x4).f1.flatMap e89))]), (I x4)], [], (.tp [(.rf 512 0 x5.1.length 5 (x5.1.length * 5)), (B x5.2)]), [(512, (x5.1.flatMap e22))], [], [], [(1002051, 512)], (.tp [(.rf 1002051 0 x5.1.length 5 (x5.1.length * 5)), (B x5.2)]), [(1002051, (x5.1.flatMap e22))]⟩], [⟨78, [(.ag [(I a0.f0), (.sl true a0.f1.length 4 (a0.f1.flatMap e95))]), (.ag [(S (at_ a1 x4).f0), (.sl true (at_ a1 x4).f1.length 3 ((at_ a1 x4).f1.flatMap e89))]), (I x4)], [], (.tp [(.rf 512 0 x5.1.length 5 (x5.1.length * 5)), (B x5.2)]), [(512, (x5.1.flatMap e22))], [], [], [(1002051, 512)], (.tp [(.rf 1002051 0 x5.1.length 5 (x5.1.length * 5)), (B x5.2)]), [(1002051, (x5.1.flatMap e22))]⟩]⟩ [c_ 62668, c_ 62669, c_ 31335, b_ 1, c_ 1959, l_ 122, b_ 0, c_ 31] (alc ⟨rfl, by decide⟩ (alc ⟨rfl, by decide⟩ (alc (cokW false (a2c (.z (frz_ag (a2c .s (a2c (frz_sl e95_ok (fun h => h)) a2n)))) (a2c (.z (frz_ag (a2c .s (a2c (frz_sl e89_ok (fun h => h)) a2n)))) (a2c (.z .s) a2n))) akn (akc (.inr rfl) akn) (bck_tp (a2c (.rf (memP_mem (p := (1002051, 512)) rfl)) (a2c (.z .s) a2n))) (akc ⟨_, _, rfl, rfl, rowB e22_c _⟩ akn) (fun h => absurd h (by decide))) aln))) (acal (impl_Net_usesOf.J k a0 (at_ a1 x4) x4 _ hx5) nocal) ?_
        refine .reg' [2, 6, 9, 20, 21, 22, 35] [] ⟨[(2, (.pt 256 0 2)), (6, (.rf 1024 0 x3.length 5 (x3.length * 5))), (9, (.rf 1002051 0 x5.1.length 5 (x5.1.length * 5))), (20, (.sl true a1.length 2 (a1.flatMap (e66 true)))), (21, (I (a1.length : Int))), (22, (I x4)), (35, (B (!x5.2)))], [(256, [(I a0.f0), (.sl true a0.f1.length 4 (a0.f1.flatMap e95))]), (1024, (x3.flatMap e22)), (1795, [(S (at_ a1 x4).f0), (.sl true (at_ a1 x4).f1.length 3 ((at_ a1 x4).f1.flatMap e89))]), (1002051, (x5.1.flatMap e22))], [], []⟩ [c_ 62669, c_ 31335, b_ 1, c_ 1959, l_ 122, b_ 0, c_ 31] aln nocal ?_
        by_cases c5 : x5.2 = true
        · rw [if_pos c5] at h
          refine .cond' (.tmp 35) false [c_ 31335, b_ 1, c_ 1959, l_ 122, b_ 0, c_ 31] (bF (nF c5)) ?_
          by_cases c6 : (x3.length + x5.1.length) * 40 ≤ 70368744177664
          · rw [if_pos c6] at h
            refine .reg' [2, 6, 20, 21, 22] [.no, .no, .w (.rf 1024 0 ((x3 ++ x5.1).length) 5 ((x3 ++ x5.1).length * 5)) ((x3 ++ x5.1).flatMap e22)] ⟨[(2, (.pt 256 0 2)), (6, (.rf 1024 0 ((x3 ++ x5.1).length) 5 ((x3 ++ x5.1).length * 5))), (20, (.sl true a1.length 2 (a1.flatMap (e66 true)))), (21, (I (a1.length : Int))), (22, (I x4))], [(256, [(I a0.f0), (.sl true a0.f1.length 4 (a0.f1.flatMap e95))]), (1024, ((x3 ++ x5.1).flatMap e22)), (1795, [(S (at_ a1 x4).f0), (.sl true (at_ a1 x4).f1.length 3 ((at_ a1 x4).f1.flatMap e89))]), (1002051, (x5.1.flatMap e22))], [V.rf 1024 0 (x3.length + x5.1.length) 5 (x3.length * 5 + x5.1.length * 5) = (.rf 1024 0 ((x3 ++ x5.1).length) 5 ((x3 ++ x5.1).length * 5)), x3.flatMap e22 ++ (((x5.1.flatMap e22).drop 0).take (x5.1.length * 5)) = ((x3 ++ x5.1).flatMap e22), (x5.1.length * 5 = (x5.1.flatMap e22).length ∧ 0 + x5.1.length * 5 ≤ (x5.1.flatMap e22).length) ∧ x3.length * 5 = (x3.flatMap e22).length ∧ x3.length * 5 = (x3.flatMap e22).length ∧ (x3.length + x5.1.length) * 40 ≤ 70368744177664], []⟩ [c_ 1959, l_ 122, b_ 0, c_ 31] (alc (apV rfl) (alc (apR e22_ok rfl) (alc (apO e22_ok rfl c6 rfl) aln))) nocal ?_
            refine .reg' [2, 6, 20, 21, 22] [] ⟨[(2, (.pt 256 0 2)), (6, (.rf 1024 0 ((x3 ++ x5.1).length) 5 ((x3 ++ x5.1).length * 5))), (20, (.sl true a1.length 2 (a1.flatMap (e66 true)))), (21, (I (a1.length : Int))), (22, (I (wrap64 (x4 + 1))))], [(256, [(I a0.f0), (.sl true a0.f1.length 4 (a0.f1.flatMap e95))]), (1024, ((x3 ++ x5.1).flatMap e22)), (1795, [(S (at_ a1 x4).f0), (.sl true (at_ a1 x4).f1.length 3 ((at_ a1 x4).f1.flatMap e89))]), (1002051, (x5.1.flatMap e22))], [], []⟩ [l_ 122, b_ 0, c_ 31] aln nocal ?_
            refine .wk' [] [(256, 256), (1024, 1024)] [(2, (.pt 256 0 2)), (6, (.rf 1024 0 ((x3 ++ x5.1).length) 5 ((x3 ++ x5.1).length * 5))), (20, (.sl true a1.length 2 (a1.flatMap (e66 true)))), (21, (I (a1.length : Int))), (22, (I (wrap64 (x4 + 1))))] [(256, [(I a0.f0), (.sl true a0.f1.length 4 (a0.f1.flatMap e95))]), (1024, ((x3 ++ x5.1).flatMap e22))] (shc 256 (a2c (.z .s) (a2c (.z (frz_sl e95_ok (fun h => h))) a2n)) (shc 1024 (rowF e22_ok _) shn)) (enc_ (.pt (memP_mem (p := (256, 256)) rfl)) (enc_ (.rf (memP_mem (p := (1024, 1024)) rfl)) (enc_ (.z (frz_sl (e66_ok true) (fun h => h))) (enc_ (.z .s) (enc_ (.z .s) enn))))) ?_
            exact ih0 a0 a1 (x3 ++ x5.1) (wrap64 (x4 + 1)) _ h
          · rw [if_neg c6] at h
            cases h
        · rw [if_neg c5] at h
          refine .cond' (.tmp 35) true [c_ 250676, c_ 250677, c_ 31335, b_ 1, c_ 1959, l_ 122, b_ 0, c_ 31] (bT (nT (vF c5))) ?_
          refine .reg' [4, 5] [] ⟨[(4, nilS), (5, (B false))], [(256, [(I a0.f0), (.sl true a0.f1.length 4 (a0.f1.flatMap e95))]), (1024, (x3.flatMap e22)), (1795, [(S (at_ a1 x4).f0), (.sl true (at_ a1 x4).f1.length 3 ((at_ a1 x4).f1.flatMap e89))]), (1002051, (x5.1.flatMap e22))], [], []⟩ [c_ 250677, c_ 31335, b_ 1, c_ 1959, l_ 122, b_ 0, c_ 31] aln nocal ?_
          have h := Option.some.inj h
          subst h
          refine .nl' 1025 ?_
          exact .fin' [] [(1025, 1024)] (.tp [nilS, (B false)]) [] aln (shc 1025 (rowF e22_ok _) shn) (cnv_tp (a2c (.nl (memP_mem (p := (1025, 1024)) rfl) rfl) (a2c (.z .s) a2n)))
      · rw [if_neg c4] at h
        cases h
    · rw [if_neg c3] at h
      refine .cond' (.tmp 23) false [c_ 62, c_ 63] (bF (dF c3)) ?_
      refine .reg' [4, 5] [] ⟨[(4, (.rf 1024 0 x3.length 5 (x3.length * 5))), (5, (B true))], [(256, [(I a0.f0), (.sl true a0.f1.length 4 (a0.f1.flatMap e95))]), (1024, (x3.flatMap e22))], [], []⟩ [c_ 63] aln nocal ?_
      have h := Option.some.inj h
      subst h
      exact .fin' [] [(1024, 1024)] (.tp [(.rf 1024 0 x3.length 5 (x3.length * 5)), (B true)]) [] aln (shc 1024 (rowF e22_ok _) shn) (cnv_tp (a2c (.rf (memP_mem (p := (1024, 1024)) rfl)) (a2c (.z .s) a2n)))
theorem impl_usesOfAll.J (k : Nat) (a0 : S46) (a1 : (List S66)) (r : ((List S22) × Bool)) (h : impl_usesOfAll.f k a0 a1 = some r) : J prog (.call 66 [(.ag [(I a0.f0), (.sl true a0.f1.length 4 (a0.f1.flatMap e95))]), (.sl true a1.length 2 (a1.flatMap (e66 true)))] [] (.tp [(.rf 1024 0 r.1.length 5 (r.1.length * 5)), (B r.2)]) [(1024, (r.1.flatMap e22))]) := by
  unfold impl_usesOfAll.f at h
  have ih0 := impl_usesOfAll.lab k
  refine .call' [c_ 2, c_ 3] ?_
  refine .reg' [1, 2] [] ⟨[(1, (.sl true a1.length 2 (a1.flatMap (e66 true)))), (2, (.pt 256 0 2))], [(256, [(I a0.f0), (.sl true a0.f1.length 4 (a0.f1.flatMap e95))])], [], []⟩ [c_ 12, c_ 13, c_ 7] aln nocal ?_
  obtain ⟨x1, hx1, h⟩ := Option.bind_eq_some_iff.mp h
  by_cases c1 : x1 = true
  · rw [if_pos c1] at h
    obtain ⟨x2, hx2, h⟩ := Option.bind_eq_some_iff.mp h
    refine .reg' [1, 2, 18] [.no, .c ⟨87, [(.ag [(I a0.f0), (.sl true a0.f1.length 4 (a0.f1.flatMap e95))])], [], (B x1), [], [], [], [], (B x1), []⟩, .no, .v (B false), .no, .c ⟨88, [(.sl true a1.length 2 (a1.flatMap (e66 true)))], [], (B x2), [], [], [], [], (B x2), []⟩] ⟨[(1, (.sl true a1.length 2 (a1.flatMap (e66 true)))), (2, (.pt 256 0 2)), (18, (B (!x2)))], [(256, [(I a0.f0), (.sl true a0.f1.length 4 (a0.f1.flatMap e95))])], [2 = 2 ∧ 0 + 2 ≤ 2, COK (hget [(256, [(I a0.f0), (.sl true a0.f1.length 4 (a0.f1.flatMap e95))])]) [(.ag [(I a0.f0), (.sl true a0.f1.length 4 (a0.f1.flatMap e95))])] ⟨87, [(.ag [(I a0.f0), (.sl true a0.f1.length 4 (a0.f1.flatMap e95))])], [], (B x1), [], [], [], [], (B x1), []⟩, (B (!x1) : V) = B false, COK (hget [(256, [(I a0.f0), (.sl true a0.f1.length 4 (a0.f1.flatMap e95))])]) [(.sl true a1.length 2 (a1.flatMap (e66 true)))] ⟨88, [(.sl true a1.length 2 (a1.flatMap (e66 true)))], [], (B x2), [], [], [], [], (B x2), []⟩], [⟨87, [(.ag [(I a0.f0), (.sl true a0.f1.length 4 (a0.f1.flatMap e95))])], [], (B x1), [], [], [], [], (B x1), []⟩, ⟨88, [(.sl true a1.length 2 (a1.flatMap (e66 true)))], [], (B x2), [], [], [], [], (B x2), []⟩]⟩ [c_ 13, c_ 7] (alc ⟨rfl, by decide⟩ (alc (cok0 false (a2c (.z (frz_ag (a2c .s (a2c (frz_sl e95_ok (fun h => h)) a2n)))) a2n) (.z .s) (fun h => absurd h (by decide))) (alc (bF (nF c1)) (alc (cok0 false (a2c (.z (frz_sl (e66_ok true) (fun h => h))) a2n) (.z .s) (fun h => absurd h (by decide))) aln)))) (acal (impl_NetOk.J k a0 _ hx1) (acal (impl_TableOk.J k a1 _ hx2) nocal)) ?_
    by_cases c2 : x2 = true
    · rw [if_pos c2] at h
      refine .cond' (.tmp 18) false [c_ 14, c_ 15] (bF (nF c2)) ?_
      refine .reg' [1, 2, 6] [] ⟨[(1, (.sl true a1.length 2 (a1.flatMap (e66 true)))), (2, (.pt 256 0 2)), (6, (.rf 1024 0 (([] : List S22).length) 5 (([] : List S22).length * 5)))], [(256, [(I a0.f0), (.sl true a0.f1.length 4 (a0.f1.flatMap e95))]), (1024, (([] : List S22).flatMap e22))], [], []⟩ [c_ 60, c_ 61, c_ 31] aln nocal ?_
      refine .reg' [2, 6, 20, 21, 22] [] ⟨[(2, (.pt 256 0 2)), (6, (.rf 1024 0 (([] : List S22).length) 5 (([] : List S22).length * 5))), (20, (.sl true a1.length 2 (a1.flatMap (e66 true)))), (21, (I (a1.length : Int))), (22, (I 0))], [(256, [(I a0.f0), (.sl true a0.f1.length 4 (a0.f1.flatMap e95))]), (1024, (([] : List S22).flatMap e22))], [], []⟩ [l_ 122, b_ 0, c_ 31] aln nocal ?_
      exact ih0 a0 a1 ([] : List S22) 0 _ h
    · rw [if_neg c2] at h
      refine .cond' (.tmp 18) true [c_ 52, c_ 53, c_ 7] (bT (nT (vF c2))) ?_
      refine .reg' [4, 5] [] ⟨[(4, nilS), (5, (B false))], [(256, [(I a0.f0), (.sl true a0.f1.length 4 (a0.f1.flatMap e95))])], [], []⟩ [c_ 53, c_ 7] aln nocal ?_
      have h := Option.some.inj h
      subst h
      refine .nl' 1024 ?_
      exact .fin' [] [(1024, 1024)] (.tp [nilS, (B false)]) [] aln (shc 1024 (rowF e22_ok _) shn) (cnv_tp (a2c (.nl (memP_mem (p := (1024, 1024)) rfl) rfl) (a2c (.z .s) a2n)))
  · rw [if_neg c1] at h
    refine .reg' [1, 2, 18] [.no, .c ⟨87, [(.ag [(I a0.f0), (.sl true a0.f1.length 4 (a0.f1.flatMap e95))])], [], (B x1), [], [], [], [], (B x1), []⟩, .no, .v (B true)] ⟨[(1, (.sl true a1.length 2 (a1.flatMap (e66 true)))), (2, (.pt 256 0 2)), (18, (B true))], [(256, [(I a0.f0), (.sl true a0.f1.length 4 (a0.f1.flatMap e95))])], [2 = 2 ∧ 0 + 2 ≤ 2, COK (hget [(256, [(I a0.f0), (.sl true a0.f1.length 4 (a0.f1.flatMap e95))])]) [(.ag [(I a0.f0), (.sl true a0.f1.length 4 (a0.f1.flatMap e95))])] ⟨87, [(.ag [(I a0.f0), (.sl true a0.f1.length 4 (a0.f1.flatMap e95))])], [], (B x1), [], [], [], [], (B x1), []⟩, (B (!x1) : V) = B true], [⟨87, [(.ag [(I a0.f0), (.sl true a0.f1.length 4 (a0.f1.flatMap e95))])], [], (B x1), [], [], [], [], (B x1), []⟩]⟩ [c_ 13, c_ 7] (alc ⟨rfl, by decide⟩ (alc (cok0 false (a2c (.z (frz_ag (a2c .s (a2c (frz_sl e95_ok (fun h => h)) a2n)))) a2n) (.z .s) (fun h => absurd h (by decide))) (alc (bT (nT (vF c1))) aln))) (acal (impl_NetOk.J k a0 _ hx1) nocal) ?_
    refine .cond' (.tmp 18) true [c_ 52, c_ 53, c_ 7] (rfl) ?_
    refine .reg' [4, 5] [] ⟨[(4, nilS), (5, (B false))], [(256, [(I a0.f0), (.sl true a0.f1.length 4 (a0.f1.flatMap e95))])], [], []⟩ [c_ 53, c_ 7] aln nocal ?_
    have h := Option.some.inj h
    subst h
    refine .nl' 1024 ?_
    exact .fin' [] [(1024, 1024)] (.tp [nilS, (B false)]) [] aln (shc 1024 (rowF e22_ok _) shn) (cnv_tp (a2c (.nl (memP_mem (p := (1024, 1024)) rfl) rfl) (a2c (.z .s) a2n)))
/-! impl_UseOk: function 15 -/
def impl_UseOk.f (a0 : S22) : Option Bool := ((impl_between.f a0.f0 0 59).bind fun x1 => (if x1 = true then ((impl_between.f a0.f1 0 1).bind fun x2 => (if x2 = true then (if 0 ≤ a0.f2 then (if a0.f2 < a0.f3 then (if a0.f3 ≤ 100000 then ((impl_between.f a0.f4 0 23).bind fun x3 => (some x3)) else (some false)) else (some false)) else (some false)) else (some false))) else (some false)))
theorem impl_UseOk.J (a0 : S22) (r : Bool) (h : impl_UseOk.f a0 = some r) : J prog (.call 15 [(.ag [(I a0.f0), (I a0.f1), (I a0.f2), (I a0.f3), (I a0.f4)])] [] (B r) []) := by
  unfold impl_UseOk.f at h
  refine .call' [c_ 2, c_ 3] ?_
  refine .reg' [1] [] ⟨[(1, (.pt 256 0 5))], [(256, [(I a0.f0), (I a0.f1), (I a0.f2), (I a0.f3), (I a0.f4)])], [], []⟩ [c_ 6, c_ 7] aln nocal ?_
  obtain ⟨x1, hx1, h⟩ := Option.bind_eq_some_iff.mp h
  by_cases c1 : x1 = true
  · rw [if_pos c1] at h
    obtain ⟨x2, hx2, h⟩ := Option.bind_eq_some_iff.mp h
    by_cases c2 : x2 = true
    · rw [if_pos c2] at h
      by_cases c3 : 0 ≤ a0.f2
      · rw [if_pos c3] at h
        by_cases c4 : a0.f2 < a0.f3
        · rw [if_pos c4] at h
          by_cases c5 : a0.f3 ≤ 100000
          · rw [if_pos c5] at h
            obtain ⟨x3, hx3, h⟩ := Option.bind_eq_some_iff.mp h
            refine .reg' [2] [.no, .no, .c ⟨58, [(I a0.f0), (I 0), (I 59)], [], (B x1), [], [], [], [], (B x1), []⟩, .v (B true), .no, .no, .c ⟨58, [(I a0.f1), (I 0), (I 1)], [], (B x2), [], [], [], [], (B x2), []⟩, .no, .v (B true), .no, .no, .no, .no, .v (B true), .no, .no, .no, .no, .no, .no, .v (B true), .no, .no, .no, .no, .v (B true), .no, .no, .c ⟨58, [(I a0.f4), (I 0), (I 23)], [], (B x3), [], [], [], [], (B x3), []⟩] ⟨[(2, (B x3))], [(256, [(I a0.f0), (I a0.f1), (I a0.f2), (I a0.f3), (I a0.f4)])], [5 = 5 ∧ 0 + 1 ≤ 5, COK (hget [(256, [(I a0.f0), (I a0.f1), (I a0.f2), (I a0.f3), (I a0.f4)])]) [(I a0.f0), (I 0), (I 59)] ⟨58, [(I a0.f0), (I 0), (I 59)], [], (B x1), [], [], [], [], (B x1), []⟩, (B x1 : V) = B true, 5 = 5 ∧ 1 + 1 ≤ 5, COK (hget [(256, [(I a0.f0), (I a0.f1), (I a0.f2), (I a0.f3), (I a0.f4)])]) [(I a0.f1), (I 0), (I 1)] ⟨58, [(I a0.f1), (I 0), (I 1)], [], (B x2), [], [], [], [], (B x2), []⟩, (B x2 : V) = B true, 5 = 5 ∧ 2 + 1 ≤ 5, (B (decide (0 ≤ a0.f2)) : V) = B true, 5 = 5 ∧ 2 + 1 ≤ 5, 5 = 5 ∧ 3 + 1 ≤ 5, (B (decide (a0.f2 < a0.f3)) : V) = B true, 5 = 5 ∧ 3 + 1 ≤ 5, (B (decide (a0.f3 ≤ 100000)) : V) = B true, 5 = 5 ∧ 4 + 1 ≤ 5, COK (hget [(256, [(I a0.f0), (I a0.f1), (I a0.f2), (I a0.f3), (I a0.f4)])]) [(I a0.f4), (I 0), (I 23)] ⟨58, [(I a0.f4), (I 0), (I 23)], [], (B x3), [], [], [], [], (B x3), []⟩], [⟨58, [(I a0.f0), (I 0), (I 59)], [], (B x1), [], [], [], [], (B x1), []⟩, ⟨58, [(I a0.f1), (I 0), (I 1)], [], (B x2), [], [], [], [], (B x2), []⟩, ⟨58, [(I a0.f4), (I 0), (I 23)], [], (B x3), [], [], [], [], (B x3), []⟩]⟩ [c_ 7] (alc ⟨rfl, by decide⟩ (alc (cok0 false (a2c (.z .s) (a2c (.z .s) (a2c (.z .s) a2n))) (.z .s) (fun h => absurd h (by decide))) (alc (bT c1) (alc ⟨rfl, by decide⟩ (alc (cok0 false (a2c (.z .s) (a2c (.z .s) (a2c (.z .s) a2n))) (.z .s) (fun h => absurd h (by decide))) (alc (bT c2) (alc ⟨rfl, by decide⟩ (alc (bT (dT c3)) (alc ⟨rfl, by decide⟩ (alc ⟨rfl, by decide⟩ (alc (bT (dT c4)) (alc ⟨rfl, by decide⟩ (alc (bT (dT c5)) (alc ⟨rfl, by decide⟩ (alc (cok0 false (a2c (.z .s) (a2c (.z .s) (a2c (.z .s) a2n))) (.z .s) (fun h => absurd h (by decide))) aln))))))))))))))) (acal (impl_between.J a0.f0 0 59 _ hx1) (acal (impl_between.J a0.f1 0 1 _ hx2) (acal (impl_between.J a0.f4 0 23 _ hx3) nocal))) ?_
            have h := Option.some.inj h
            subst h
            exact .fin0 [] (B x3) [] aln (.z .s)
          · rw [if_neg c5] at h
            refine .reg' [2] [.no, .no, .c ⟨58, [(I a0.f0), (I 0), (I 59)], [], (B x1), [], [], [], [], (B x1), []⟩, .v (B true), .no, .no, .c ⟨58, [(I a0.f1), (I 0), (I 1)], [], (B x2), [], [], [], [], (B x2), []⟩, .no, .v (B true), .no, .no, .no, .no, .v (B true), .no, .no, .no, .no, .no, .no, .v (B true), .no, .no, .no, .no, .v (B false)] ⟨[(2, (B false))], [(256, [(I a0.f0), (I a0.f1), (I a0.f2), (I a0.f3), (I a0.f4)])], [5 = 5 ∧ 0 + 1 ≤ 5, COK (hget [(256, [(I a0.f0), (I a0.f1), (I a0.f2), (I a0.f3), (I a0.f4)])]) [(I a0.f0), (I 0), (I 59)] ⟨58, [(I a0.f0), (I 0), (I 59)], [], (B x1), [], [], [], [], (B x1), []⟩, (B x1 : V) = B true, 5 = 5 ∧ 1 + 1 ≤ 5, COK (hget [(256, [(I a0.f0), (I a0.f1), (I a0.f2), (I a0.f3), (I a0.f4)])]) [(I a0.f1), (I 0), (I 1)] ⟨58, [(I a0.f1), (I 0), (I 1)], [], (B x2), [], [], [], [], (B x2), []⟩, (B x2 : V) = B true, 5 = 5 ∧ 2 + 1 ≤ 5, (B (decide (0 ≤ a0.f2)) : V) = B true, 5 = 5 ∧ 2 + 1 ≤ 5, 5 = 5 ∧ 3 + 1 ≤ 5, (B (decide (a0.f2 < a0.f3)) : V) = B true, 5 = 5 ∧ 3 + 1 ≤ 5, (B (decide (a0.f3 ≤ 100000)) : V) = B false], [⟨58, [(I a0.f0), (I 0), (I 59)], [], (B x1), [], [], [], [], (B x1), []⟩, ⟨58, [(I a0.f1), (I 0), (I 1)], [], (B x2), [], [], [], [], (B x2), []⟩]⟩ [c_ 7] (alc ⟨rfl, by decide⟩ (alc (cok0 false (a2c (.z .s) (a2c (.z .s) (a2c (.z .s) a2n))) (.z .s) (fun h => absurd h (by decide))) (alc (bT c1) (alc ⟨rfl, by decide⟩ (alc (cok0 false (a2c (.z .s) (a2c (.z .s) (a2c (.z .s) a2n))) (.z .s) (fun h => absurd h (by decide))) (alc (bT c2) (alc ⟨rfl, by decide⟩ (alc (bT (dT c3)) (alc ⟨rfl, by decide⟩ (alc ⟨rfl, by decide⟩ (alc (bT (dT c4)) (alc ⟨rfl, by decide⟩ (alc (bF (dF c5)) aln))))))))))))) (acal (impl_between.J a0.f0 0 59 _ hx1) (acal (impl_between.J a0.f1 0 1 _ hx2) nocal)) ?_
            have h := Option.some.inj h
            subst h
            exact .fin0 [] (B false) [] aln (.z .s)
        · rw [if_neg c4] at h
          refine .reg' [2] [.no, .no, .c ⟨58, [(I a0.f0), (I 0), (I 59)], [], (B x1), [], [], [], [], (B x1), []⟩, .v (B true), .no, .no, .c ⟨58, [(I a0.f1), (I 0), (I 1)], [], (B x2), [], [], [], [], (B x2), []⟩, .no, .v (B true), .no, .no, .no, .no, .v (B true), .no, .no, .no, .no, .no, .no, .v (B false)] ⟨[(2, (B false))], [(256, [(I a0.f0), (I a0.f1), (I a0.f2), (I a0.f3), (I a0.f4)])], [5 = 5 ∧ 0 + 1 ≤ 5, COK (hget [(256, [(I a0.f0), (I a0.f1), (I a0.f2), (I a0.f3), (I a0.f4)])]) [(I a0.f0), (I 0), (I 59)] ⟨58, [(I a0.f0), (I 0), (I 59)], [], (B x1), [], [], [], [], (B x1), []⟩, (B x1 : V) = B true, 5 = 5 ∧ 1 + 1 ≤ 5, COK (hget [(256, [(I a0.f0), (I a0.f1), (I a0.f2), (I a0.f3), (I a0.f4)])]) [(I a0.f1), (I 0), (I 1)] ⟨58, [(I a0.f1), (I 0), (I 1)], [], (B x2), [], [], [], [], (B x2), []⟩, (B x2 : V) = B true, 5 = 5 ∧ 2 + 1 ≤ 5, (B (decide (0 ≤ a0.f2)) : V) = B true, 5 = 5 ∧ 2 + 1 ≤ 5, 5 = 5 ∧ 3 + 1 ≤ 5, (B (decide (a0.f2 < a0.f3)) : V) = B false], [⟨58, [(I a0.f0), (I 0), (I 59)], [], (B x1), [], [], [], [], (B x1), []⟩, ⟨58, [(I a0.f1), (I 0), (I 1)], [], (B x2), [], [], [], [], (B x2), []⟩]⟩ [c_ 7] (alc ⟨rfl, by decide⟩ (alc (cok0 false (a2c (.z .s) (a2c (.z .s) (a2c (.z .s) a2n))) (.z .s) (fun h => absurd h (by decide))) (alc (bT c1) (alc ⟨rfl, by decide⟩ (alc (cok0 false (a2c (.z .s) (a2c (.z .s) (a2c (.z .s) a2n))) (.z .s) (fun h => absurd h (by decide))) (alc (bT c2) (alc ⟨rfl, by decide⟩ (alc (bT (dT c3)) (alc ⟨rfl, by decide⟩ (alc ⟨rfl, by decide⟩ (alc (bF (dF c4)) aln))))))))))) (acal (impl_between.J a0.f0 0 59 _ hx1) (acal (impl_between.J a0.f1 0 1 _ hx2) nocal)) ?_
          have h := Option.some.inj h
          subst h
          exact .fin0 [] (B false) [] aln (.z .s)
      · rw [if_neg c3] at h
        refine .reg' [2] [.no, .no, .c ⟨58, [(I a0.f0), (I 0), (I 59)], [], (B x1), [], [], [], [], (B x1), []⟩, .v (B true), .no, .no, .c ⟨58, [(I a0.f1), (I 0), (I 1)], [], (B x2), [], [], [], [], (B x2), []⟩, .no, .v (B true), .no, .no, .no, .no, .v (B false)] ⟨[(2, (B false))], [(256, [(I a0.f0), (I a0.f1), (I a0.f2), (I a0.f3), (I a0.f4)])], [5 = 5 ∧ 0 + 1 ≤ 5, COK (hget [(256, [(I a0.f0), (I a0.f1), (I a0.f2), (I a0.f3), (I a0.f4)])]) [(I a0.f0), (I 0), (I 59)] ⟨58, [(I a0.f0), (I 0), (I 59)], [], (B x1), [], [], [], [], (B x1), []⟩, (B x1 : V) = B true, 5 = 5 ∧ 1 + 1 ≤ 5, COK (hget [(256, [(I a0.f0), (I a0.f1), (I a0.f2), (I a0.f3), (I a0.f4)])]) [(I a0.f1), (I 0), (I 1)] ⟨58, [(I a0.f1), (I 0), (I 1)], [], (B x2), [], [], [], [], (B x2), []⟩, (B x2 : V) = B true, 5 = 5 ∧ 2 + 1 ≤ 5, (B (decide (0 ≤ a0.f2)) : V) = B false], [⟨58, [(I a0.f0), (I 0), (I 59)], [], (B x1), [], [], [], [], (B x1), []⟩, ⟨58, [(I a0.f1), (I 0), (I 1)], [], (B x2), [], [], [], [], (B x2), []⟩]⟩ [c_ 7] (alc ⟨rfl, by decide⟩ (alc (cok0 false (a2c (.z .s) (a2c (.z .s) (a2c (.z .s) a2n))) (.z .s) (fun h => absurd h (by decide))) (alc (bT c1) (alc ⟨rfl, by decide⟩ (alc (cok0 false (a2c (.z .s) (a2c (.z .s) (a2c (.z .s) a2n))) (.z .s) (fun h => absurd h (by decide))) (alc (bT c2) (alc ⟨rfl, by decide⟩ (alc (bF (dF c3)) aln)))))))) (acal (impl_between.J a0.f0 0 59 _ hx1) (acal (impl_between.J a0.f1 0 1 _ hx2) nocal)) ?_
        have h := Option.some.inj h
        subst h
        exact .fin0 [] (B false) [] aln (.z .s)
    · rw [if_neg c2] at h
      refine .reg' [2] [.no, .no, .c ⟨58, [(I a0.f0), (I 0), (I 59)], [], (B x1), [], [], [], [], (B x1), []⟩, .v (B true), .no, .no, .c ⟨58, [(I a0.f1), (I 0), (I 1)], [], (B x2), [], [], [], [], (B x2), []⟩, .no, .v (B false)] ⟨[(2, (B false))], [(256, [(I a0.f0), (I a0.f1), (I a0.f2), (I a0.f3), (I a0.f4)])], [5 = 5 ∧ 0 + 1 ≤ 5, COK (hget [(256, [(I a0.f0), (I a0.f1), (I a0.f2), (I a0.f3), (I a0.f4)])]) [(I a0.f0), (I 0), (I 59)] ⟨58, [(I a0.f0), (I 0), (I 59)], [], (B x1), [], [], [], [], (B x1), []⟩, (B x1 : V) = B true, 5 = 5 ∧ 1 + 1 ≤ 5, COK (hget [(256, [(I a0.f0), (I a0.f1), (I a0.f2), (I a0.f3), (I a0.f4)])]) [(I a0.f1), (I 0), (I 1)] ⟨58, [(I a0.f1), (I 0), (I 1)], [], (B x2), [], [], [], [], (B x2), []⟩, (B x2 : V) = B false], [⟨58, [(I a0.f0), (I 0), (I 59)], [], (B x1), [], [], [], [], (B x1), []⟩, ⟨58, [(I a0.f1), (I 0), (I 1)], [], (B x2), [], [], [], [], (B x2), []⟩]⟩ [c_ 7] (alc ⟨rfl, by decide⟩ (alc (cok0 false (a2c (.z .s) (a2c (.z .s) (a2c (.z .s) a2n))) (.z .s) (fun h => absurd h (by decide))) (alc (bT c1) (alc ⟨rfl, by decide⟩ (alc (cok0 false (a2c (.z .s) (a2c (.z .s) (a2c (.z .s) a2n))) (.z .s) (fun h => absurd h (by decide))) (alc (bF (vF c2)) aln)))))) (acal (impl_between.J a0.f0 0 59 _ hx1) (acal (impl_between.J a0.f1 0 1 _ hx2) nocal)) ?_
      have h := Option.some.inj h
      subst h
      exact .fin0 [] (B false) [] aln (.z .s)
  · rw [if_neg c1] at h
    refine .reg' [2] [.no, .no, .c ⟨58, [(I a0.f0), (I 0), (I 59)], [], (B x1), [], [], [], [], (B x1), []⟩, .v (B false)] ⟨[(2, (B false))], [(256, [(I a0.f0), (I a0.f1), (I a0.f2), (I a0.f3), (I a0.f4)])], [5 = 5 ∧ 0 + 1 ≤ 5, COK (hget [(256, [(I a0.f0), (I a0.f1), (I a0.f2), (I a0.f3), (I a0.f4)])]) [(I a0.f0), (I 0), (I 59)] ⟨58, [(I a0.f0), (I 0), (I 59)], [], (B x1), [], [], [], [], (B x1), []⟩, (B x1 : V) = B false], [⟨58, [(I a0.f0), (I 0), (I 59)], [], (B x1), [], [], [], [], (B x1), []⟩]⟩ [c_ 7] (alc ⟨rfl, by decide⟩ (alc (cok0 false (a2c (.z .s) (a2c (.z .s) (a2c (.z .s) a2n))) (.z .s) (fun h => absurd h (by decide))) (alc (bF (vF c1)) aln))) (acal (impl_between.J a0.f0 0 59 _ hx1) nocal) ?_
    have h := Option.some.inj h
    subst h
    exact .fin0 [] (B false) [] aln (.z .s)
/-! impl_meet: function 59 -/
def impl_meet.f (a0 : S22) (a1 : S22) (a2 : Int) : Option Bool := (if a0.f0 = a1.f0 then (if a0.f1 = a1.f1 then (if (wrap64 (a0.f2 + a2)) ≤ a1.f2 then (if (wrap64 (a0.f3 + a2)) ≤ a1.f3 then (some false) else (if (wrap64 (a1.f2 + a2)) ≤ a0.f2 then (some (!(decide ((wrap64 (a1.f3 + a2)) ≤ a0.f3)))) else (some true))) else (if (wrap64 (a1.f2 + a2)) ≤ a0.f2 then (some (!(decide ((wrap64 (a1.f3 + a2)) ≤ a0.f3)))) else (some true))) else (if a0.f2 < a1.f3 then (some (decide (a1.f2 < a0.f3))) else (some false))) else (some false))
theorem impl_meet.J (a0 : S22) (a1 : S22) (a2 : Int) (r : Bool) (h : impl_meet.f a0 a1 a2 = some r) : J prog (.call 59 [(.ag [(I a0.f0), (I a0.f1), (I a0.f2), (I a0.f3), (I a0.f4)]), (.ag [(I a1.f0), (I a1.f1), (I a1.f2), (I a1.f3), (I a1.f4)]), (I a2)] [] (B r) []) := by
  unfold impl_meet.f at h
  refine .call' [c_ 2, c_ 3] ?_
  refine .reg' [2, 3, 4] [] ⟨[(2, (I a2)), (3, (.pt 256 0 5)), (4, (.pt 257 0 5))], [(256, [(I a0.f0), (I a0.f1), (I a0.f2), (I a0.f3), (I a0.f4)]), (257, [(I a1.f0), (I a1.f1), (I a1.f2), (I a1.f3), (I a1.f4)])], [], []⟩ [c_ 12, c_ 13, c_ 7] aln nocal ?_
  refine .reg' [2, 3, 4, 11] [] ⟨[(2, (I a2)), (3, (.pt 256 0 5)), (4, (.pt 257 0 5)), (11, (B (!(a0.f0 == a1.f0))))], [(256, [(I a0.f0), (I a0.f1), (I a0.f2), (I a0.f3), (I a0.f4)]), (257, [(I a1.f0), (I a1.f1), (I a1.f2), (I a1.f3), (I a1.f4)])], [5 = 5 ∧ 0 + 1 ≤ 5, 5 = 5 ∧ 0 + 1 ≤ 5], []⟩ [c_ 13, c_ 7] (alc ⟨rfl, by decide⟩ (alc ⟨rfl, by decide⟩ aln)) nocal ?_
  by_cases c1 : a0.f0 = a1.f0
  · rw [if_pos c1] at h
    refine .cond' (.tmp 11) false [c_ 28, c_ 29, c_ 15] (bF (nF (qT c1))) ?_
    refine .reg' [2, 3, 4, 16] [] ⟨[(2, (I a2)), (3, (.pt 256 0 5)), (4, (.pt 257 0 5)), (16, (B (!(a0.f1 == a1.f1))))], [(256, [(I a0.f0), (I a0.f1), (I a0.f2), (I a0.f3), (I a0.f4)]), (257, [(I a1.f0), (I a1.f1), (I a1.f2), (I a1.f3), (I a1.f4)])], [5 = 5 ∧ 1 + 1 ≤ 5, 5 = 5 ∧ 1 + 1 ≤ 5], []⟩ [c_ 29, c_ 15] (alc ⟨rfl, by decide⟩ (alc ⟨rfl, by decide⟩ aln)) nocal ?_
    by_cases c2 : a0.f1 = a1.f1
    · rw [if_pos c2] at h
      refine .cond' (.tmp 16) false [c_ 30, c_ 31] (bF (nF (qT c2))) ?_
      by_cases c3 : (wrap64 (a0.f2 + a2)) ≤ a1.f2
      · rw [if_pos c3] at h
        by_cases c4 : (wrap64 (a0.f3 + a2)) ≤ a1.f3
        · rw [if_pos c4] at h
          refine .reg' [6] [.no, .no, .no, .no, .no, .no, .no, .v (B true), .no, .no, .no, .no, .no, .no, .no, .no, .no, .v (B false)] ⟨[(6, (B false))], [(256, [(I a0.f0), (I a0.f1), (I a0.f2), (I a0.f3), (I a0.f4)]), (257, [(I a1.f0), (I a1.f1), (I a1.f2), (I a1.f3), (I a1.f4)])], [5 = 5 ∧ 2 + 1 ≤ 5, 5 = 5 ∧ 2 + 1 ≤ 5, (B (decide ((wrap64 (a0.f2 + a2)) ≤ a1.f2)) : V) = B true, 5 = 5 ∧ 3 + 1 ≤ 5, 5 = 5 ∧ 3 + 1 ≤ 5, (B (!(decide ((wrap64 (a0.f3 + a2)) ≤ a1.f3))) : V) = B false], []⟩ [c_ 31] (alc ⟨rfl, by decide⟩ (alc ⟨rfl, by decide⟩ (alc (bT (dT c3)) (alc ⟨rfl, by decide⟩ (alc ⟨rfl, by decide⟩ (alc (bF (nF (dT c4))) aln)))))) nocal ?_
          have h := Option.some.inj h
          subst h
          exact .fin0 [] (B false) [] aln (.z .s)
        · rw [if_neg c4] at h
          by_cases c5 : (wrap64 (a1.f2 + a2)) ≤ a0.f2
          · rw [if_pos c5] at h
            refine .reg' [6] [.no, .no, .no, .no, .no, .no, .no, .v (B true), .no, .no, .no, .no, .no, .no, .no, .no, .no, .v (B true), .no, .no, .no, .no, .no, .no, .no, .v (B true)] ⟨[(6, (B (!(decide ((wrap64 (a1.f3 + a2)) ≤ a0.f3)))))], [(256, [(I a0.f0), (I a0.f1), (I a0.f2), (I a0.f3), (I a0.f4)]), (257, [(I a1.f0), (I a1.f1), (I a1.f2), (I a1.f3), (I a1.f4)])], [5 = 5 ∧ 2 + 1 ≤ 5, 5 = 5 ∧ 2 + 1 ≤ 5, (B (decide ((wrap64 (a0.f2 + a2)) ≤ a1.f2)) : V) = B true, 5 = 5 ∧ 3 + 1 ≤ 5, 5 = 5 ∧ 3 + 1 ≤ 5, (B (!(decide ((wrap64 (a0.f3 + a2)) ≤ a1.f3))) : V) = B true, 5 = 5 ∧ 2 + 1 ≤ 5, 5 = 5 ∧ 2 + 1 ≤ 5, (B (decide ((wrap64 (a1.f2 + a2)) ≤ a0.f2)) : V) = B true, 5 = 5 ∧ 3 + 1 ≤ 5, 5 = 5 ∧ 3 + 1 ≤ 5], []⟩ [c_ 31] (alc ⟨rfl, by decide⟩ (alc ⟨rfl, by decide⟩ (alc (bT (dT c3)) (alc ⟨rfl, by decide⟩ (alc ⟨rfl, by decide⟩ (alc (bT (nT (dF c4))) (alc ⟨rfl, by decide⟩ (alc ⟨rfl, by decide⟩ (alc (bT (dT c5)) (alc ⟨rfl, by decide⟩ (alc ⟨rfl, by decide⟩ aln))))))))))) nocal ?_
            have h := Option.some.inj h
            subst h
            exact .fin0 [] (B (!(decide ((wrap64 (a1.f3 + a2)) ≤ a0.f3)))) [] aln (.z .s)
          · rw [if_neg c5] at h
            refine .reg' [6] [.no, .no, .no, .no, .no, .no, .no, .v (B true), .no, .no, .no, .no, .no, .no, .no, .no, .no, .v (B true), .no, .no, .no, .no, .no, .no, .no, .v (B false)] ⟨[(6, (B true))], [(256, [(I a0.f0), (I a0.f1), (I a0.f2), (I a0.f3), (I a0.f4)]), (257, [(I a1.f0), (I a1.f1), (I a1.f2), (I a1.f3), (I a1.f4)])], [5 = 5 ∧ 2 + 1 ≤ 5, 5 = 5 ∧ 2 + 1 ≤ 5, (B (decide ((wrap64 (a0.f2 + a2)) ≤ a1.f2)) : V) = B true, 5 = 5 ∧ 3 + 1 ≤ 5, 5 = 5 ∧ 3 + 1 ≤ 5, (B (!(decide ((wrap64 (a0.f3 + a2)) ≤ a1.f3))) : V) = B true, 5 = 5 ∧ 2 + 1 ≤ 5, 5 = 5 ∧ 2 + 1 ≤ 5, (B (decide ((wrap64 (a1.f2 + a2)) ≤ a0.f2)) : V) = B false], []⟩ [c_ 31] (alc ⟨rfl, by decide⟩ (alc ⟨rfl, by decide⟩ (alc (bT (dT c3)) (alc ⟨rfl, by decide⟩ (alc ⟨rfl, by decide⟩ (alc (bT (nT (dF c4))) (alc ⟨rfl, by decide⟩ (alc ⟨rfl, by decide⟩ (alc (bF (dF c5)) aln))))))))) nocal ?_
            have h := Option.some.inj h
            subst h
            exact .fin0 [] (B true) [] aln (.z .s)
      · rw [if_neg c3] at h
        by_cases c6 : (wrap64 (a1.f2 + a2)) ≤ a0.f2
        · rw [if_pos c6] at h
          refine .reg' [6] [.no, .no, .no, .no, .no, .no, .no, .v (B false), .no, .no, .no, .no, .no, .no, .no, .no, .no, .no, .no, .no, .no, .no, .no, .no, .no, .v (B true)] ⟨[(6, (B (!(decide ((wrap64 (a1.f3 + a2)) ≤ a0.f3)))))], [(256, [(I a0.f0), (I a0.f1), (I a0.f2), (I a0.f3), (I a0.f4)]), (257, [(I a1.f0), (I a1.f1), (I a1.f2), (I a1.f3), (I a1.f4)])], [5 = 5 ∧ 2 + 1 ≤ 5, 5 = 5 ∧ 2 + 1 ≤ 5, (B (decide ((wrap64 (a0.f2 + a2)) ≤ a1.f2)) : V) = B false, 5 = 5 ∧ 2 + 1 ≤ 5, 5 = 5 ∧ 2 + 1 ≤ 5, (B (decide ((wrap64 (a1.f2 + a2)) ≤ a0.f2)) : V) = B true, 5 = 5 ∧ 3 + 1 ≤ 5, 5 = 5 ∧ 3 + 1 ≤ 5], []⟩ [c_ 31] (alc ⟨rfl, by decide⟩ (alc ⟨rfl, by decide⟩ (alc (bF (dF c3)) (alc ⟨rfl, by decide⟩ (alc ⟨rfl, by decide⟩ (alc (bT (dT c6)) (alc ⟨rfl, by decide⟩ (alc ⟨rfl, by decide⟩ aln)))))))) nocal ?_
          have h := Option.some.inj h
          subst h
          exact .fin0 [] (B (!(decide ((wrap64 (a1.f3 + a2)) ≤ a0.f3)))) [] aln (.z .s)
        · rw [if_neg c6] at h
          refine .reg' [6] [.no, .no, .no, .no, .no, .no, .no, .v (B false), .no, .no, .no, .no, .no, .no, .no, .no, .no, .no, .no, .no, .no, .no, .no, .no, .no, .v (B false)] ⟨[(6, (B true))], [(256, [(I a0.f0), (I a0.f1), (I a0.f2), (I a0.f3), (I a0.f4)]), (257, [(I a1.f0), (I a1.f1), (I a1.f2), (I a1.f3), (I a1.f4)])], [5 = 5 ∧ 2 + 1 ≤ 5, 5 = 5 ∧ 2 + 1 ≤ 5, (B (decide ((wrap64 (a0.f2 + a2)) ≤ a1.f2)) : V) = B false, 5 = 5 ∧ 2 + 1 ≤ 5, 5 = 5 ∧ 2 + 1 ≤ 5, (B (decide ((wrap64 (a1.f2 + a2)) ≤ a0.f2)) : V) = B false], []⟩ [c_ 31] (alc ⟨rfl, by decide⟩ (alc ⟨rfl, by decide⟩ (alc (bF (dF c3)) (alc ⟨rfl, by decide⟩ (alc ⟨rfl, by decide⟩ (alc (bF (dF c6)) aln)))))) nocal ?_
          have h := Option.some.inj h
          subst h
          exact .fin0 [] (B true) [] aln (.z .s)
    · rw [if_neg c2] at h
      refine .cond' (.tmp 16) true [c_ 116, c_ 117, c_ 15] (bT (nT (qF c2))) ?_
      by_cases c7 : a0.f2 < a1.f3
      · rw [if_pos c7] at h
        refine .reg' [6] [.no, .no, .no, .no, .no, .v (B true)] ⟨[(6, (B (decide (a1.f2 < a0.f3))))], [(256, [(I a0.f0), (I a0.f1), (I a0.f2), (I a0.f3), (I a0.f4)]), (257, [(I a1.f0), (I a1.f1), (I a1.f2), (I a1.f3), (I a1.f4)])], [5 = 5 ∧ 2 + 1 ≤ 5, 5 = 5 ∧ 3 + 1 ≤ 5, (B (decide (a0.f2 < a1.f3)) : V) = B true, 5 = 5 ∧ 2 + 1 ≤ 5, 5 = 5 ∧ 3 + 1 ≤ 5], []⟩ [c_ 117, c_ 15] (alc ⟨rfl, by decide⟩ (alc ⟨rfl, by decide⟩ (alc (bT (dT c7)) (alc ⟨rfl, by decide⟩ (alc ⟨rfl, by decide⟩ aln))))) nocal ?_
        have h := Option.some.inj h
        subst h
        exact .fin0 [] (B (decide (a1.f2 < a0.f3))) [] aln (.z .s)
      · rw [if_neg c7] at h
        refine .reg' [6] [.no, .no, .no, .no, .no, .v (B false)] ⟨[(6, (B false))], [(256, [(I a0.f0), (I a0.f1), (I a0.f2), (I a0.f3), (I a0.f4)]), (257, [(I a1.f0), (I a1.f1), (I a1.f2), (I a1.f3), (I a1.f4)])], [5 = 5 ∧ 2 + 1 ≤ 5, 5 = 5 ∧ 3 + 1 ≤ 5, (B (decide (a0.f2 < a1.f3)) : V) = B false], []⟩ [c_ 117, c_ 15] (alc ⟨rfl, by decide⟩ (alc ⟨rfl, by decide⟩ (alc (bF (dF c7)) aln))) nocal ?_
        have h := Option.some.inj h
        subst h
        exact .fin0 [] (B false) [] aln (.z .s)
  · rw [if_neg c1] at h
    refine .cond' (.tmp 11) true [c_ 52, c_ 53, c_ 7] (bT (nT (qF c1))) ?_
    refine .reg' [6] [] ⟨[(6, (B false))], [(256, [(I a0.f0), (I a0.f1), (I a0.f2), (I a0.f3), (I a0.f4)]), (257, [(I a1.f0), (I a1.f1), (I a1.f2), (I a1.f3), (I a1.f4)])], [], []⟩ [c_ 53, c_ 7] aln nocal ?_
    have h := Option.some.inj h
    subst h
    exact .fin0 [] (B false) [] aln (.z .s)
/-! impl_Clash: function 17 -/
def impl_Clash.f (a0 : S22) (a1 : S22) (a2 : Int) : Option Bool := ((impl_UseOk.f a0).bind fun x1 => (if x1 = true then ((impl_UseOk.f a1).bind fun x2 => (if x2 = true then ((impl_between.f a2 0 60).bind fun x3 => (if x3 = true then ((impl_meet.f a0 a1 a2).bind fun x4 => (some x4)) else (some false))) else (some false))) else (some false)))
theorem impl_Clash.J (a0 : S22) (a1 : S22) (a2 : Int) (r : Bool) (h : impl_Clash.f a0 a1 a2 = some r) : J prog (.call 17 [(.ag [(I a0.f0), (I a0.f1), (I a0.f2), (I a0.f3), (I a0.f4)]), (.ag [(I a1.f0), (I a1.f1), (I a1.f2), (I a1.f3), (I a1.f4)]), (I a2)] [] (B r) []) := by
  unfold impl_Clash.f at h
  refine .call' [c_ 2, c_ 3] ?_
  refine .reg' [2, 3, 4] [] ⟨[(2, (I a2)), (3, (.pt 256 0 5)), (4, (.pt 257 0 5))], [(256, [(I a0.f0), (I a0.f1), (I a0.f2), (I a0.f3), (I a0.f4)]), (257, [(I a1.f0), (I a1.f1), (I a1.f2), (I a1.f3), (I a1.f4)])], [], []⟩ [c_ 6, c_ 7] aln nocal ?_
  obtain ⟨x1, hx1, h⟩ := Option.bind_eq_some_iff.mp h
  by_cases c1 : x1 = true
  · rw [if_pos c1] at h
    obtain ⟨x2, hx2, h⟩ := Option.bind_eq_some_iff.mp h
    by_cases c2 : x2 = true
    · rw [if_pos c2] at h
      obtain ⟨x3, hx3, h⟩ := Option.bind_eq_some_iff.mp h
      by_cases c3 : x3 = true
      · rw [if_pos c3] at h
        obtain ⟨x4, hx4, h⟩ := Option.bind_eq_some_iff.mp h
        refine .reg' [6] [.no, .c ⟨15, [(.ag [(I a0.f0), (I a0.f1), (I a0.f2), (I a0.f3), (I a0.f4)])], [], (B x1), [], [], [], [], (B x1), []⟩, .v (B true), .no, .c ⟨15, [(.ag [(I a1.f0), (I a1.f1), (I a1.f2), (I a1.f3), (I a1.f4)])], [], (B x2), [], [], [], [], (B x2), []⟩, .no, .v (B true), .no, .c ⟨58, [(I a2), (I 0), (I 60)], [], (B x3), [], [], [], [], (B x3), []⟩, .no, .v (B true), .no, .no, .no, .c ⟨59, [(.ag [(I a0.f0), (I a0.f1), (I a0.f2), (I a0.f3), (I a0.f4)]), (.ag [(I a1.f0), (I a1.f1), (I a1.f2), (I a1.f3), (I a1.f4)]), (I a2)], [], (B x4), [], [], [], [], (B x4), []⟩] ⟨[(6, (B x4))], [(256, [(I a0.f0), (I a0.f1), (I a0.f2), (I a0.f3), (I a0.f4)]), (257, [(I a1.f0), (I a1.f1), (I a1.f2), (I a1.f3), (I a1.f4)])], [5 = 5 ∧ 0 + 5 ≤ 5, COK (hget [(256, [(I a0.f0), (I a0.f1), (I a0.f2), (I a0.f3), (I a0.f4)]), (257, [(I a1.f0), (I a1.f1), (I a1.f2), (I a1.f3), (I a1.f4)])]) [(.ag [(I a0.f0), (I a0.f1), (I a0.f2), (I a0.f3), (I a0.f4)])] ⟨15, [(.ag [(I a0.f0), (I a0.f1), (I a0.f2), (I a0.f3), (I a0.f4)])], [], (B x1), [], [], [], [], (B x1), []⟩, (B x1 : V) = B true, 5 = 5 ∧ 0 + 5 ≤ 5, COK (hget [(256, [(I a0.f0), (I a0.f1), (I a0.f2), (I a0.f3), (I a0.f4)]), (257, [(I a1.f0), (I a1.f1), (I a1.f2), (I a1.f3), (I a1.f4)])]) [(.ag [(I a1.f0), (I a1.f1), (I a1.f2), (I a1.f3), (I a1.f4)])] ⟨15, [(.ag [(I a1.f0), (I a1.f1), (I a1.f2), (I a1.f3), (I a1.f4)])], [], (B x2), [], [], [], [], (B x2), []⟩, (B x2 : V) = B true, COK (hget [(256, [(I a0.f0), (I a0.f1), (I a0.f2), (I a0.f3), (I a0.f4)]), (257, [(I a1.f0), (I a1.f1), (I a1.f2), (I a1.f3), (I a1.f4)])]) [(I a2), (I 0), (I 60)] ⟨58, [(I a2), (I 0), (I 60)], [], (B x3), [], [], [], [], (B x3), []⟩, (B x3 : V) = B true, 5 = 5 ∧ 0 + 5 ≤ 5, 5 = 5 ∧ 0 + 5 ≤ 5, COK (hget [(256, [(I a0.f0), (I a0.f1), (I a0.f2), (I a0.f3), (I a0.f4)]), (257, [(I a1.f0), (I a1.f1), (I a1.f2), (I a1.f3), (I a1.f4)])]) [(.ag [(I a0.f0), (I a0.f1), (I a0.f2), (I a0.f3), (I a0.f4)]), (.ag [(I a1.f0), (I a1.f1), (I a1.f2), (I a1.f3), (I a1.f4)]), (I a2)] ⟨59, [(.ag [(I a0.f0), (I a0.f1), (I a0.f2), (I a0.f3), (I a0.f4)]), (.ag [(I a1.f0), (I a1.f1), (I a1.f2), (I a1.f3), (I a1.f4)]), (I a2)], [], (B x4), [], [], [], [], (B x4), []⟩], [⟨15, [(.ag [(I a0.f0), (I a0.f1), (I a0.f2), (I a0.f3), (I a0.f4)])], [], (B x1), [], [], [], [], (B x1), []⟩, ⟨15, [(.ag [(I a1.f0), (I a1.f1), (I a1.f2), (I a1.f3), (I a1.f4)])], [], (B x2), [], [], [], [], (B x2), []⟩, ⟨58, [(I a2), (I 0), (I 60)], [], (B x3), [], [], [], [], (B x3), []⟩, ⟨59, [(.ag [(I a0.f0), (I a0.f1), (I a0.f2), (I a0.f3), (I a0.f4)]), (.ag [(I a1.f0), (I a1.f1), (I a1.f2), (I a1.f3), (I a1.f4)]), (I a2)], [], (B x4), [], [], [], [], (B x4), []⟩]⟩ [c_ 7] (alc ⟨rfl, by decide⟩ (alc (cok0 false (a2c (.z (frz_ag (a2c .s (a2c .s (a2c .s (a2c .s (a2c .s a2n))))))) a2n) (.z .s) (fun h => absurd h (by decide))) (alc (bT c1) (alc ⟨rfl, by decide⟩ (alc (cok0 false (a2c (.z (frz_ag (a2c .s (a2c .s (a2c .s (a2c .s (a2c .s a2n))))))) a2n) (.z .s) (fun h => absurd h (by decide))) (alc (bT c2) (alc (cok0 false (a2c (.z .s) (a2c (.z .s) (a2c (.z .s) a2n))) (.z .s) (fun h => absurd h (by decide))) (alc (bT c3) (alc ⟨rfl, by decide⟩ (alc ⟨rfl, by decide⟩ (alc (cok0 false (a2c (.z (frz_ag (a2c .s (a2c .s (a2c .s (a2c .s (a2c .s a2n))))))) (a2c (.z (frz_ag (a2c .s (a2c .s (a2c .s (a2c .s (a2c .s a2n))))))) (a2c (.z .s) a2n))) (.z .s) (fun h => absurd h (by decide))) aln))))))))))) (acal (impl_UseOk.J a0 _ hx1) (acal (impl_UseOk.J a1 _ hx2) (acal (impl_between.J a2 0 60 _ hx3) (acal (impl_meet.J a0 a1 a2 _ hx4) nocal)))) ?_
        have h := Option.some.inj h
        subst h
        exact .fin0 [] (B x4) [] aln (.z .s)
      · rw [if_neg c3] at h
        refine .reg' [6] [.no, .c ⟨15, [(.ag [(I a0.f0), (I a0.f1), (I a0.f2), (I a0.f3), (I a0.f4)])], [], (B x1), [], [], [], [], (B x1), []⟩, .v (B true), .no, .c ⟨15, [(.ag [(I a1.f0), (I a1.f1), (I a1.f2), (I a1.f3), (I a1.f4)])], [], (B x2), [], [], [], [], (B x2), []⟩, .no, .v (B true), .no, .c ⟨58, [(I a2), (I 0), (I 60)], [], (B x3), [], [], [], [], (B x3), []⟩, .no, .v (B false)] ⟨[(6, (B false))], [(256, [(I a0.f0), (I a0.f1), (I a0.f2), (I a0.f3), (I a0.f4)]), (257, [(I a1.f0), (I a1.f1), (I a1.f2), (I a1.f3), (I a1.f4)])], [5 = 5 ∧ 0 + 5 ≤ 5, COK (hget [(256, [(I a0.f0), (I a0.f1), (I a0.f2), (I a0.f3), (I a0.f4)]), (257, [(I a1.f0), (I a1.f1), (I a1.f2), (I a1.f3), (I a1.f4)])]) [(.ag [(I a0.f0), (I a0.f1), (I a0.f2), (I a0.f3), (I a0.f4)])] ⟨15, [(.ag [(I a0.f0), (I a0.f1), (I a0.f2), (I a0.f3), (I a0.f4)])], [], (B x1), [], [], [], [], (B x1), []⟩, (B x1 : V) = B true, 5 = 5 ∧ 0 + 5 ≤ 5, COK (hget [(256, [(I a0.f0), (I a0.f1), (I a0.f2), (I a0.f3), (I a0.f4)]), (257, [(I a1.f0), (I a1.f1), (I a1.f2), (I a1.f3), (I a1.f4)])]) [(.ag [(I a1.f0), (I a1.f1), (I a1.f2), (I a1.f3), (I a1.f4)])] ⟨15, [(.ag [(I a1.f0), (I a1.f1), (I a1.f2), (I a1.f3), (I a1.f4)])], [], (B x2), [], [], [], [], (B x2), []⟩, (B x2 : V) = B true, COK (hget [(256, [(I a0.f0), (I a0.f1), (I a0.f2), (I a0.f3), (I a0.f4)]), (257, [(I a1.f0), (I a1.f1), (I a1.f2), (I a1.f3), (I a1.f4)])]) [(I a2), (I 0), (I 60)] ⟨58, [(I a2), (I 0), (I 60)], [], (B x3), [], [], [], [], (B x3), []⟩, (B x3 : V) = B false], [⟨15, [(.ag [(I a0.f0), (I a0.f1), (I a0.f2), (I a0.f3), (I a0.f4)])], [], (B x1), [], [], [], [], (B x1), []⟩, ⟨15, [(.ag [(I a1.f0), (I a1.f1), (I a1.f2), (I a1.f3), (I a1.f4)])], [], (B x2), [], [], [], [], (B x2), []⟩, ⟨58, [(I a2), (I 0), (I 60)], [], (B x3), [], [], [], [], (B x3), []⟩]⟩ [c_ 7] (alc ⟨rfl, by decide⟩ (alc (cok0 false (a2c (.z (frz_ag (a2c .s (a2c .s (a2c .s (a2c .s (a2c .s a2n))))))) a2n) (.z .s) (fun h => absurd h (by decide))) (alc (bT c1) (alc ⟨rfl, by decide⟩ (alc (cok0 false (a2c (.z (frz_ag (a2c .s (a2c .s (a2c .s (a2c .s (a2c .s a2n))))))) a2n) (.z .s) (fun h => absurd h (by decide))) (alc (bT c2) (alc (cok0 false (a2c (.z .s) (a2c (.z .s) (a2c (.z .s) a2n))) (.z .s) (fun h => absurd h (by decide))) (alc (bF (vF c3)) aln)))))))) (acal (impl_UseOk.J a0 _ hx1) (acal (impl_UseOk.J a1 _ hx2) (acal (impl_between.J a2 0 60 _ hx3) nocal))) ?_
        have h := Option.some.inj h
        subst h
        exact .fin0 [] (B false) [] aln (.z .s)
    · rw [if_neg c2] at h
      refine .reg' [6] [.no, .c ⟨15, [(.ag [(I a0.f0), (I a0.f1), (I a0.f2), (I a0.f3), (I a0.f4)])], [], (B x1), [], [], [], [], (B x1), []⟩, .v (B true), .no, .c ⟨15, [(.ag [(I a1.f0), (I a1.f1), (I a1.f2), (I a1.f3), (I a1.f4)])], [], (B x2), [], [], [], [], (B x2), []⟩, .no, .v (B false)] ⟨[(6, (B false))], [(256, [(I a0.f0), (I a0.f1), (I a0.f2), (I a0.f3), (I a0.f4)]), (257, [(I a1.f0), (I a1.f1), (I a1.f2), (I a1.f3), (I a1.f4)])], [5 = 5 ∧ 0 + 5 ≤ 5, COK (hget [(256, [(I a0.f0), (I a0.f1), (I a0.f2), (I a0.f3), (I a0.f4)]), (257, [(I a1.f0), (I a1.f1), (I a1.f2), (I a1.f3), (I a1.f4)])]) [(.ag [(I a0.f0), (I a0.f1), (I a0.f2), (I a0.f3), (I a0.f4)])] ⟨15, [(.ag [(I a0.f0), (I a0.f1), (I a0.f2), (I a0.f3), (I a0.f4)])], [], (B x1), [], [], [], [], (B x1), []⟩, (B x1 : V) = B true, 5 = 5 ∧ 0 + 5 ≤ 5, COK (hget [(256, [(I a0.f0), (I a0.f1), (I a0.f2), (I a0.f3), (I a0.f4)]), (257, [(I a1.f0), (I a1.f1), (I a1.f2), (I a1.f3), (I a1.f4)])]) [(.ag [(I a1.f0), (I a1.f1), (I a1.f2), (I a1.f3), (I a1.f4)])] ⟨15, [(.ag [(I a1.f0), (I a1.f1), (I a1.f2), (I a1.f3), (I a1.f4)])], [], (B x2), [], [], [], [], (B x2), []⟩, (B x2 : V) = B false], [⟨15, [(.ag [(I a0.f0), (I a0.f1), (I a0.f2), (I a0.f3), (I a0.f4)])], [], (B x1), [], [], [], [], (B x1), []⟩, ⟨15, [(.ag [(I a1.f0), (I a1.f1), (I a1.f2), (I a1.f3), (I a1.f4)])], [], (B x2), [], [], [], [], (B x2), []⟩]⟩ [c_ 7] (alc ⟨rfl, by decide⟩ (alc (cok0 false (a2c (.z (frz_ag (a2c .s (a2c .s (a2c .s (a2c .s (a2c .s a2n))))))) a2n) (.z .s) (fun h => absurd h (by decide))) (alc (bT c1) (alc ⟨rfl, by decide⟩ (alc (cok0 false (a2c (.z (frz_ag (a2c .s (a2c .s (a2c .s (a2c .s (a2c .s a2n))))))) a2n) (.z .s) (fun h => absurd h (by decide))) (alc (bF (vF c2)) aln)))))) (acal (impl_UseOk.J a0 _ hx1) (acal (impl_UseOk.J a1 _ hx2) nocal)) ?_
      have h := Option.some.inj h
      subst h
      exact .fin0 [] (B false) [] aln (.z .s)
  · rw [if_neg c1] at h
    refine .reg' [6] [.no, .c ⟨15, [(.ag [(I a0.f0), (I a0.f1), (I a0.f2), (I a0.f3), (I a0.f4)])], [], (B x1), [], [], [], [], (B x1), []⟩, .v (B false)] ⟨[(6, (B false))], [(256, [(I a0.f0), (I a0.f1), (I a0.f2), (I a0.f3), (I a0.f4)]), (257, [(I a1.f0), (I a1.f1), (I a1.f2), (I a1.f3), (I a1.f4)])], [5 = 5 ∧ 0 + 5 ≤ 5, COK (hget [(256, [(I a0.f0), (I a0.f1), (I a0.f2), (I a0.f3), (I a0.f4)]), (257, [(I a1.f0), (I a1.f1), (I a1.f2), (I a1.f3), (I a1.f4)])]) [(.ag [(I a0.f0), (I a0.f1), (I a0.f2), (I a0.f3), (I a0.f4)])] ⟨15, [(.ag [(I a0.f0), (I a0.f1), (I a0.f2), (I a0.f3), (I a0.f4)])], [], (B x1), [], [], [], [], (B x1), []⟩, (B x1 : V) = B false], [⟨15, [(.ag [(I a0.f0), (I a0.f1), (I a0.f2), (I a0.f3), (I a0.f4)])], [], (B x1), [], [], [], [], (B x1), []⟩]⟩ [c_ 7] (alc ⟨rfl, by decide⟩ (alc (cok0 false (a2c (.z (frz_ag (a2c .s (a2c .s (a2c .s (a2c .s (a2c .s a2n))))))) a2n) (.z .s) (fun h => absurd h (by decide))) (alc (bF (vF c1)) aln))) (acal (impl_UseOk.J a0 _ hx1) nocal) ?_
    have h := Option.some.inj h
    subst h
    exact .fin0 [] (B false) [] aln (.z .s)
/-! impl_FirstClash: function 21 -/
mutual
def impl_FirstClash.l0 : Nat → (List S22) → Int → Int → Option (Int × Int)
 | 0, _, _, _ => none
 | k + 1, a0, a1, x2 => (if x2 < (a0.length : Int) then (if 0 ≤ x2 then (impl_FirstClash.l1 k a0 a1 x2 (wrap64 (x2 + 1))) else none) else (some ((-1), (-1))))
def impl_FirstClash.l1 : Nat → (List S22) → Int → Int → Int → Option (Int × Int)
 | 0, _, _, _, _ => none
 | k + 1, a0, a1, x2, x3 => (if x3 < (a0.length : Int) then (if 0 ≤ x3 then (if (at_ a0 x2).f4 = (at_ a0 x3).f4 then (impl_FirstClash.l1 k a0 a1 x2 (wrap64 (x3 + 1))) else ((impl_Clash.f (at_ a0 x2) (at_ a0 x3) a1).bind fun x4 => (if x4 = true then (some (x2, x3)) else (impl_FirstClash.l1 k a0 a1 x2 (wrap64 (x3 + 1)))))) else none) else (impl_FirstClash.l0 k a0 a1 (wrap64 (x2 + 1))))
end
def impl_FirstClash.f (k : Nat) (a0 : (List S22)) (a1 : Int) : Option (Int × Int) := (if (a0.length : Int) > 300 then (some ((-1), (-1))) else ((impl_between.f a1 0 60).bind fun x1 => (if x1 = true then (impl_FirstClash.l0 k a0 a1 0) else (some ((-1), (-1))))))
end Go.Proofs.Ytebgaiokpncacaa.Fns
