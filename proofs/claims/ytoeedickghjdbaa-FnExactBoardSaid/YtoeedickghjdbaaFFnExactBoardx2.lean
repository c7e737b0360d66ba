/- The functions that the law FnExactBoard reaches, by the engine. Printed by a program of this seat. -/
import Derived.Test.YtoeedickghjdbaaE5
import Derived.Test.YtoeedickghjdbaaProg
import Derived.Test.YtoeedickghjdbaaFFnExactBoardx1
namespace Go.Proofs.Ytoeedickghjdbaa.Fns
open Go.Proofs.Try Go.Proofs.Ytoeedickghjdbaa.Eng Go.RowKit
set_option maxRecDepth 100000
set_option linter.unusedVariables false
set_option linter.unusedSimpArgs false
theorem impl_TableOk.lab : ∀ k, (∀ (a0 : (List S28)) (x1 : Int) (r : Bool), impl_TableOk.l0 k a0 x1 = some r → J prog (.run 21 [] [l_ 58, b_ 0, c_ 15] [(0, (.sl true a0.length 2 (a0.flatMap (e28 true)))), (8, (.sl true a0.length 2 (a0.flatMap (e28 true)))), (9, (I (a0.length : Int))), (10, (I x1))] [] (B r) []))
 | 0 => (by intro a0 x1 r h; unfold impl_TableOk.l0 at h; cases h)
 | k + 1 => by
  have ih0 := impl_TableOk.lab k
  · intro a0 x1 r h
    unfold impl_TableOk.l0 at h
    refine .loop' [c_ 232, c_ 233, l_ 58, b_ 0, c_ 15] ?_
    refine .reg' [0, 8, 9, 10, 11] [] ⟨[(0, (.sl true a0.length 2 (a0.flatMap (e28 true)))), (8, (.sl true a0.length 2 (a0.flatMap (e28 true)))), (9, (I (a0.length : Int))), (10, (I x1)), (11, (B (decide (x1 < (a0.length : Int)))))], [], [], []⟩ [c_ 466, c_ 467, l_ 58, b_ 0, c_ 15] aln nocal ?_
    by_cases c2 : x1 < (a0.length : Int)
    · rw [if_pos c2] at h
      refine .cond' (.tmp 11) true [c_ 3736, c_ 3737, b_ 1, c_ 935, l_ 58, b_ 0, c_ 15] (bT (dT c2)) ?_
      by_cases c3 : 0 ≤ x1
      · rw [if_pos c3] at h
        refine .reg' [0, 3, 4, 8, 9, 10] [.no, .no, .v (.ag [(S (at_ a0 x1).f0), (.sl true (at_ a0 x1).f1.length 3 ((at_ a0 x1).f1.flatMap e54))])] ⟨[(0, (.sl true a0.length 2 (a0.flatMap (e28 true)))), (3, (I x1)), (4, (.pt 1539 0 2)), (8, (.sl true a0.length 2 (a0.flatMap (e28 true)))), (9, (I (a0.length : Int))), (10, (I x1))], [(1539, [(S (at_ a0 x1).f0), (.sl true (at_ a0 x1).f1.length 3 ((at_ a0 x1).f1.flatMap e54))])], [(0 : Int) ≤ x1 ∧ x1 < (a0.length : Int), rdC prog 29 ((a0.flatMap (e28 true)).drop (x1.toNat * 2)) = (.ag [(S (at_ a0 x1).f0), (.sl true (at_ a0 x1).f1.length 3 ((at_ a0 x1).f1.flatMap e54))]), 2 ≤ ((a0.flatMap (e28 true)).drop (x1.toNat * 2)).length, 2 = 2 ∧ 0 + 2 ≤ 2], []⟩ [c_ 7474, c_ 7475, b_ 1, c_ 935, l_ 58, b_ 0, c_ 15] (alc ⟨c3, c2⟩ (alc (ldA (e28_ok true) rfl rfl c3 c2) (alc (okI (e28_ok true) c3 c2 (by decide)) (alc ⟨rfl, by decide⟩ aln)))) nocal ?_
        obtain ⟨x2, hx2, h⟩ := Option.bind_eq_some_iff.mp h
        by_cases c4 : x2 = true
        · rw [if_pos c4] at h
          by_cases c5 : x1 ≤ (a0.length : Int)
          · rw [if_pos c5] at h
            obtain ⟨x3, hx3, h⟩ := Option.bind_eq_some_iff.mp h
            refine .reg' [0, 8, 9, 10, 26] [.no, .c ⟨14, [(.ag [(S (at_ a0 x1).f0), (.sl true (at_ a0 x1).f1.length 3 ((at_ a0 x1).f1.flatMap e54))])], [], (B x2), [], [], [], [], (B x2), []⟩, .no, .v (B false), .no, .no, .v (.sl true ((a0.drop (0 : Int).toNat).take (x1.toNat - (0 : Int).toNat)).length 2 (((a0.drop (0 : Int).toNat).take (x1.toNat - (0 : Int).toNat)).flatMap (e28 true))), .no, .no, .c ⟨47, [(.sl true ((a0.drop (0 : Int).toNat).take (x1.toNat - (0 : Int).toNat)).length 2 (((a0.drop (0 : Int).toNat).take (x1.toNat - (0 : Int).toNat)).flatMap (e28 true))), (S (at_ a0 x1).f0)], [], (I x3), [], [], [], [], (I x3), []⟩] ⟨[(0, (.sl true a0.length 2 (a0.flatMap (e28 true)))), (8, (.sl true a0.length 2 (a0.flatMap (e28 true)))), (9, (I (a0.length : Int))), (10, (I x1)), (26, (B (decide (x3 ≥ 0))))], [(1539, [(S (at_ a0 x1).f0), (.sl true (at_ a0 x1).f1.length 3 ((at_ a0 x1).f1.flatMap e54))])], [2 = 2 ∧ 0 + 2 ≤ 2, COK (hget [(1539, [(S (at_ a0 x1).f0), (.sl true (at_ a0 x1).f1.length 3 ((at_ a0 x1).f1.flatMap e54))])]) [(.ag [(S (at_ a0 x1).f0), (.sl true (at_ a0 x1).f1.length 3 ((at_ a0 x1).f1.flatMap e54))])] ⟨14, [(.ag [(S (at_ a0 x1).f0), (.sl true (at_ a0 x1).f1.length 3 ((at_ a0 x1).f1.flatMap e54))])], [], (B x2), [], [], [], [], (B x2), []⟩, (B (!x2) : V) = B false, V.sl true (x1.toNat - (0 : Int).toNat) 2 (((a0.flatMap (e28 true)).drop ((0 : Int).toNat * 2)).take ((x1.toNat - (0 : Int).toNat) * 2)) = (.sl true ((a0.drop (0 : Int).toNat).take (x1.toNat - (0 : Int).toNat)).length 2 (((a0.drop (0 : Int).toNat).take (x1.toNat - (0 : Int).toNat)).flatMap (e28 true))), 0 ≤ (0 : Int) ∧ 0 ≤ x1 ∧ x1 ≤ (a0.length : Int), 2 = 2 ∧ 0 + 1 ≤ 2, COK (hget [(1539, [(S (at_ a0 x1).f0), (.sl true (at_ a0 x1).f1.length 3 ((at_ a0 x1).f1.flatMap e54))])]) [(.sl true ((a0.drop (0 : Int).toNat).take (x1.toNat - (0 : Int).toNat)).length 2 (((a0.drop (0 : Int).toNat).take (x1.toNat - (0 : Int).toNat)).flatMap (e28 true))), (S (at_ a0 x1).f0)] ⟨47, [(.sl true ((a0.drop (0 : Int).toNat).take (x1.toNat - (0 : Int).toNat)).length 2 (((a0.drop (0 : Int).toNat).take (x1.toNat - (0 : Int).toNat)).flatMap (e28 true))), (S (at_ a0 x1).f0)], [], (I x3), [], [], [], [], (I x3), []⟩], [⟨14, [(.ag [(S (at_ a0 x1).f0), (.sl true (at_ a0 x1).f1.length 3 ((at_ a0 x1).f1.flatMap e54))])], [], (B x2), [], [], [], [], (B x2), []⟩, ⟨47, [(.sl true ((a0.drop (0 : Int).toNat).take (x1.toNat - (0 : Int).toNat)).length 2 (((a0.drop (0 : Int).toNat).take (x1.toNat - (0 : Int).toNat)).flatMap (e28 true))), (S (at_ a0 x1).f0)], [], (I x3), [], [], [], [], (I x3), []⟩]⟩ [c_ 7475, b_ 1, c_ 935, l_ 58, b_ 0, c_ 15] (alc ⟨rfl, by decide⟩ (alc (cok0 false (a2c (.z (frz_ag (a2c .s (a2c (frz_sl e54_ok (fun h => h)) a2n)))) a2n) (.z .s) (fun h => absurd h (by decide))) (alc (bF (nF c4)) (alc (slS (e28_ok true) (by omega) (by omega)) (alc ⟨(by decide), c3, c5⟩ (alc ⟨rfl, by decide⟩ (alc (cok0 false (a2c (.z (frz_sl (e28_ok true) (fun h => h))) (a2c (.z .s) a2n)) (.z .s) (fun h => absurd h (by decide))) aln))))))) (acal (impl_TripOk.J k (at_ a0 x1) _ hx2) (acal (impl_tripNamed.J k ((a0.drop (0 : Int).toNat).take (x1.toNat - (0 : Int).toNat)) ((at_ a0 x1).f0) _ hx3) nocal)) ?_
            by_cases c6 : x3 ≥ 0
            · rw [if_pos c6] at h
              refine .cond' (.tmp 26) true [c_ 29900, c_ 29901, b_ 1, c_ 935, l_ 58, b_ 0, c_ 15] (bT (dT c6)) ?_
              refine .reg' [2] [] ⟨[(2, (B false))], [(1539, [(S (at_ a0 x1).f0), (.sl true (at_ a0 x1).f1.length 3 ((at_ a0 x1).f1.flatMap e54))])], [], []⟩ [c_ 29901, b_ 1, c_ 935, l_ 58, b_ 0, c_ 15] aln nocal ?_
              have h := Option.some.inj h
              subst h
              exact .fin0 [] (B false) [] aln (.z .s)
            · rw [if_neg c6] at h
              refine .cond' (.tmp 26) false [c_ 935, l_ 58, b_ 0, c_ 15] (bF (dF c6)) ?_
              refine .reg' [0, 8, 9, 10] [] ⟨[(0, (.sl true a0.length 2 (a0.flatMap (e28 true)))), (8, (.sl true a0.length 2 (a0.flatMap (e28 true)))), (9, (I (a0.length : Int))), (10, (I (wrap64 (x1 + 1))))], [(1539, [(S (at_ a0 x1).f0), (.sl true (at_ a0 x1).f1.length 3 ((at_ a0 x1).f1.flatMap e54))])], [], []⟩ [l_ 58, b_ 0, c_ 15] aln nocal ?_
              refine .wk' [] [] [(0, (.sl true a0.length 2 (a0.flatMap (e28 true)))), (8, (.sl true a0.length 2 (a0.flatMap (e28 true)))), (9, (I (a0.length : Int))), (10, (I (wrap64 (x1 + 1))))] [] shn (enc_ (.z (frz_sl (e28_ok true) (fun h => h))) (enc_ (.z (frz_sl (e28_ok true) (fun h => h))) (enc_ (.z .s) (enc_ (.z .s) enn)))) ?_
              exact ih0 a0 (wrap64 (x1 + 1)) _ h
          · rw [if_neg c5] at h
            cases h
        · rw [if_neg c4] at h
          refine .reg' [0, 8, 9, 10, 26] [.no, .c ⟨14, [(.ag [(S (at_ a0 x1).f0), (.sl true (at_ a0 x1).f1.length 3 ((at_ a0 x1).f1.flatMap e54))])], [], (B x2), [], [], [], [], (B x2), []⟩, .no, .v (B true)] ⟨[(0, (.sl true a0.length 2 (a0.flatMap (e28 true)))), (8, (.sl true a0.length 2 (a0.flatMap (e28 true)))), (9, (I (a0.length : Int))), (10, (I x1)), (26, (B true))], [(1539, [(S (at_ a0 x1).f0), (.sl true (at_ a0 x1).f1.length 3 ((at_ a0 x1).f1.flatMap e54))])], [2 = 2 ∧ 0 + 2 ≤ 2, COK (hget [(1539, [(S (at_ a0 x1).f0), (.sl true (at_ a0 x1).f1.length 3 ((at_ a0 x1).f1.flatMap e54))])]) [(.ag [(S (at_ a0 x1).f0), (.sl true (at_ a0 x1).f1.length 3 ((at_ a0 x1).f1.flatMap e54))])] ⟨14, [(.ag [(S (at_ a0 x1).f0), (.sl true (at_ a0 x1).f1.length 3 ((at_ a0 x1).f1.flatMap e54))])], [], (B x2), [], [], [], [], (B x2), []⟩, (B (!x2) : V) = B true], [⟨14, [(.ag [(S (at_ a0 x1).f0), (.sl true (at_ a0 x1).f1.length 3 ((at_ a0 x1).f1.flatMap e54))])], [], (B x2), [], [], [], [], (B x2), []⟩]⟩ [c_ 7475, b_ 1, c_ 935, l_ 58, b_ 0, c_ 15] (alc ⟨rfl, by decide⟩ (alc (cok0 false (a2c (.z (frz_ag (a2c .s (a2c (frz_sl e54_ok (fun h => h)) a2n)))) a2n) (.z .s) (fun h => absurd h (by decide))) (alc (bT (nT (vF c4))) aln))) (acal (impl_TripOk.J k (at_ a0 x1) _ hx2) nocal) ?_
          refine .cond' (.tmp 26) true [c_ 29900, c_ 29901, b_ 1, c_ 935, l_ 58, b_ 0, c_ 15] (rfl) ?_
          refine .reg' [2] [] ⟨[(2, (B false))], [(1539, [(S (at_ a0 x1).f0), (.sl true (at_ a0 x1).f1.length 3 ((at_ a0 x1).f1.flatMap e54))])], [], []⟩ [c_ 29901, b_ 1, c_ 935, l_ 58, b_ 0, c_ 15] aln nocal ?_
          have h := Option.some.inj h
          subst h
          exact .fin0 [] (B false) [] aln (.z .s)
      · rw [if_neg c3] at h
        cases h
    · rw [if_neg c2] at h
      refine .cond' (.tmp 11) false [c_ 30, c_ 31] (bF (dF c2)) ?_
      refine .reg' [2] [] ⟨[(2, (B true))], [], [], []⟩ [c_ 31] aln nocal ?_
      have h := Option.some.inj h
      subst h
      exact .fin0 [] (B true) [] aln (.z .s)
theorem impl_TableOk.J (k : Nat) (a0 : (List S28)) (r : Bool) (h : impl_TableOk.f k a0 = some r) : J prog (.call 21 [(.sl true a0.length 2 (a0.flatMap (e28 true)))] [] (B r) []) := by
  unfold impl_TableOk.f at h
  have ih0 := impl_TableOk.lab k
  refine .call' [c_ 2, c_ 3] ?_
  refine .reg' [0] [] ⟨[(0, (.sl true a0.length 2 (a0.flatMap (e28 true))))], [], [], []⟩ [c_ 12, c_ 13, c_ 7] aln nocal ?_
  refine .reg' [0, 7] [] ⟨[(0, (.sl true a0.length 2 (a0.flatMap (e28 true)))), (7, (B (decide ((a0.length : Int) > 24))))], [], [], []⟩ [c_ 13, c_ 7] aln nocal ?_
  by_cases c1 : (a0.length : Int) > 24
  · rw [if_pos c1] at h
    refine .cond' (.tmp 7) true [c_ 52, c_ 53, c_ 7] (bT (dT c1)) ?_
    refine .reg' [2] [] ⟨[(2, (B false))], [], [], []⟩ [c_ 53, c_ 7] aln nocal ?_
    have h := Option.some.inj h
    subst h
    exact .fin0 [] (B false) [] aln (.z .s)
  · rw [if_neg c1] at h
    refine .cond' (.tmp 7) false [c_ 28, c_ 29, c_ 15] (bF (dF c1)) ?_
    refine .reg' [0, 8, 9, 10] [] ⟨[(0, (.sl true a0.length 2 (a0.flatMap (e28 true)))), (8, (.sl true a0.length 2 (a0.flatMap (e28 true)))), (9, (I (a0.length : Int))), (10, (I 0))], [], [], []⟩ [l_ 58, b_ 0, c_ 15] aln nocal ?_
    exact ih0 a0 0 _ h
/-! cmp_isNaN: function 66 -/
def cmp_isNaN.f (a0 : Int) : Option Bool := (some (!(a0 == a0)))
theorem cmp_isNaN.J (a0 : Int) (r : Bool) (h : cmp_isNaN.f a0 = some r) : J prog (.call 66 [(I a0)] [] (B r) []) := by
  unfold cmp_isNaN.f at h
  refine .call' [c_ 2, c_ 3] ?_
  refine .reg' [0] [] ⟨[(0, (I a0))], [], [], []⟩ [c_ 6, c_ 7] aln nocal ?_
  refine .reg' [2] [] ⟨[(2, (B (!(a0 == a0))))], [], [], []⟩ [c_ 7] aln nocal ?_
  have h := Option.some.inj h
  subst h
  exact .fin0 [] (B (!(a0 == a0))) [] aln (.z .s)
/-! cmp_Compare: function 54 -/
def cmp_Compare.f (a0 : Int) (a1 : Int) : Option Int := ((cmp_isNaN.f a0).bind fun x1 => ((cmp_isNaN.f a1).bind fun x2 => (if x1 = true then (if x2 = true then (some 0) else (some (-1))) else (if x2 = true then (some 1) else (if a0 < a1 then (some (-1)) else (if a0 > a1 then (some 1) else (some 0)))))))
theorem cmp_Compare.J (a0 : Int) (a1 : Int) (r : Int) (h : cmp_Compare.f a0 a1 = some r) : J prog (.call 54 [(I a0), (I a1)] [] (I r) []) := by
  unfold cmp_Compare.f at h
  refine .call' [c_ 2, c_ 3] ?_
  refine .reg' [0, 1] [] ⟨[(0, (I a0)), (1, (I a1))], [], [], []⟩ [c_ 6, c_ 7] aln nocal ?_
  obtain ⟨x1, hx1, h⟩ := Option.bind_eq_some_iff.mp h
  refine .reg' [0, 1, 5] [.no, .c ⟨66, [(I a0)], [], (B x1), [], [], [], [], (B x1), []⟩] ⟨[(0, (I a0)), (1, (I a1)), (5, (B x1))], [], [COK (hget []) [(I a0)] ⟨66, [(I a0)], [], (B x1), [], [], [], [], (B x1), []⟩], [⟨66, [(I a0)], [], (B x1), [], [], [], [], (B x1), []⟩]⟩ [c_ 14, c_ 15] (alc (cok0 false (a2c (.z .s) a2n) (.z .s) (fun h => absurd h (by decide))) aln) (acal (cmp_isNaN.J a0 _ hx1) nocal) ?_
  obtain ⟨x2, hx2, h⟩ := Option.bind_eq_some_iff.mp h
  refine .reg' [0, 1, 5, 6] [.no, .c ⟨66, [(I a1)], [], (B x2), [], [], [], [], (B x2), []⟩] ⟨[(0, (I a0)), (1, (I a1)), (5, (B x1)), (6, (B x2))], [], [COK (hget []) [(I a1)] ⟨66, [(I a1)], [], (B x2), [], [], [], [], (B x2), []⟩], [⟨66, [(I a1)], [], (B x2), [], [], [], [], (B x2), []⟩]⟩ [c_ 60, c_ 61, c_ 31] (alc (cok0 false (a2c (.z .s) a2n) (.z .s) (fun h => absurd h (by decide))) aln) (acal (cmp_isNaN.J a1 _ hx2) nocal) ?_
  refine .reg' [0, 1, 6, 11] [] ⟨[(0, (I a0)), (1, (I a1)), (6, (B x2)), (11, (B x1))], [], [], []⟩ [c_ 61, c_ 31] aln nocal ?_
  by_cases c1 : x1 = true
  · rw [if_pos c1] at h
    refine .cond' (.tmp 11) true [c_ 488, c_ 489, c_ 245, c_ 31] (bT c1) ?_
    refine .reg' [12] [] ⟨[(12, (B x2))], [], [], []⟩ [c_ 489, c_ 245, c_ 31] aln nocal ?_
    by_cases c2 : x2 = true
    · rw [if_pos c2] at h
      refine .cond' (.tmp 12) true [c_ 1956, c_ 1957, c_ 245, c_ 31] (bT c2) ?_
      refine .reg' [4] [] ⟨[(4, (I 0))], [], [], []⟩ [c_ 1957, c_ 245, c_ 31] aln nocal ?_
      have h := Option.some.inj h
      subst h
      exact .fin0 [] (I 0) [] aln (.z .s)
    · rw [if_neg c2] at h
      refine .cond' (.tmp 12) false [c_ 490, c_ 491, c_ 31] (bF (vF c2)) ?_
      refine .reg' [4] [] ⟨[(4, (I (-1)))], [], [], []⟩ [c_ 491, c_ 31] aln nocal ?_
      have h := Option.some.inj h
      subst h
      exact .fin0 [] (I (-1)) [] aln (.z .s)
  · rw [if_neg c1] at h
    refine .cond' (.tmp 11) false [c_ 124, c_ 125, c_ 63] (bF (vF c1)) ?_
    refine .reg' [0, 1, 13] [] ⟨[(0, (I a0)), (1, (I a1)), (13, (B x2))], [], [], []⟩ [c_ 125, c_ 63] aln nocal ?_
    by_cases c3 : x2 = true
    · rw [if_pos c3] at h
      refine .cond' (.tmp 13) true [c_ 500, c_ 501, c_ 63] (bT c3) ?_
      refine .reg' [4] [] ⟨[(4, (I 1))], [], [], []⟩ [c_ 501, c_ 63] aln nocal ?_
      have h := Option.some.inj h
      subst h
      exact .fin0 [] (I 1) [] aln (.z .s)
    · rw [if_neg c3] at h
      refine .cond' (.tmp 13) false [c_ 252, c_ 253, c_ 127] (bF (vF c3)) ?_
      refine .reg' [0, 1, 16] [] ⟨[(0, (I a0)), (1, (I a1)), (16, (B (decide (a0 < a1))))], [], [], []⟩ [c_ 253, c_ 127] aln nocal ?_
      by_cases c4 : a0 < a1
      · rw [if_pos c4] at h
        refine .cond' (.tmp 16) true [c_ 1012, c_ 1013, c_ 127] (bT (dT c4)) ?_
        refine .reg' [4] [] ⟨[(4, (I (-1)))], [], [], []⟩ [c_ 1013, c_ 127] aln nocal ?_
        have h := Option.some.inj h
        subst h
        exact .fin0 [] (I (-1)) [] aln (.z .s)
      · rw [if_neg c4] at h
        refine .cond' (.tmp 16) false [c_ 508, c_ 509, c_ 255] (bF (dF c4)) ?_
        refine .reg' [19] [] ⟨[(19, (B (decide (a0 > a1))))], [], [], []⟩ [c_ 509, c_ 255] aln nocal ?_
        by_cases c5 : a0 > a1
        · rw [if_pos c5] at h
          refine .cond' (.tmp 19) true [c_ 2036, c_ 2037, c_ 255] (bT (dT c5)) ?_
          refine .reg' [4] [] ⟨[(4, (I 1))], [], [], []⟩ [c_ 2037, c_ 255] aln nocal ?_
          have h := Option.some.inj h
          subst h
          exact .fin0 [] (I 1) [] aln (.z .s)
        · rw [if_neg c5] at h
          refine .cond' (.tmp 19) false [c_ 510, c_ 511] (bF (dF c5)) ?_
          refine .reg' [4] [] ⟨[(4, (I 0))], [], [], []⟩ [c_ 511] aln nocal ?_
          have h := Option.some.inj h
          subst h
          exact .fin0 [] (I 0) [] aln (.z .s)
/-! impl_Board_1: function 53 -/
def impl_Board_1.f (a0 : S58) (a1 : S58) (a2c0 : (List S28)) : Option (Int × (List S28)) := (if 0 ≤ a0.f0 then (if a0.f0 < (a2c0.length : Int) then (if 0 ≤ a0.f1 then (if a0.f1 < ((at_ a2c0 a0.f0).f1.length : Int) then (if 0 ≤ a1.f0 then (if a1.f0 < (a2c0.length : Int) then (if 0 ≤ a1.f1 then (if a1.f1 < ((at_ a2c0 a1.f0).f1.length : Int) then ((cmp_Compare.f ((at_ (at_ a2c0 a0.f0).f1 a0.f1).f2) ((at_ (at_ a2c0 a1.f0).f1 a1.f1).f2)).bind fun x1 => (some (x1, a2c0))) else none) else none) else none) else none) else none) else none) else none) else none)
theorem impl_Board_1.J (a0 : S58) (a1 : S58) (a2c0 : (List S28)) (r : (Int × (List S28))) (h : impl_Board_1.f a0 a1 a2c0 = some r) : J prog (.call 53 [(.ag [(I a0.f0), (I a0.f1)]), (.ag [(I a1.f0), (I a1.f1)]), (.pt 40 0 1)] [(40, [(.sl true a2c0.length 2 (a2c0.flatMap (e28 true)))])] (I r.1) [(40, [(.sl true r.2.length 2 (r.2.flatMap (e28 true)))])]) := by
  unfold impl_Board_1.f at h
  refine .call' [c_ 2, c_ 3] ?_
  refine .reg' [2, 3, 4] [] ⟨[(2, (.pt 40 0 1)), (3, (.pt 256 0 2)), (4, (.pt 257 0 2))], [(40, [(.sl true a2c0.length 2 (a2c0.flatMap (e28 true)))]), (256, [(I a0.f0), (I a0.f1)]), (257, [(I a1.f0), (I a1.f1)])], [], []⟩ [c_ 6, c_ 7] aln nocal ?_
  by_cases c1 : 0 ≤ a0.f0
  · rw [if_pos c1] at h
    by_cases c2 : a0.f0 < (a2c0.length : Int)
    · rw [if_pos c2] at h
      by_cases c3 : 0 ≤ a0.f1
      · rw [if_pos c3] at h
        by_cases c4 : a0.f1 < ((at_ a2c0 a0.f0).f1.length : Int)
        · rw [if_pos c4] at h
          by_cases c5 : 0 ≤ a1.f0
          · rw [if_pos c5] at h
            by_cases c6 : a1.f0 < (a2c0.length : Int)
            · rw [if_pos c6] at h
              by_cases c7 : 0 ≤ a1.f1
              · rw [if_pos c7] at h
                by_cases c8 : a1.f1 < ((at_ a2c0 a1.f0).f1.length : Int)
                · rw [if_pos c8] at h
                  obtain ⟨x1, hx1, h⟩ := Option.bind_eq_some_iff.mp h
                  refine .reg' [5] [.no, .no, .no, .no, .no, .v (.sl true (at_ a2c0 a0.f0).f1.length 3 ((at_ a2c0 a0.f0).f1.flatMap e54)), .no, .no, .no, .no, .v (I (at_ (at_ a2c0 a0.f0).f1 a0.f1).f2), .no, .no, .no, .no, .no, .v (.sl true (at_ a2c0 a1.f0).f1.length 3 ((at_ a2c0 a1.f0).f1.flatMap e54)), .no, .no, .no, .no, .v (I (at_ (at_ a2c0 a1.f0).f1 a1.f1).f2), .c ⟨54, [(I (at_ (at_ a2c0 a0.f0).f1 a0.f1).f2), (I (at_ (at_ a2c0 a1.f0).f1 a1.f1).f2)], [], (I x1), [], [], [], [], (I x1), []⟩] ⟨[(5, (I x1))], [(40, [(.sl true a2c0.length 2 (a2c0.flatMap (e28 true)))]), (256, [(I a0.f0), (I a0.f1)]), (257, [(I a1.f0), (I a1.f1)])], [1 = 1 ∧ 0 + 1 ≤ 1, 2 = 2 ∧ 0 + 1 ≤ 2, (0 : Int) ≤ a0.f0 ∧ a0.f0 < (a2c0.length : Int), rdC prog 27 (((a2c0.flatMap (e28 true)).drop (a0.f0.toNat * 2)).drop 1) = (.sl true (at_ a2c0 a0.f0).f1.length 3 ((at_ a2c0 a0.f0).f1.flatMap e54)), 1 ≤ (((a2c0.flatMap (e28 true)).drop (a0.f0.toNat * 2)).drop 1).length, 2 = 2 ∧ 1 + 1 ≤ 2, (0 : Int) ≤ a0.f1 ∧ a0.f1 < ((at_ a2c0 a0.f0).f1.length : Int), rdC prog 3 ((((at_ a2c0 a0.f0).f1.flatMap e54).drop (a0.f1.toNat * 3)).drop 2) = (I (at_ (at_ a2c0 a0.f0).f1 a0.f1).f2), 1 ≤ ((((at_ a2c0 a0.f0).f1.flatMap e54).drop (a0.f1.toNat * 3)).drop 2).length, 1 = 1 ∧ 0 + 1 ≤ 1, 2 = 2 ∧ 0 + 1 ≤ 2, (0 : Int) ≤ a1.f0 ∧ a1.f0 < (a2c0.length : Int), rdC prog 27 (((a2c0.flatMap (e28 true)).drop (a1.f0.toNat * 2)).drop 1) = (.sl true (at_ a2c0 a1.f0).f1.length 3 ((at_ a2c0 a1.f0).f1.flatMap e54)), 1 ≤ (((a2c0.flatMap (e28 true)).drop (a1.f0.toNat * 2)).drop 1).length, 2 = 2 ∧ 1 + 1 ≤ 2, (0 : Int) ≤ a1.f1 ∧ a1.f1 < ((at_ a2c0 a1.f0).f1.length : Int), rdC prog 3 ((((at_ a2c0 a1.f0).f1.flatMap e54).drop (a1.f1.toNat * 3)).drop 2) = (I (at_ (at_ a2c0 a1.f0).f1 a1.f1).f2), 1 ≤ ((((at_ a2c0 a1.f0).f1.flatMap e54).drop (a1.f1.toNat * 3)).drop 2).length, COK (hget [(40, [(.sl true a2c0.length 2 (a2c0.flatMap (e28 true)))]), (256, [(I a0.f0), (I a0.f1)]), (257, [(I a1.f0), (I a1.f1)])]) [(I (at_ (at_ a2c0 a0.f0).f1 a0.f1).f2), (I (at_ (at_ a2c0 a1.f0).f1 a1.f1).f2)] ⟨54, [(I (at_ (at_ a2c0 a0.f0).f1 a0.f1).f2), (I (at_ (at_ a2c0 a1.f0).f1 a1.f1).f2)], [], (I x1), [], [], [], [], (I x1), []⟩], [⟨54, [(I (at_ (at_ a2c0 a0.f0).f1 a0.f1).f2), (I (at_ (at_ a2c0 a1.f0).f1 a1.f1).f2)], [], (I x1), [], [], [], [], (I x1), []⟩]⟩ [c_ 7] (alc ⟨rfl, by decide⟩ (alc ⟨rfl, by decide⟩ (alc ⟨c1, c2⟩ (alc (ldC (e28_ok true) 1 (by decide) rfl c1 c2) (alc (okIj (e28_ok true) c1 c2 (by decide)) (alc ⟨rfl, by decide⟩ (alc ⟨c3, c4⟩ (alc (ldC e54_ok 2 (by decide) rfl c3 c4) (alc (okIj e54_ok c3 c4 (by decide)) (alc ⟨rfl, by decide⟩ (alc ⟨rfl, by decide⟩ (alc ⟨c5, c6⟩ (alc (ldC (e28_ok true) 1 (by decide) rfl c5 c6) (alc (okIj (e28_ok true) c5 c6 (by decide)) (alc ⟨rfl, by decide⟩ (alc ⟨c7, c8⟩ (alc (ldC e54_ok 2 (by decide) rfl c7 c8) (alc (okIj e54_ok c7 c8 (by decide)) (alc (cok0 false (a2c (.z .s) (a2c (.z .s) a2n)) (.z .s) (fun h => absurd h (by decide))) aln))))))))))))))))))) (acal (cmp_Compare.J ((at_ (at_ a2c0 a0.f0).f1 a0.f1).f2) ((at_ (at_ a2c0 a1.f0).f1 a1.f1).f2) _ hx1) nocal) ?_
                  have h := Option.some.inj h
                  subst h
                  exact .fin' [] [(40, 40)] (I x1) [] aln (shc 40 (a2c (.z (frz_sl (e28_ok true) (fun h => h))) a2n) shn) (.z .s)
                · rw [if_neg c8] at h
                  cases h
              · rw [if_neg c7] at h
                cases h
            · rw [if_neg c6] at h
              cases h
          · rw [if_neg c5] at h
            cases h
        · rw [if_neg c4] at h
          cases h
      · rw [if_neg c3] at h
        cases h
    · rw [if_neg c2] at h
      cases h
  · rw [if_neg c1] at h
    cases h
/-! slices_insertionSortCmpFunc_1: function 72 -/
mutual
def slices_insertionSortCmpFunc_1.l0 : Nat → Int → Int → (List S58) → (List S28) → Int → Option ((List S58) × (List S28))
 | 0, _, _, _, _, _ => none
 | k + 1, a1, a2, x1, x2, x3 => (if x3 < a2 then (slices_insertionSortCmpFunc_1.l1 k a1 a2 x3 x1 x2 x3) else (some (x1, x2)))
def slices_insertionSortCmpFunc_1.l1 : Nat → Int → Int → Int → (List S58) → (List S28) → Int → Option ((List S58) × (List S28))
 | 0, _, _, _, _, _, _ => none
 | k + 1, a1, a2, x3, x4, x5, x6 => (if x6 > a1 then (if 0 ≤ x6 then (if x6 < (x4.length : Int) then (if 0 ≤ (wrap64 (x6 - 1)) then (if (wrap64 (x6 - 1)) < (x4.length : Int) then ((impl_Board_1.f (at_ x4 x6) (at_ x4 (wrap64 (x6 - 1))) x5).bind fun x7 => (if x7.1 < 0 then (slices_insertionSortCmpFunc_1.l1 k a1 a2 x3 ((x4.set x6.toNat (at_ x4 (wrap64 (x6 - 1)))).set (wrap64 (x6 - 1)).toNat (at_ x4 x6)) x7.2 (wrap64 (x6 - 1))) else (slices_insertionSortCmpFunc_1.l0 k a1 a2 x4 x7.2 (wrap64 (x3 + 1))))) else none) else none) else none) else none) else (slices_insertionSortCmpFunc_1.l0 k a1 a2 x4 x5 (wrap64 (x3 + 1))))
end
def slices_insertionSortCmpFunc_1.f (k : Nat) (a0 : (List S58)) (a1 : Int) (a2 : Int) (a3c0 : (List S28)) : Option ((List S58) × (List S28)) := (slices_insertionSortCmpFunc_1.l0 k a1 a2 a0 a3c0 (wrap64 (a1 + 1)))
theorem slices_insertionSortCmpFunc_1.lab : ∀ k, (∀ (a1 : Int) (a2 : Int) (x1 : (List S58)) (x2 : (List S28)) (x3 : Int) (r : ((List S58) × (List S28))), slices_insertionSortCmpFunc_1.l0 k a1 a2 x1 x2 x3 = some r → J prog (.run 72 [0, 56] [l_ 6, b_ 0] [(0, (.rf 0 0 x1.length 2 (x1.length * 2))), (1, (I a1)), (2, (I a2)), (3, (.fn (.func 53) [] [(.pt 56 0 1)])), (8, (I x3))] [(0, (x1.flatMap e58)), (56, [(.sl true x2.length 2 (x2.flatMap (e28 true)))])] (.tp []) [(0, (r.1.flatMap e58)), (56, [(.sl true r.2.length 2 (r.2.flatMap (e28 true)))])])) ∧ (∀ (a1 : Int) (a2 : Int) (x3 : Int) (x4 : (List S58)) (x5 : (List S28)) (x6 : Int) (r : ((List S58) × (List S28))), slices_insertionSortCmpFunc_1.l1 k a1 a2 x3 x4 x5 x6 = some r → J prog (.run 72 [0, 56] [l_ 402, b_ 2, b_ 1, c_ 51, l_ 6, b_ 0] [(0, (.rf 0 0 x4.length 2 (x4.length * 2))), (1, (I a1)), (2, (I a2)), (3, (.fn (.func 53) [] [(.pt 56 0 1)])), (8, (I x3)), (9, (I x6))] [(0, (x4.flatMap e58)), (56, [(.sl true x5.length 2 (x5.flatMap (e28 true)))])] (.tp []) [(0, (r.1.flatMap e58)), (56, [(.sl true r.2.length 2 (r.2.flatMap (e28 true)))])]))
 | 0 => ⟨(by intro a1 a2 x1 x2 x3 r h; unfold slices_insertionSortCmpFunc_1.l0 at h; cases h), (by intro a1 a2 x3 x4 x5 x6 r h; unfold slices_insertionSortCmpFunc_1.l1 at h; cases h)⟩
 | k + 1 => by
  obtain ⟨ih0, ih1⟩ := slices_insertionSortCmpFunc_1.lab k
  refine ⟨?_, ?_⟩
  · intro a1 a2 x1 x2 x3 r h
    unfold slices_insertionSortCmpFunc_1.l0 at h
    refine .loop' [c_ 48, c_ 49, c_ 25, l_ 6, b_ 0] ?_
    refine .reg' [0, 1, 2, 3, 8, 14] [] ⟨[(0, (.rf 0 0 x1.length 2 (x1.length * 2))), (1, (I a1)), (2, (I a2)), (3, (.fn (.func 53) [] [(.pt 56 0 1)])), (8, (I x3)), (14, (B (decide (x3 < a2))))], [(0, (x1.flatMap e58)), (56, [(.sl true x2.length 2 (x2.flatMap (e28 true)))])], [], []⟩ [c_ 49, c_ 25, l_ 6, b_ 0] aln nocal ?_
    by_cases c1 : x3 < a2
    · rw [if_pos c1] at h
      refine .cond' (.tmp 14) true [c_ 200, c_ 201, b_ 1, c_ 51, l_ 6, b_ 0] (bT (dT c1)) ?_
      refine .reg' [0, 1, 2, 3, 8, 9] [] ⟨[(0, (.rf 0 0 x1.length 2 (x1.length * 2))), (1, (I a1)), (2, (I a2)), (3, (.fn (.func 53) [] [(.pt 56 0 1)])), (8, (I x3)), (9, (I x3))], [(0, (x1.flatMap e58)), (56, [(.sl true x2.length 2 (x2.flatMap (e28 true)))])], [], []⟩ [l_ 402, b_ 2, b_ 1, c_ 51, l_ 6, b_ 0] aln nocal ?_
      exact ih1 a1 a2 x3 x1 x2 x3 _ h
    · rw [if_neg c1] at h
      refine .cond' (.tmp 14) false [] (bF (dF c1)) ?_
      have h := Option.some.inj h
      subst h
      exact .fin' [] [(0, 0), (56, 56)] (.tp []) [] aln (shc 0 (rowF e58_ok _) (shc 56 (a2c (.z (frz_sl (e28_ok true) (fun h => h))) a2n) shn)) (cnv_tp a2n)
  · intro a1 a2 x3 x4 x5 x6 r h
    unfold slices_insertionSortCmpFunc_1.l1 at h
    refine .loop' [c_ 3216, c_ 3217, c_ 1609, l_ 402, b_ 2, b_ 1, c_ 51, l_ 6, b_ 0] ?_
    by_cases c2 : x6 > a1
    · rw [if_pos c2] at h
      by_cases c3 : 0 ≤ x6
      · rw [if_pos c3] at h
        by_cases c4 : x6 < (x4.length : Int)
        · rw [if_pos c4] at h
          by_cases c5 : 0 ≤ (wrap64 (x6 - 1))
          · rw [if_pos c5] at h
            by_cases c6 : (wrap64 (x6 - 1)) < (x4.length : Int)
            · rw [if_pos c6] at h
              obtain ⟨x7, hx7, h⟩ := Option.bind_eq_some_iff.mp h
              refine .reg' [0, 1, 2, 3, 8, 9, 34] [.no, .no, .no, .v (B true), .no, .no, .no, .no, .v (.ag [(I (at_ x4 x6).f0), (I (at_ x4 x6).f1)]), .no, .no, .no, .no, .v (.ag [(I (at_ x4 (wrap64 (x6 - 1))).f0), (I (at_ x4 (wrap64 (x6 - 1))).f1)]), .c ⟨53, [(.ag [(I (at_ x4 x6).f0), (I (at_ x4 x6).f1)]), (.ag [(I (at_ x4 (wrap64 (x6 - 1))).f0), (I (at_ x4 (wrap64 (x6 - 1))).f1)]), (.pt 40 0 1)], [(40, [(.sl true x5.length 2 (x5.flatMap (e28 true)))])], (I x7.1), [(40, [(.sl true x7.2.length 2 (x7.2.flatMap (e28 true)))])], [], [(56, 40)], [(56, 40)], (I x7.1), [(56, [(.sl true x7.2.length 2 (x7.2.flatMap (e28 true)))])]⟩] ⟨[(0, (.rf 0 0 x4.length 2 (x4.length * 2))), (1, (I a1)), (2, (I a2)), (3, (.fn (.func 53) [] [(.pt 56 0 1)])), (8, (I x3)), (9, (I x6)), (34, (B (decide (x7.1 < 0))))], [(0, (x4.flatMap e58)), (56, [(.sl true x7.2.length 2 (x7.2.flatMap (e28 true)))])], [(B (decide (x6 > a1)) : V) = B true, (0 : Int) ≤ x6 ∧ x6 < (x4.length : Int), rdC prog 59 ((x4.flatMap e58).drop (0 + x6.toNat * 2)) = (.ag [(I (at_ x4 x6).f0), (I (at_ x4 x6).f1)]), x4.length * 2 = (x4.flatMap e58).length ∧ 0 + x6.toNat * 2 + 2 ≤ (x4.flatMap e58).length, (0 : Int) ≤ (wrap64 (x6 - 1)) ∧ (wrap64 (x6 - 1)) < (x4.length : Int), rdC prog 59 ((x4.flatMap e58).drop (0 + (wrap64 (x6 - 1)).toNat * 2)) = (.ag [(I (at_ x4 (wrap64 (x6 - 1))).f0), (I (at_ x4 (wrap64 (x6 - 1))).f1)]), x4.length * 2 = (x4.flatMap e58).length ∧ 0 + (wrap64 (x6 - 1)).toNat * 2 + 2 ≤ (x4.flatMap e58).length, COK (hget [(0, (x4.flatMap e58)), (56, [(.sl true x5.length 2 (x5.flatMap (e28 true)))])]) [(.ag [(I (at_ x4 x6).f0), (I (at_ x4 x6).f1)]), (.ag [(I (at_ x4 (wrap64 (x6 - 1))).f0), (I (at_ x4 (wrap64 (x6 - 1))).f1)]), (.pt 56 0 1)] ⟨53, [(.ag [(I (at_ x4 x6).f0), (I (at_ x4 x6).f1)]), (.ag [(I (at_ x4 (wrap64 (x6 - 1))).f0), (I (at_ x4 (wrap64 (x6 - 1))).f1)]), (.pt 40 0 1)], [(40, [(.sl true x5.length 2 (x5.flatMap (e28 true)))])], (I x7.1), [(40, [(.sl true x7.2.length 2 (x7.2.flatMap (e28 true)))])], [], [(56, 40)], [(56, 40)], (I x7.1), [(56, [(.sl true x7.2.length 2 (x7.2.flatMap (e28 true)))])]⟩], [⟨53, [(.ag [(I (at_ x4 x6).f0), (I (at_ x4 x6).f1)]), (.ag [(I (at_ x4 (wrap64 (x6 - 1))).f0), (I (at_ x4 (wrap64 (x6 - 1))).f1)]), (.pt 40 0 1)], [(40, [(.sl true x5.length 2 (x5.flatMap (e28 true)))])], (I x7.1), [(40, [(.sl true x7.2.length 2 (x7.2.flatMap (e28 true)))])], [], [(56, 40)], [(56, 40)], (I x7.1), [(56, [(.sl true x7.2.length 2 (x7.2.flatMap (e28 true)))])]⟩]⟩ [c_ 3217, c_ 1609, l_ 402, b_ 2, b_ 1, c_ 51, l_ 6, b_ 0] (alc (bT (dT c2)) (alc ⟨c3, c4⟩ (alc (ldA0 e58_ok rfl rfl c3 c4) (alc (okA0 e58_ok c3 c4 (by decide)) (alc ⟨c5, c6⟩ (alc (ldA0 e58_ok rfl rfl c5 c6) (alc (okA0 e58_ok c5 c6 (by decide)) (alc (cokW true (a2c (.z (frz_ag (a2c .s (a2c .s a2n)))) (a2c (.z (frz_ag (a2c .s (a2c .s a2n)))) (a2c (.pt (memP_mem (p := (56, 40)) rfl)) a2n))) (akc ⟨_, _, rfl, rfl, (a2c (.z (frz_sl (e28_ok true) (fun h => h))) a2n)⟩ akn) (akc (.inl rfl) akn) (.z .s) (akc ⟨_, _, rfl, rfl, (a2c (.z (clnS e28_c1 (fun h => rfl))) a2n)⟩ akn) (fun h => rfl)) aln)))))))) (acal (impl_Board_1.J (at_ x4 x6) (at_ x4 (wrap64 (x6 - 1))) x5 _ hx7) nocal) ?_
              by_cases c7 : x7.1 < 0
              · rw [if_pos c7] at h
                refine .cond' (.tmp 34) true [c_ 6436, b_ 3, c_ 3219, l_ 402, b_ 2, b_ 1, c_ 51, l_ 6, b_ 0] (bT (dT c7)) ?_
                refine .reg' [0, 1, 2, 3, 8, 9] [.no, .no, .no, .no, .no, .no, .no, .no, .no, .v (.ag [(I (at_ x4 (wrap64 (x6 - 1))).f0), (I (at_ x4 (wrap64 (x6 - 1))).f1)]), .no, .no, .no, .v (.ag [(I (at_ x4 x6).f0), (I (at_ x4 x6).f1)]), .no, .w .un ((x4.set x6.toNat (at_ x4 (wrap64 (x6 - 1)))).flatMap e58), .no, .w .un (((x4.set x6.toNat (at_ x4 (wrap64 (x6 - 1)))).set (wrap64 (x6 - 1)).toNat (at_ x4 x6)).flatMap e58)] ⟨[(0, (.rf 0 0 x4.length 2 (x4.length * 2))), (1, (I a1)), (2, (I a2)), (3, (.fn (.func 53) [] [(.pt 56 0 1)])), (8, (I x3)), (9, (I x6))], [(0, (((x4.set x6.toNat (at_ x4 (wrap64 (x6 - 1)))).set (wrap64 (x6 - 1)).toNat (at_ x4 x6)).flatMap e58)), (56, [(.sl true x7.2.length 2 (x7.2.flatMap (e28 true)))])], [(0 : Int) ≤ (wrap64 (x6 - 1)) ∧ (wrap64 (x6 - 1)) < (x4.length : Int), rdC prog 59 ((x4.flatMap e58).drop (0 + (wrap64 (x6 - 1)).toNat * 2)) = (.ag [(I (at_ x4 (wrap64 (x6 - 1))).f0), (I (at_ x4 (wrap64 (x6 - 1))).f1)]), x4.length * 2 = (x4.flatMap e58).length ∧ 0 + (wrap64 (x6 - 1)).toNat * 2 + 2 ≤ (x4.flatMap e58).length, (0 : Int) ≤ x6 ∧ x6 < (x4.length : Int), rdC prog 59 ((x4.flatMap e58).drop (0 + x6.toNat * 2)) = (.ag [(I (at_ x4 x6).f0), (I (at_ x4 x6).f1)]), x4.length * 2 = (x4.flatMap e58).length ∧ 0 + x6.toNat * 2 + 2 ≤ (x4.flatMap e58).length, (0 : Int) ≤ x6 ∧ x6 < (x4.length : Int), V.un = V.un, spl (x4.flatMap e58) (0 + x6.toNat * 2) [(I (at_ x4 (wrap64 (x6 - 1))).f0), (I (at_ x4 (wrap64 (x6 - 1))).f1)] = ((x4.set x6.toNat (at_ x4 (wrap64 (x6 - 1)))).flatMap e58), x4.length * 2 = (x4.flatMap e58).length ∧ 0 + x6.toNat * 2 + 2 ≤ (x4.flatMap e58).length, (0 : Int) ≤ (wrap64 (x6 - 1)) ∧ (wrap64 (x6 - 1)) < (x4.length : Int), V.un = V.un, spl ((x4.set x6.toNat (at_ x4 (wrap64 (x6 - 1)))).flatMap e58) (0 + (wrap64 (x6 - 1)).toNat * 2) [(I (at_ x4 x6).f0), (I (at_ x4 x6).f1)] = (((x4.set x6.toNat (at_ x4 (wrap64 (x6 - 1)))).set (wrap64 (x6 - 1)).toNat (at_ x4 x6)).flatMap e58), x4.length * 2 = ((x4.set x6.toNat (at_ x4 (wrap64 (x6 - 1)))).flatMap e58).length ∧ 0 + (wrap64 (x6 - 1)).toNat * 2 + 2 ≤ ((x4.set x6.toNat (at_ x4 (wrap64 (x6 - 1)))).flatMap e58).length], []⟩ [c_ 3219, l_ 402, b_ 2, b_ 1, c_ 51, l_ 6, b_ 0] (alc ⟨c5, c6⟩ (alc (ldA0 e58_ok rfl rfl c5 c6) (alc (okA0 e58_ok c5 c6 (by decide)) (alc ⟨c3, c4⟩ (alc (ldA0 e58_ok rfl rfl c3 c4) (alc (okA0 e58_ok c3 c4 (by decide)) (alc ⟨c3, c4⟩ (alc rfl (alc (st_row e58_ok 0 c3 c4 (Nat.le_of_ble_eq_true rfl) rfl) (alc (okA0 e58_ok c3 c4 (by decide)) (alc ⟨c5, c6⟩ (alc rfl (alc (st_row e58_ok 0 c5 (ls c6) (Nat.le_of_ble_eq_true rfl) rfl) (alc (okL (by simp only [List.length_set]) (okA0 e58_ok c5 (ls c6) (by decide))) aln)))))))))))))) nocal ?_
                refine .eqs (env2 := [(0, (.rf 0 0 (((x4.set x6.toNat (at_ x4 (wrap64 (x6 - 1)))).set (wrap64 (x6 - 1)).toNat (at_ x4 x6)).length) 2 (((x4.set x6.toNat (at_ x4 (wrap64 (x6 - 1)))).set (wrap64 (x6 - 1)).toNat (at_ x4 x6)).length * 2))), (1, (I a1)), (2, (I a2)), (3, (.fn (.func 53) [] [(.pt 56 0 1)])), (8, (I x3)), (9, (I x6))]) (H2 := [(0, (((x4.set x6.toNat (at_ x4 (wrap64 (x6 - 1)))).set (wrap64 (x6 - 1)).toNat (at_ x4 x6)).flatMap e58)), (56, [(.sl true x7.2.length 2 (x7.2.flatMap (e28 true)))])]) (by first | (simp only [List.length_set]; done) | simp) (by first | rfl | (simp only [List.length_set]; done) | simp) ?_
                refine .reg' [0, 1, 2, 3, 8, 9] [] ⟨[(0, (.rf 0 0 (((x4.set x6.toNat (at_ x4 (wrap64 (x6 - 1)))).set (wrap64 (x6 - 1)).toNat (at_ x4 x6)).length) 2 (((x4.set x6.toNat (at_ x4 (wrap64 (x6 - 1)))).set (wrap64 (x6 - 1)).toNat (at_ x4 x6)).length * 2))), (1, (I a1)), (2, (I a2)), (3, (.fn (.func 53) [] [(.pt 56 0 1)])), (8, (I x3)), (9, (I (wrap64 (x6 - 1))))], [(0, (((x4.set x6.toNat (at_ x4 (wrap64 (x6 - 1)))).set (wrap64 (x6 - 1)).toNat (at_ x4 x6)).flatMap e58)), (56, [(.sl true x7.2.length 2 (x7.2.flatMap (e28 true)))])], [], []⟩ [l_ 402, b_ 2, b_ 1, c_ 51, l_ 6, b_ 0] aln nocal ?_
                exact ih1 a1 a2 x3 ((x4.set x6.toNat (at_ x4 (wrap64 (x6 - 1)))).set (wrap64 (x6 - 1)).toNat (at_ x4 x6)) x7.2 (wrap64 (x6 - 1)) _ h
              · rw [if_neg c7] at h
                refine .cond' (.tmp 34) false [c_ 51, l_ 6, b_ 0] (bF (dF c7)) ?_
                refine .reg' [0, 1, 2, 3, 8] [] ⟨[(0, (.rf 0 0 x4.length 2 (x4.length * 2))), (1, (I a1)), (2, (I a2)), (3, (.fn (.func 53) [] [(.pt 56 0 1)])), (8, (I (wrap64 (x3 + 1))))], [(0, (x4.flatMap e58)), (56, [(.sl true x7.2.length 2 (x7.2.flatMap (e28 true)))])], [], []⟩ [l_ 6, b_ 0] aln nocal ?_
                exact ih0 a1 a2 x4 x7.2 (wrap64 (x3 + 1)) _ h
            · rw [if_neg c6] at h
              cases h
          · rw [if_neg c5] at h
            cases h
        · rw [if_neg c4] at h
          cases h
      · rw [if_neg c3] at h
        cases h
    · rw [if_neg c2] at h
      refine .reg' [0, 1, 2, 3, 8, 9, 34] [.no, .no, .no, .v (B false)] ⟨[(0, (.rf 0 0 x4.length 2 (x4.length * 2))), (1, (I a1)), (2, (I a2)), (3, (.fn (.func 53) [] [(.pt 56 0 1)])), (8, (I x3)), (9, (I x6)), (34, (B false))], [(0, (x4.flatMap e58)), (56, [(.sl true x5.length 2 (x5.flatMap (e28 true)))])], [(B (decide (x6 > a1)) : V) = B false], []⟩ [c_ 3217, c_ 1609, l_ 402, b_ 2, b_ 1, c_ 51, l_ 6, b_ 0] (alc (bF (dF c2)) aln) nocal ?_
      refine .cond' (.tmp 34) false [c_ 51, l_ 6, b_ 0] (rfl) ?_
      refine .reg' [0, 1, 2, 3, 8] [] ⟨[(0, (.rf 0 0 x4.length 2 (x4.length * 2))), (1, (I a1)), (2, (I a2)), (3, (.fn (.func 53) [] [(.pt 56 0 1)])), (8, (I (wrap64 (x3 + 1))))], [(0, (x4.flatMap e58)), (56, [(.sl true x5.length 2 (x5.flatMap (e28 true)))])], [], []⟩ [l_ 6, b_ 0] aln nocal ?_
      exact ih0 a1 a2 x4 x5 (wrap64 (x3 + 1)) _ h
theorem slices_insertionSortCmpFunc_1.J (k : Nat) (a0 : (List S58)) (a1 : Int) (a2 : Int) (a3c0 : (List S28)) (r : ((List S58) × (List S28))) (h : slices_insertionSortCmpFunc_1.f k a0 a1 a2 a3c0 = some r) : J prog (.call 72 [(.rf 0 0 a0.length 2 (a0.length * 2)), (I a1), (I a2), (.fn (.func 53) [] [(.pt 56 0 1)])] [(0, (a0.flatMap e58)), (56, [(.sl true a3c0.length 2 (a3c0.flatMap (e28 true)))])] (.tp []) [(0, (r.1.flatMap e58)), (56, [(.sl true r.2.length 2 (r.2.flatMap (e28 true)))])]) := by
  unfold slices_insertionSortCmpFunc_1.f at h
  obtain ⟨ih0, ih1⟩ := slices_insertionSortCmpFunc_1.lab k
  refine .call' [c_ 2, c_ 3] ?_
  refine .reg' [0, 1, 2, 3, 8] [] ⟨[(0, (.rf 0 0 a0.length 2 (a0.length * 2))), (1, (I a1)), (2, (I a2)), (3, (.fn (.func 53) [] [(.pt 56 0 1)])), (8, (I (wrap64 (a1 + 1))))], [(0, (a0.flatMap e58)), (56, [(.sl true a3c0.length 2 (a3c0.flatMap (e28 true)))])], [], []⟩ [l_ 6, b_ 0] aln nocal ?_
  exact ih0 a1 a2 a0 a3c0 (wrap64 (a1 + 1)) _ h
theorem slices_insertionSortCmpFunc_1.lenl : ∀ k, (∀ (a1 : Int) (a2 : Int) (x1 : (List S58)) (x2 : (List S28)) (x3 : Int) (r : ((List S58) × (List S28))), slices_insertionSortCmpFunc_1.l0 k a1 a2 x1 x2 x3 = some r → r.1.length = x1.length) ∧ (∀ (a1 : Int) (a2 : Int) (x3 : Int) (x4 : (List S58)) (x5 : (List S28)) (x6 : Int) (r : ((List S58) × (List S28))), slices_insertionSortCmpFunc_1.l1 k a1 a2 x3 x4 x5 x6 = some r → r.1.length = x4.length)
 | 0 => ⟨(by intro a1 a2 x1 x2 x3 r h; unfold slices_insertionSortCmpFunc_1.l0 at h; cases h), (by intro a1 a2 x3 x4 x5 x6 r h; unfold slices_insertionSortCmpFunc_1.l1 at h; cases h)⟩
 | k + 1 => by
  obtain ⟨ih0, ih1⟩ := slices_insertionSortCmpFunc_1.lenl k
  refine ⟨?_, ?_⟩
  · intro a1 a2 x1 x2 x3 r h
    unfold slices_insertionSortCmpFunc_1.l0 at h
    by_cases c1 : x3 < a2
    · rw [if_pos c1] at h
      have q := ih1 a1 a2 x3 x1 x2 x3 _ h
      first | exact q | (simp only [List.length_set] at q; exact q)
    · rw [if_neg c1] at h
      have h := Option.some.inj h
      subst h
      first | rfl | (simp only [List.length_set]; done) | exact ⟨by first | rfl | simp only [List.length_set]⟩
  · intro a1 a2 x3 x4 x5 x6 r h
    unfold slices_insertionSortCmpFunc_1.l1 at h
    by_cases c2 : x6 > a1
    · rw [if_pos c2] at h
      by_cases c3 : 0 ≤ x6
      · rw [if_pos c3] at h
        by_cases c4 : x6 < (x4.length : Int)
        · rw [if_pos c4] at h
          by_cases c5 : 0 ≤ (wrap64 (x6 - 1))
          · rw [if_pos c5] at h
            by_cases c6 : (wrap64 (x6 - 1)) < (x4.length : Int)
            · rw [if_pos c6] at h
              obtain ⟨x7, hx7, h⟩ := Option.bind_eq_some_iff.mp h
              by_cases c7 : x7.1 < 0
              · rw [if_pos c7] at h
                have q := ih1 a1 a2 x3 ((x4.set x6.toNat (at_ x4 (wrap64 (x6 - 1)))).set (wrap64 (x6 - 1)).toNat (at_ x4 x6)) x7.2 (wrap64 (x6 - 1)) _ h
                first | exact q | (simp only [List.length_set] at q; exact q)
              · rw [if_neg c7] at h
                have q := ih0 a1 a2 x4 x7.2 (wrap64 (x3 + 1)) _ h
                first | exact q | (simp only [List.length_set] at q; exact q)
            · rw [if_neg c6] at h
              cases h
          · rw [if_neg c5] at h
            cases h
        · rw [if_neg c4] at h
          cases h
      · rw [if_neg c3] at h
        cases h
    · rw [if_neg c2] at h
      have q := ih0 a1 a2 x4 x5 (wrap64 (x3 + 1)) _ h
      first | exact q | (simp only [List.length_set] at q; exact q)
theorem slices_insertionSortCmpFunc_1.len (k : Nat) (a0 : (List S58)) (a1 : Int) (a2 : Int) (a3c0 : (List S28)) (r : ((List S58) × (List S28))) (h : slices_insertionSortCmpFunc_1.f k a0 a1 a2 a3c0 = some r) : r.1.length = a0.length := by
  unfold slices_insertionSortCmpFunc_1.f at h
  obtain ⟨ih0, ih1⟩ := slices_insertionSortCmpFunc_1.lenl k
  have q := ih0 a1 a2 a0 a3c0 (wrap64 (a1 + 1)) _ h
  first | exact q | (simp only [List.length_set] at q; exact q)
/-! slices_swapRangeCmpFunc_1: function 78 -/
def slices_swapRangeCmpFunc_1.l0 : Nat → Int → Int → Int → (List S28) → (List S58) → Int → Option ((List S58) × (List S28))
 | 0, _, _, _, _, _, _ => none
 | k + 1, a1, a2, a3, a4c0, x1, x2 => (if x2 < a3 then (if 0 ≤ (wrap64 (a2 + x2)) then (if (wrap64 (a2 + x2)) < (x1.length : Int) then (if 0 ≤ (wrap64 (a1 + x2)) then (if (wrap64 (a1 + x2)) < (x1.length : Int) then (slices_swapRangeCmpFunc_1.l0 k a1 a2 a3 a4c0 ((x1.set (wrap64 (a1 + x2)).toNat (at_ x1 (wrap64 (a2 + x2)))).set (wrap64 (a2 + x2)).toNat (at_ x1 (wrap64 (a1 + x2)))) (wrap64 (x2 + 1))) else none) else none) else none) else none) else (some (x1, a4c0)))
def slices_swapRangeCmpFunc_1.f (k : Nat) (a0 : (List S58)) (a1 : Int) (a2 : Int) (a3 : Int) (a4c0 : (List S28)) : Option ((List S58) × (List S28)) := (slices_swapRangeCmpFunc_1.l0 k a1 a2 a3 a4c0 a0 0)
theorem slices_swapRangeCmpFunc_1.lab : ∀ k, (∀ (a1 : Int) (a2 : Int) (a3 : Int) (a4c0 : (List S28)) (x1 : (List S58)) (x2 : Int) (r : ((List S58) × (List S28))), slices_swapRangeCmpFunc_1.l0 k a1 a2 a3 a4c0 x1 x2 = some r → J prog (.run 78 [0, 72] [l_ 6, b_ 0] [(0, (.rf 0 0 x1.length 2 (x1.length * 2))), (1, (I a1)), (2, (I a2)), (3, (I a3)), (10, (I x2))] [(0, (x1.flatMap e58)), (72, [(.sl true a4c0.length 2 (a4c0.flatMap (e28 true)))])] (.tp []) [(0, (r.1.flatMap e58)), (72, [(.sl true r.2.length 2 (r.2.flatMap (e28 true)))])]))
 | 0 => (by intro a1 a2 a3 a4c0 x1 x2 r h; unfold slices_swapRangeCmpFunc_1.l0 at h; cases h)
 | k + 1 => by
  have ih0 := slices_swapRangeCmpFunc_1.lab k
  · intro a1 a2 a3 a4c0 x1 x2 r h
    unfold slices_swapRangeCmpFunc_1.l0 at h
    refine .loop' [c_ 48, c_ 49, c_ 25, l_ 6, b_ 0] ?_
    refine .reg' [0, 1, 2, 3, 10, 13] [] ⟨[(0, (.rf 0 0 x1.length 2 (x1.length * 2))), (1, (I a1)), (2, (I a2)), (3, (I a3)), (10, (I x2)), (13, (B (decide (x2 < a3))))], [(0, (x1.flatMap e58)), (72, [(.sl true a4c0.length 2 (a4c0.flatMap (e28 true)))])], [], []⟩ [c_ 49, c_ 25, l_ 6, b_ 0] aln nocal ?_
    by_cases c1 : x2 < a3
    · rw [if_pos c1] at h
      refine .cond' (.tmp 13) true [c_ 100, b_ 1, c_ 51, l_ 6, b_ 0] (bT (dT c1)) ?_
      by_cases c2 : 0 ≤ (wrap64 (a2 + x2))
      · rw [if_pos c2] at h
        by_cases c3 : (wrap64 (a2 + x2)) < (x1.length : Int)
        · rw [if_pos c3] at h
          by_cases c4 : 0 ≤ (wrap64 (a1 + x2))
          · rw [if_pos c4] at h
            by_cases c5 : (wrap64 (a1 + x2)) < (x1.length : Int)
            · rw [if_pos c5] at h
              refine .reg' [0, 1, 2, 3, 10] [.no, .no, .no, .no, .no, .no, .no, .no, .no, .no, .no, .no, .no, .v (.ag [(I (at_ x1 (wrap64 (a2 + x2))).f0), (I (at_ x1 (wrap64 (a2 + x2))).f1)]), .no, .no, .no, .no, .no, .v (.ag [(I (at_ x1 (wrap64 (a1 + x2))).f0), (I (at_ x1 (wrap64 (a1 + x2))).f1)]), .no, .w .un ((x1.set (wrap64 (a1 + x2)).toNat (at_ x1 (wrap64 (a2 + x2)))).flatMap e58), .no, .w .un (((x1.set (wrap64 (a1 + x2)).toNat (at_ x1 (wrap64 (a2 + x2)))).set (wrap64 (a2 + x2)).toNat (at_ x1 (wrap64 (a1 + x2)))).flatMap e58)] ⟨[(0, (.rf 0 0 x1.length 2 (x1.length * 2))), (1, (I a1)), (2, (I a2)), (3, (I a3)), (10, (I x2))], [(0, (((x1.set (wrap64 (a1 + x2)).toNat (at_ x1 (wrap64 (a2 + x2)))).set (wrap64 (a2 + x2)).toNat (at_ x1 (wrap64 (a1 + x2)))).flatMap e58)), (72, [(.sl true a4c0.length 2 (a4c0.flatMap (e28 true)))])], [(0 : Int) ≤ (wrap64 (a2 + x2)) ∧ (wrap64 (a2 + x2)) < (x1.length : Int), rdC prog 59 ((x1.flatMap e58).drop (0 + (wrap64 (a2 + x2)).toNat * 2)) = (.ag [(I (at_ x1 (wrap64 (a2 + x2))).f0), (I (at_ x1 (wrap64 (a2 + x2))).f1)]), x1.length * 2 = (x1.flatMap e58).length ∧ 0 + (wrap64 (a2 + x2)).toNat * 2 + 2 ≤ (x1.flatMap e58).length, (0 : Int) ≤ (wrap64 (a1 + x2)) ∧ (wrap64 (a1 + x2)) < (x1.length : Int), rdC prog 59 ((x1.flatMap e58).drop (0 + (wrap64 (a1 + x2)).toNat * 2)) = (.ag [(I (at_ x1 (wrap64 (a1 + x2))).f0), (I (at_ x1 (wrap64 (a1 + x2))).f1)]), x1.length * 2 = (x1.flatMap e58).length ∧ 0 + (wrap64 (a1 + x2)).toNat * 2 + 2 ≤ (x1.flatMap e58).length, (0 : Int) ≤ (wrap64 (a1 + x2)) ∧ (wrap64 (a1 + x2)) < (x1.length : Int), V.un = V.un, spl (x1.flatMap e58) (0 + (wrap64 (a1 + x2)).toNat * 2) [(I (at_ x1 (wrap64 (a2 + x2))).f0), (I (at_ x1 (wrap64 (a2 + x2))).f1)] = ((x1.set (wrap64 (a1 + x2)).toNat (at_ x1 (wrap64 (a2 + x2)))).flatMap e58), x1.length * 2 = (x1.flatMap e58).length ∧ 0 + (wrap64 (a1 + x2)).toNat * 2 + 2 ≤ (x1.flatMap e58).length, (0 : Int) ≤ (wrap64 (a2 + x2)) ∧ (wrap64 (a2 + x2)) < (x1.length : Int), V.un = V.un, spl ((x1.set (wrap64 (a1 + x2)).toNat (at_ x1 (wrap64 (a2 + x2)))).flatMap e58) (0 + (wrap64 (a2 + x2)).toNat * 2) [(I (at_ x1 (wrap64 (a1 + x2))).f0), (I (at_ x1 (wrap64 (a1 + x2))).f1)] = (((x1.set (wrap64 (a1 + x2)).toNat (at_ x1 (wrap64 (a2 + x2)))).set (wrap64 (a2 + x2)).toNat (at_ x1 (wrap64 (a1 + x2)))).flatMap e58), x1.length * 2 = ((x1.set (wrap64 (a1 + x2)).toNat (at_ x1 (wrap64 (a2 + x2)))).flatMap e58).length ∧ 0 + (wrap64 (a2 + x2)).toNat * 2 + 2 ≤ ((x1.set (wrap64 (a1 + x2)).toNat (at_ x1 (wrap64 (a2 + x2)))).flatMap e58).length], []⟩ [c_ 51, l_ 6, b_ 0] (alc ⟨c2, c3⟩ (alc (ldA0 e58_ok rfl rfl c2 c3) (alc (okA0 e58_ok c2 c3 (by decide)) (alc ⟨c4, c5⟩ (alc (ldA0 e58_ok rfl rfl c4 c5) (alc (okA0 e58_ok c4 c5 (by decide)) (alc ⟨c4, c5⟩ (alc rfl (alc (st_row e58_ok 0 c4 c5 (Nat.le_of_ble_eq_true rfl) rfl) (alc (okA0 e58_ok c4 c5 (by decide)) (alc ⟨c2, c3⟩ (alc rfl (alc (st_row e58_ok 0 c2 (ls c3) (Nat.le_of_ble_eq_true rfl) rfl) (alc (okL (by simp only [List.length_set]) (okA0 e58_ok c2 (ls c3) (by decide))) aln)))))))))))))) nocal ?_
              refine .eqs (env2 := [(0, (.rf 0 0 (((x1.set (wrap64 (a1 + x2)).toNat (at_ x1 (wrap64 (a2 + x2)))).set (wrap64 (a2 + x2)).toNat (at_ x1 (wrap64 (a1 + x2)))).length) 2 (((x1.set (wrap64 (a1 + x2)).toNat (at_ x1 (wrap64 (a2 + x2)))).set (wrap64 (a2 + x2)).toNat (at_ x1 (wrap64 (a1 + x2)))).length * 2))), (1, (I a1)), (2, (I a2)), (3, (I a3)), (10, (I x2))]) (H2 := [(0, (((x1.set (wrap64 (a1 + x2)).toNat (at_ x1 (wrap64 (a2 + x2)))).set (wrap64 (a2 + x2)).toNat (at_ x1 (wrap64 (a1 + x2)))).flatMap e58)), (72, [(.sl true a4c0.length 2 (a4c0.flatMap (e28 true)))])]) (by first | (simp only [List.length_set]; done) | simp) (by first | rfl | (simp only [List.length_set]; done) | simp) ?_
              refine .reg' [0, 1, 2, 3, 10] [] ⟨[(0, (.rf 0 0 (((x1.set (wrap64 (a1 + x2)).toNat (at_ x1 (wrap64 (a2 + x2)))).set (wrap64 (a2 + x2)).toNat (at_ x1 (wrap64 (a1 + x2)))).length) 2 (((x1.set (wrap64 (a1 + x2)).toNat (at_ x1 (wrap64 (a2 + x2)))).set (wrap64 (a2 + x2)).toNat (at_ x1 (wrap64 (a1 + x2)))).length * 2))), (1, (I a1)), (2, (I a2)), (3, (I a3)), (10, (I (wrap64 (x2 + 1))))], [(0, (((x1.set (wrap64 (a1 + x2)).toNat (at_ x1 (wrap64 (a2 + x2)))).set (wrap64 (a2 + x2)).toNat (at_ x1 (wrap64 (a1 + x2)))).flatMap e58)), (72, [(.sl true a4c0.length 2 (a4c0.flatMap (e28 true)))])], [], []⟩ [l_ 6, b_ 0] aln nocal ?_
              exact ih0 a1 a2 a3 a4c0 ((x1.set (wrap64 (a1 + x2)).toNat (at_ x1 (wrap64 (a2 + x2)))).set (wrap64 (a2 + x2)).toNat (at_ x1 (wrap64 (a1 + x2)))) (wrap64 (x2 + 1)) _ h
            · rw [if_neg c5] at h
              cases h
          · rw [if_neg c4] at h
            cases h
        · rw [if_neg c3] at h
          cases h
      · rw [if_neg c2] at h
        cases h
    · rw [if_neg c1] at h
      refine .cond' (.tmp 13) false [] (bF (dF c1)) ?_
      have h := Option.some.inj h
      subst h
      exact .fin' [] [(0, 0), (72, 72)] (.tp []) [] aln (shc 0 (rowF e58_ok _) (shc 72 (a2c (.z (frz_sl (e28_ok true) (fun h => h))) a2n) shn)) (cnv_tp a2n)
theorem slices_swapRangeCmpFunc_1.J (k : Nat) (a0 : (List S58)) (a1 : Int) (a2 : Int) (a3 : Int) (a4c0 : (List S28)) (r : ((List S58) × (List S28))) (h : slices_swapRangeCmpFunc_1.f k a0 a1 a2 a3 a4c0 = some r) : J prog (.call 78 [(.rf 0 0 a0.length 2 (a0.length * 2)), (I a1), (I a2), (I a3), (.fn (.func 53) [] [(.pt 72 0 1)])] [(0, (a0.flatMap e58)), (72, [(.sl true a4c0.length 2 (a4c0.flatMap (e28 true)))])] (.tp []) [(0, (r.1.flatMap e58)), (72, [(.sl true r.2.length 2 (r.2.flatMap (e28 true)))])]) := by
  unfold slices_swapRangeCmpFunc_1.f at h
  have ih0 := slices_swapRangeCmpFunc_1.lab k
  refine .call' [c_ 2, c_ 3] ?_
  refine .reg' [0, 1, 2, 3, 10] [] ⟨[(0, (.rf 0 0 a0.length 2 (a0.length * 2))), (1, (I a1)), (2, (I a2)), (3, (I a3)), (10, (I 0))], [(0, (a0.flatMap e58)), (72, [(.sl true a4c0.length 2 (a4c0.flatMap (e28 true)))])], [], []⟩ [l_ 6, b_ 0] aln nocal ?_
  exact ih0 a1 a2 a3 a4c0 a0 0 _ h
theorem slices_swapRangeCmpFunc_1.lenl : ∀ k, (∀ (a1 : Int) (a2 : Int) (a3 : Int) (a4c0 : (List S28)) (x1 : (List S58)) (x2 : Int) (r : ((List S58) × (List S28))), slices_swapRangeCmpFunc_1.l0 k a1 a2 a3 a4c0 x1 x2 = some r → r.1.length = x1.length)
 | 0 => (by intro a1 a2 a3 a4c0 x1 x2 r h; unfold slices_swapRangeCmpFunc_1.l0 at h; cases h)
 | k + 1 => by
  have ih0 := slices_swapRangeCmpFunc_1.lenl k
  · intro a1 a2 a3 a4c0 x1 x2 r h
    unfold slices_swapRangeCmpFunc_1.l0 at h
    by_cases c1 : x2 < a3
    · rw [if_pos c1] at h
      by_cases c2 : 0 ≤ (wrap64 (a2 + x2))
      · rw [if_pos c2] at h
        by_cases c3 : (wrap64 (a2 + x2)) < (x1.length : Int)
        · rw [if_pos c3] at h
          by_cases c4 : 0 ≤ (wrap64 (a1 + x2))
          · rw [if_pos c4] at h
            by_cases c5 : (wrap64 (a1 + x2)) < (x1.length : Int)
            · rw [if_pos c5] at h
              have q := ih0 a1 a2 a3 a4c0 ((x1.set (wrap64 (a1 + x2)).toNat (at_ x1 (wrap64 (a2 + x2)))).set (wrap64 (a2 + x2)).toNat (at_ x1 (wrap64 (a1 + x2)))) (wrap64 (x2 + 1)) _ h
              first | exact q | (simp only [List.length_set] at q; exact q)
            · rw [if_neg c5] at h
              cases h
          · rw [if_neg c4] at h
            cases h
        · rw [if_neg c3] at h
          cases h
      · rw [if_neg c2] at h
        cases h
    · rw [if_neg c1] at h
      have h := Option.some.inj h
      subst h
      first | rfl | (simp only [List.length_set]; done) | exact ⟨by first | rfl | simp only [List.length_set]⟩
theorem slices_swapRangeCmpFunc_1.len (k : Nat) (a0 : (List S58)) (a1 : Int) (a2 : Int) (a3 : Int) (a4c0 : (List S28)) (r : ((List S58) × (List S28))) (h : slices_swapRangeCmpFunc_1.f k a0 a1 a2 a3 a4c0 = some r) : r.1.length = a0.length := by
  unfold slices_swapRangeCmpFunc_1.f at h
  have ih0 := slices_swapRangeCmpFunc_1.lenl k
  have q := ih0 a1 a2 a3 a4c0 a0 0 _ h
  first | exact q | (simp only [List.length_set] at q; exact q)
/-! slices_rotateCmpFunc_1: function 77 -/
def slices_rotateCmpFunc_1.l0 : Nat → Int → (List S58) → (List S28) → Int → Int → Option ((List S58) × (List S28))
 | 0, _, _, _, _, _ => none
 | k + 1, a2, x1, x2, x3, x4 => (if x3 = x4 then ((slices_swapRangeCmpFunc_1.f k x1 (wrap64 (a2 - x3)) a2 x3 x2).bind fun x5 => (some (x5.1, x5.2))) else (if x3 > x4 then ((slices_swapRangeCmpFunc_1.f k x1 (wrap64 (a2 - x3)) a2 x4 x2).bind fun x6 => (slices_rotateCmpFunc_1.l0 k a2 x6.1 x6.2 (wrap64 (x3 - x4)) x4)) else ((slices_swapRangeCmpFunc_1.f k x1 (wrap64 (a2 - x3)) (wrap64 ((wrap64 (a2 + x4)) - x3)) x3 x2).bind fun x7 => (slices_rotateCmpFunc_1.l0 k a2 x7.1 x7.2 x3 (wrap64 (x4 - x3))))))
def slices_rotateCmpFunc_1.f (k : Nat) (a0 : (List S58)) (a1 : Int) (a2 : Int) (a3 : Int) (a4c0 : (List S28)) : Option ((List S58) × (List S28)) := (slices_rotateCmpFunc_1.l0 k a2 a0 a4c0 (wrap64 (a2 - a1)) (wrap64 (a3 - a2)))
theorem slices_rotateCmpFunc_1.lab : ∀ k, (∀ (a2 : Int) (x1 : (List S58)) (x2 : (List S28)) (x3 : Int) (x4 : Int) (r : ((List S58) × (List S28))), slices_rotateCmpFunc_1.l0 k a2 x1 x2 x3 x4 = some r → J prog (.run 77 [0, 72] [l_ 28, b_ 0, c_ 15] [(0, (.rf 0 0 x1.length 2 (x1.length * 2))), (2, (I a2)), (4, (.fn (.func 53) [] [(.pt 72 0 1)])), (10, (I x3)), (11, (I x4))] [(0, (x1.flatMap e58)), (72, [(.sl true x2.length 2 (x2.flatMap (e28 true)))])] (.tp []) [(0, (r.1.flatMap e58)), (72, [(.sl true r.2.length 2 (r.2.flatMap (e28 true)))])]))
 | 0 => (by intro a2 x1 x2 x3 x4 r h; unfold slices_rotateCmpFunc_1.l0 at h; cases h)
 | k + 1 => by
  have ih0 := slices_rotateCmpFunc_1.lab k
  · intro a2 x1 x2 x3 x4 r h
    unfold slices_rotateCmpFunc_1.l0 at h
    refine .loop' [c_ 224, c_ 225, c_ 113, l_ 28, b_ 0, c_ 15] ?_
    refine .reg' [0, 2, 4, 10, 11, 20] [] ⟨[(0, (.rf 0 0 x1.length 2 (x1.length * 2))), (2, (I a2)), (4, (.fn (.func 53) [] [(.pt 72 0 1)])), (10, (I x3)), (11, (I x4)), (20, (B (!(x3 == x4))))], [(0, (x1.flatMap e58)), (72, [(.sl true x2.length 2 (x2.flatMap (e28 true)))])], [], []⟩ [c_ 225, c_ 113, l_ 28, b_ 0, c_ 15] aln nocal ?_
    by_cases c1 : x3 = x4
    · rw [if_pos c1] at h
      refine .cond' (.tmp 20) false [c_ 15] (bF (nF (qT c1))) ?_
      obtain ⟨x5, hx5, h⟩ := Option.bind_eq_some_iff.mp h
      refine .reg' [] [.no, .no, .no, .no, .no, .no, .no, .c ⟨78, [(.rf 0 0 x1.length 2 (x1.length * 2)), (I (wrap64 (a2 - x3))), (I a2), (I x3), (.fn (.func 53) [] [(.pt 72 0 1)])], [(0, (x1.flatMap e58)), (72, [(.sl true x2.length 2 (x2.flatMap (e28 true)))])], (.tp []), [(0, (x5.1.flatMap e58)), (72, [(.sl true x5.2.length 2 (x5.2.flatMap (e28 true)))])], [], [(0, 0), (72, 72)], [(0, 0), (72, 72)], (.tp []), [(0, (x5.1.flatMap e58)), (72, [(.sl true x5.2.length 2 (x5.2.flatMap (e28 true)))])]⟩] ⟨[], [(0, (x5.1.flatMap e58)), (72, [(.sl true x5.2.length 2 (x5.2.flatMap (e28 true)))])], [COK (hget [(0, (x1.flatMap e58)), (72, [(.sl true x2.length 2 (x2.flatMap (e28 true)))])]) [(.rf 0 0 x1.length 2 (x1.length * 2)), (I (wrap64 (a2 - x3))), (I a2), (I x3), (.fn (.func 53) [] [(.pt 72 0 1)])] ⟨78, [(.rf 0 0 x1.length 2 (x1.length * 2)), (I (wrap64 (a2 - x3))), (I a2), (I x3), (.fn (.func 53) [] [(.pt 72 0 1)])], [(0, (x1.flatMap e58)), (72, [(.sl true x2.length 2 (x2.flatMap (e28 true)))])], (.tp []), [(0, (x5.1.flatMap e58)), (72, [(.sl true x5.2.length 2 (x5.2.flatMap (e28 true)))])], [], [(0, 0), (72, 72)], [(0, 0), (72, 72)], (.tp []), [(0, (x5.1.flatMap e58)), (72, [(.sl true x5.2.length 2 (x5.2.flatMap (e28 true)))])]⟩], [⟨78, [(.rf 0 0 x1.length 2 (x1.length * 2)), (I (wrap64 (a2 - x3))), (I a2), (I x3), (.fn (.func 53) [] [(.pt 72 0 1)])], [(0, (x1.flatMap e58)), (72, [(.sl true x2.length 2 (x2.flatMap (e28 true)))])], (.tp []), [(0, (x5.1.flatMap e58)), (72, [(.sl true x5.2.length 2 (x5.2.flatMap (e28 true)))])], [], [(0, 0), (72, 72)], [(0, 0), (72, 72)], (.tp []), [(0, (x5.1.flatMap e58)), (72, [(.sl true x5.2.length 2 (x5.2.flatMap (e28 true)))])]⟩]⟩ [] (alc (cokW true (a2c (.rf (memP_mem (p := (0, 0)) rfl)) (a2c (.z .s) (a2c (.z .s) (a2c (.z .s) (a2c (cnv_fn a2n (a2c (.pt (memP_mem (p := (72, 72)) rfl)) a2n)) a2n))))) (akc ⟨_, _, rfl, rfl, (rowF e58_ok _)⟩ (akc ⟨_, _, rfl, rfl, (a2c (.z (frz_sl (e28_ok true) (fun h => h))) a2n)⟩ akn)) (akc (.inl rfl) (akc (.inl rfl) akn)) (bck_tp a2n) (akc ⟨_, _, rfl, rfl, rowB e58_c _⟩ (akc ⟨_, _, rfl, rfl, (a2c (.z (clnS e28_c1 (fun h => rfl))) a2n)⟩ akn)) (fun h => rfl)) aln) (acal (slices_swapRangeCmpFunc_1.J k x1 (wrap64 (a2 - x3)) a2 x3 x2 _ hx5) nocal) ?_
      have h := Option.some.inj h
      subst h
      exact .fin' [] [(0, 0), (72, 72)] (.tp []) [] aln (shc 0 (rowF e58_ok _) (shc 72 (a2c (.z (frz_sl (e28_ok true) (fun h => h))) a2n) shn)) (cnv_tp a2n)
    · rw [if_neg c1] at h
      refine .cond' (.tmp 20) true [c_ 452, c_ 453, b_ 1, l_ 28, b_ 0, c_ 15] (bT (nT (qF c1))) ?_
      refine .reg' [0, 2, 4, 10, 11, 23] [] ⟨[(0, (.rf 0 0 x1.length 2 (x1.length * 2))), (2, (I a2)), (4, (.fn (.func 53) [] [(.pt 72 0 1)])), (10, (I x3)), (11, (I x4)), (23, (B (decide (x3 > x4))))], [(0, (x1.flatMap e58)), (72, [(.sl true x2.length 2 (x2.flatMap (e28 true)))])], [], []⟩ [c_ 453, b_ 1, l_ 28, b_ 0, c_ 15] aln nocal ?_
      by_cases c2 : x3 > x4
      · rw [if_pos c2] at h
        refine .cond' (.tmp 23) true [c_ 1812, c_ 1813, b_ 1, l_ 28, b_ 0, c_ 15] (bT (dT c2)) ?_
        obtain ⟨x6, hx6, h⟩ := Option.bind_eq_some_iff.mp h
        refine .reg' [0, 2, 4, 10, 11] [.no, .no, .no, .no, .no, .no, .no, .c ⟨78, [(.rf 0 0 x1.length 2 (x1.length * 2)), (I (wrap64 (a2 - x3))), (I a2), (I x4), (.fn (.func 53) [] [(.pt 72 0 1)])], [(0, (x1.flatMap e58)), (72, [(.sl true x2.length 2 (x2.flatMap (e28 true)))])], (.tp []), [(0, (x6.1.flatMap e58)), (72, [(.sl true x6.2.length 2 (x6.2.flatMap (e28 true)))])], [], [(0, 0), (72, 72)], [(0, 0), (72, 72)], (.tp []), [(0, (x6.1.flatMap e58)), (72, [(.sl true x6.2.length 2 (x6.2.flatMap (e28 true)))])]⟩] ⟨[(0, (.rf 0 0 x1.length 2 (x1.length * 2))), (2, (I a2)), (4, (.fn (.func 53) [] [(.pt 72 0 1)])), (10, (I x3)), (11, (I x4))], [(0, (x6.1.flatMap e58)), (72, [(.sl true x6.2.length 2 (x6.2.flatMap (e28 true)))])], [COK (hget [(0, (x1.flatMap e58)), (72, [(.sl true x2.length 2 (x2.flatMap (e28 true)))])]) [(.rf 0 0 x1.length 2 (x1.length * 2)), (I (wrap64 (a2 - x3))), (I a2), (I x4), (.fn (.func 53) [] [(.pt 72 0 1)])] ⟨78, [(.rf 0 0 x1.length 2 (x1.length * 2)), (I (wrap64 (a2 - x3))), (I a2), (I x4), (.fn (.func 53) [] [(.pt 72 0 1)])], [(0, (x1.flatMap e58)), (72, [(.sl true x2.length 2 (x2.flatMap (e28 true)))])], (.tp []), [(0, (x6.1.flatMap e58)), (72, [(.sl true x6.2.length 2 (x6.2.flatMap (e28 true)))])], [], [(0, 0), (72, 72)], [(0, 0), (72, 72)], (.tp []), [(0, (x6.1.flatMap e58)), (72, [(.sl true x6.2.length 2 (x6.2.flatMap (e28 true)))])]⟩], [⟨78, [(.rf 0 0 x1.length 2 (x1.length * 2)), (I (wrap64 (a2 - x3))), (I a2), (I x4), (.fn (.func 53) [] [(.pt 72 0 1)])], [(0, (x1.flatMap e58)), (72, [(.sl true x2.length 2 (x2.flatMap (e28 true)))])], (.tp []), [(0, (x6.1.flatMap e58)), (72, [(.sl true x6.2.length 2 (x6.2.flatMap (e28 true)))])], [], [(0, 0), (72, 72)], [(0, 0), (72, 72)], (.tp []), [(0, (x6.1.flatMap e58)), (72, [(.sl true x6.2.length 2 (x6.2.flatMap (e28 true)))])]⟩]⟩ [c_ 1813, b_ 1, l_ 28, b_ 0, c_ 15] (alc (cokW true (a2c (.rf (memP_mem (p := (0, 0)) rfl)) (a2c (.z .s) (a2c (.z .s) (a2c (.z .s) (a2c (cnv_fn a2n (a2c (.pt (memP_mem (p := (72, 72)) rfl)) a2n)) a2n))))) (akc ⟨_, _, rfl, rfl, (rowF e58_ok _)⟩ (akc ⟨_, _, rfl, rfl, (a2c (.z (frz_sl (e28_ok true) (fun h => h))) a2n)⟩ akn)) (akc (.inl rfl) (akc (.inl rfl) akn)) (bck_tp a2n) (akc ⟨_, _, rfl, rfl, rowB e58_c _⟩ (akc ⟨_, _, rfl, rfl, (a2c (.z (clnS e28_c1 (fun h => rfl))) a2n)⟩ akn)) (fun h => rfl)) aln) (acal (slices_swapRangeCmpFunc_1.J k x1 (wrap64 (a2 - x3)) a2 x4 x2 _ hx6) nocal) ?_
        refine .eqs (env2 := [(0, (.rf 0 0 x6.1.length 2 (x6.1.length * 2))), (2, (I a2)), (4, (.fn (.func 53) [] [(.pt 72 0 1)])), (10, (I x3)), (11, (I x4))]) (H2 := [(0, (x6.1.flatMap e58)), (72, [(.sl true x6.2.length 2 (x6.2.flatMap (e28 true)))])]) (by first | (simp only [List.length_set, (slices_swapRangeCmpFunc_1.len k x1 (wrap64 (a2 - x3)) a2 x4 x2 _ hx6)]; done) | simp) (by first | rfl | (simp only [List.length_set, (slices_swapRangeCmpFunc_1.len k x1 (wrap64 (a2 - x3)) a2 x4 x2 _ hx6)]; done) | simp) ?_
        refine .reg' [0, 2, 4, 10, 11] [] ⟨[(0, (.rf 0 0 x6.1.length 2 (x6.1.length * 2))), (2, (I a2)), (4, (.fn (.func 53) [] [(.pt 72 0 1)])), (10, (I (wrap64 (x3 - x4)))), (11, (I x4))], [(0, (x6.1.flatMap e58)), (72, [(.sl true x6.2.length 2 (x6.2.flatMap (e28 true)))])], [], []⟩ [l_ 28, b_ 0, c_ 15] aln nocal ?_
        exact ih0 a2 x6.1 x6.2 (wrap64 (x3 - x4)) x4 _ h
      · rw [if_neg c2] at h
        refine .cond' (.tmp 23) false [c_ 1814, c_ 1815, b_ 1, l_ 28, b_ 0, c_ 15] (bF (dF c2)) ?_
        obtain ⟨x7, hx7, h⟩ := Option.bind_eq_some_iff.mp h
        refine .reg' [0, 2, 4, 10, 11] [.no, .no, .no, .no, .no, .no, .no, .no, .no, .no, .no, .c ⟨78, [(.rf 0 0 x1.length 2 (x1.length * 2)), (I (wrap64 (a2 - x3))), (I (wrap64 ((wrap64 (a2 + x4)) - x3))), (I x3), (.fn (.func 53) [] [(.pt 72 0 1)])], [(0, (x1.flatMap e58)), (72, [(.sl true x2.length 2 (x2.flatMap (e28 true)))])], (.tp []), [(0, (x7.1.flatMap e58)), (72, [(.sl true x7.2.length 2 (x7.2.flatMap (e28 true)))])], [], [(0, 0), (72, 72)], [(0, 0), (72, 72)], (.tp []), [(0, (x7.1.flatMap e58)), (72, [(.sl true x7.2.length 2 (x7.2.flatMap (e28 true)))])]⟩] ⟨[(0, (.rf 0 0 x1.length 2 (x1.length * 2))), (2, (I a2)), (4, (.fn (.func 53) [] [(.pt 72 0 1)])), (10, (I x3)), (11, (I x4))], [(0, (x7.1.flatMap e58)), (72, [(.sl true x7.2.length 2 (x7.2.flatMap (e28 true)))])], [COK (hget [(0, (x1.flatMap e58)), (72, [(.sl true x2.length 2 (x2.flatMap (e28 true)))])]) [(.rf 0 0 x1.length 2 (x1.length * 2)), (I (wrap64 (a2 - x3))), (I (wrap64 ((wrap64 (a2 + x4)) - x3))), (I x3), (.fn (.func 53) [] [(.pt 72 0 1)])] ⟨78, [(.rf 0 0 x1.length 2 (x1.length * 2)), (I (wrap64 (a2 - x3))), (I (wrap64 ((wrap64 (a2 + x4)) - x3))), (I x3), (.fn (.func 53) [] [(.pt 72 0 1)])], [(0, (x1.flatMap e58)), (72, [(.sl true x2.length 2 (x2.flatMap (e28 true)))])], (.tp []), [(0, (x7.1.flatMap e58)), (72, [(.sl true x7.2.length 2 (x7.2.flatMap (e28 true)))])], [], [(0, 0), (72, 72)], [(0, 0), (72, 72)], (.tp []), [(0, (x7.1.flatMap e58)), (72, [(.sl true x7.2.length 2 (x7.2.flatMap (e28 true)))])]⟩], [⟨78, [(.rf 0 0 x1.length 2 (x1.length * 2)), (I (wrap64 (a2 - x3))), (I (wrap64 ((wrap64 (a2 + x4)) - x3))), (I x3), (.fn (.func 53) [] [(.pt 72 0 1)])], [(0, (x1.flatMap e58)), (72, [(.sl true x2.length 2 (x2.flatMap (e28 true)))])], (.tp []), [(0, (x7.1.flatMap e58)), (72, [(.sl true x7.2.length 2 (x7.2.flatMap (e28 true)))])], [], [(0, 0), (72, 72)], [(0, 0), (72, 72)], (.tp []), [(0, (x7.1.flatMap e58)), (72, [(.sl true x7.2.length 2 (x7.2.flatMap (e28 true)))])]⟩]⟩ [c_ 1815, b_ 1, l_ 28, b_ 0, c_ 15] (alc (cokW true (a2c (.rf (memP_mem (p := (0, 0)) rfl)) (a2c (.z .s) (a2c (.z .s) (a2c (.z .s) (a2c (cnv_fn a2n (a2c (.pt (memP_mem (p := (72, 72)) rfl)) a2n)) a2n))))) (akc ⟨_, _, rfl, rfl, (rowF e58_ok _)⟩ (akc ⟨_, _, rfl, rfl, (a2c (.z (frz_sl (e28_ok true) (fun h => h))) a2n)⟩ akn)) (akc (.inl rfl) (akc (.inl rfl) akn)) (bck_tp a2n) (akc ⟨_, _, rfl, rfl, rowB e58_c _⟩ (akc ⟨_, _, rfl, rfl, (a2c (.z (clnS e28_c1 (fun h => rfl))) a2n)⟩ akn)) (fun h => rfl)) aln) (acal (slices_swapRangeCmpFunc_1.J k x1 (wrap64 (a2 - x3)) (wrap64 ((wrap64 (a2 + x4)) - x3)) x3 x2 _ hx7) nocal) ?_
        refine .eqs (env2 := [(0, (.rf 0 0 x7.1.length 2 (x7.1.length * 2))), (2, (I a2)), (4, (.fn (.func 53) [] [(.pt 72 0 1)])), (10, (I x3)), (11, (I x4))]) (H2 := [(0, (x7.1.flatMap e58)), (72, [(.sl true x7.2.length 2 (x7.2.flatMap (e28 true)))])]) (by first | (simp only [List.length_set, (slices_swapRangeCmpFunc_1.len k x1 (wrap64 (a2 - x3)) (wrap64 ((wrap64 (a2 + x4)) - x3)) x3 x2 _ hx7)]; done) | simp) (by first | rfl | (simp only [List.length_set, (slices_swapRangeCmpFunc_1.len k x1 (wrap64 (a2 - x3)) (wrap64 ((wrap64 (a2 + x4)) - x3)) x3 x2 _ hx7)]; done) | simp) ?_
        refine .reg' [0, 2, 4, 10, 11] [] ⟨[(0, (.rf 0 0 x7.1.length 2 (x7.1.length * 2))), (2, (I a2)), (4, (.fn (.func 53) [] [(.pt 72 0 1)])), (10, (I x3)), (11, (I (wrap64 (x4 - x3))))], [(0, (x7.1.flatMap e58)), (72, [(.sl true x7.2.length 2 (x7.2.flatMap (e28 true)))])], [], []⟩ [l_ 28, b_ 0, c_ 15] aln nocal ?_
        exact ih0 a2 x7.1 x7.2 x3 (wrap64 (x4 - x3)) _ h
theorem slices_rotateCmpFunc_1.J (k : Nat) (a0 : (List S58)) (a1 : Int) (a2 : Int) (a3 : Int) (a4c0 : (List S28)) (r : ((List S58) × (List S28))) (h : slices_rotateCmpFunc_1.f k a0 a1 a2 a3 a4c0 = some r) : J prog (.call 77 [(.rf 0 0 a0.length 2 (a0.length * 2)), (I a1), (I a2), (I a3), (.fn (.func 53) [] [(.pt 72 0 1)])] [(0, (a0.flatMap e58)), (72, [(.sl true a4c0.length 2 (a4c0.flatMap (e28 true)))])] (.tp []) [(0, (r.1.flatMap e58)), (72, [(.sl true r.2.length 2 (r.2.flatMap (e28 true)))])]) := by
  unfold slices_rotateCmpFunc_1.f at h
  have ih0 := slices_rotateCmpFunc_1.lab k
  refine .call' [c_ 2, c_ 3] ?_
  refine .reg' [0, 2, 3, 4, 10] [] ⟨[(0, (.rf 0 0 a0.length 2 (a0.length * 2))), (2, (I a2)), (3, (I a3)), (4, (.fn (.func 53) [] [(.pt 72 0 1)])), (10, (I (wrap64 (a2 - a1))))], [(0, (a0.flatMap e58)), (72, [(.sl true a4c0.length 2 (a4c0.flatMap (e28 true)))])], [], []⟩ [c_ 6, c_ 7] aln nocal ?_
  refine .reg' [0, 2, 4, 10, 11] [] ⟨[(0, (.rf 0 0 a0.length 2 (a0.length * 2))), (2, (I a2)), (4, (.fn (.func 53) [] [(.pt 72 0 1)])), (10, (I (wrap64 (a2 - a1)))), (11, (I (wrap64 (a3 - a2))))], [(0, (a0.flatMap e58)), (72, [(.sl true a4c0.length 2 (a4c0.flatMap (e28 true)))])], [], []⟩ [l_ 28, b_ 0, c_ 15] aln nocal ?_
  exact ih0 a2 a0 a4c0 (wrap64 (a2 - a1)) (wrap64 (a3 - a2)) _ h
theorem slices_rotateCmpFunc_1.lenl : ∀ k, (∀ (a2 : Int) (x1 : (List S58)) (x2 : (List S28)) (x3 : Int) (x4 : Int) (r : ((List S58) × (List S28))), slices_rotateCmpFunc_1.l0 k a2 x1 x2 x3 x4 = some r → r.1.length = x1.length)
 | 0 => (by intro a2 x1 x2 x3 x4 r h; unfold slices_rotateCmpFunc_1.l0 at h; cases h)
 | k + 1 => by
  have ih0 := slices_rotateCmpFunc_1.lenl k
  · intro a2 x1 x2 x3 x4 r h
    unfold slices_rotateCmpFunc_1.l0 at h
    by_cases c1 : x3 = x4
    · rw [if_pos c1] at h
      obtain ⟨x5, hx5, h⟩ := Option.bind_eq_some_iff.mp h
      have lhx5 := slices_swapRangeCmpFunc_1.len k x1 (wrap64 (a2 - x3)) a2 x3 x2 _ hx5
      have h := Option.some.inj h
      subst h
      first | rfl | (simp only [List.length_set, lhx5]; done) | exact ⟨by first | rfl | simp only [List.length_set, lhx5]⟩
    · rw [if_neg c1] at h
      by_cases c2 : x3 > x4
      · rw [if_pos c2] at h
        obtain ⟨x6, hx6, h⟩ := Option.bind_eq_some_iff.mp h
        have lhx6 := slices_swapRangeCmpFunc_1.len k x1 (wrap64 (a2 - x3)) a2 x4 x2 _ hx6
        have q := ih0 a2 x6.1 x6.2 (wrap64 (x3 - x4)) x4 _ h
        first | exact q | (simp only [List.length_set, lhx6] at q; exact q)
      · rw [if_neg c2] at h
        obtain ⟨x7, hx7, h⟩ := Option.bind_eq_some_iff.mp h
        have lhx7 := slices_swapRangeCmpFunc_1.len k x1 (wrap64 (a2 - x3)) (wrap64 ((wrap64 (a2 + x4)) - x3)) x3 x2 _ hx7
        have q := ih0 a2 x7.1 x7.2 x3 (wrap64 (x4 - x3)) _ h
        first | exact q | (simp only [List.length_set, lhx7] at q; exact q)
theorem slices_rotateCmpFunc_1.len (k : Nat) (a0 : (List S58)) (a1 : Int) (a2 : Int) (a3 : Int) (a4c0 : (List S28)) (r : ((List S58) × (List S28))) (h : slices_rotateCmpFunc_1.f k a0 a1 a2 a3 a4c0 = some r) : r.1.length = a0.length := by
  unfold slices_rotateCmpFunc_1.f at h
  have ih0 := slices_rotateCmpFunc_1.lenl k
  have q := ih0 a2 a0 a4c0 (wrap64 (a2 - a1)) (wrap64 (a3 - a2)) _ h
  first | exact q | (simp only [List.length_set] at q; exact q)
/-! slices_symMergeCmpFunc_1: function 73 -/
mutual
def slices_symMergeCmpFunc_1.f : Nat → (List S58) → Int → Int → Int → (List S28) → Option ((List S58) × (List S28))
 | 0, _, _, _, _, _ => none
 | k + 1, a0, a1, a2, a3, a4c0 => (if (wrap64 (a2 - a1)) = 1 then (slices_symMergeCmpFunc_1.l0 k a0 a1 a4c0 a2 a3) else (if (wrap64 (a3 - a2)) = 1 then (slices_symMergeCmpFunc_1.l2 k a0 a2 a4c0 a1 a2) else (if a2 > (IntKind.i64.wrap ((IntKind.u64.wrap (wrap64 (a1 + a3))).fdiv (2 ^ 1))) then (slices_symMergeCmpFunc_1.l4 k a0 a1 a2 a3 a4c0 (wrap64 ((wrap64 ((IntKind.i64.wrap ((IntKind.u64.wrap (wrap64 (a1 + a3))).fdiv (2 ^ 1))) + a2)) - a3)) (IntKind.i64.wrap ((IntKind.u64.wrap (wrap64 (a1 + a3))).fdiv (2 ^ 1)))) else (slices_symMergeCmpFunc_1.l4 k a0 a1 a2 a3 a4c0 a1 a2))))
def slices_symMergeCmpFunc_1.l0 : Nat → (List S58) → Int → (List S28) → Int → Int → Option ((List S58) × (List S28))
 | 0, _, _, _, _, _ => none
 | k + 1, a0, a1, x1, x2, x3 => (if x2 < x3 then (if 0 ≤ (IntKind.i64.wrap ((IntKind.u64.wrap (wrap64 (x2 + x3))).fdiv (2 ^ 1))) then (if (IntKind.i64.wrap ((IntKind.u64.wrap (wrap64 (x2 + x3))).fdiv (2 ^ 1))) < (a0.length : Int) then (if 0 ≤ a1 then (if a1 < (a0.length : Int) then ((impl_Board_1.f (at_ a0 (IntKind.i64.wrap ((IntKind.u64.wrap (wrap64 (x2 + x3))).fdiv (2 ^ 1)))) (at_ a0 a1) x1).bind fun x4 => (if x4.1 < 0 then (slices_symMergeCmpFunc_1.l0 k a0 a1 x4.2 (wrap64 ((IntKind.i64.wrap ((IntKind.u64.wrap (wrap64 (x2 + x3))).fdiv (2 ^ 1))) + 1)) x3) else (slices_symMergeCmpFunc_1.l0 k a0 a1 x4.2 x2 (IntKind.i64.wrap ((IntKind.u64.wrap (wrap64 (x2 + x3))).fdiv (2 ^ 1)))))) else none) else none) else none) else none) else (slices_symMergeCmpFunc_1.l1 k x1 x2 a0 a1))
def slices_symMergeCmpFunc_1.l1 : Nat → (List S28) → Int → (List S58) → Int → Option ((List S58) × (List S28))
 | 0, _, _, _, _ => none
 | k + 1, x1, x2, x5, x6 => (if x6 < (wrap64 (x2 - 1)) then (if 0 ≤ (wrap64 (x6 + 1)) then (if (wrap64 (x6 + 1)) < (x5.length : Int) then (if 0 ≤ x6 then (if x6 < (x5.length : Int) then (slices_symMergeCmpFunc_1.l1 k x1 x2 ((x5.set x6.toNat (at_ x5 (wrap64 (x6 + 1)))).set (wrap64 (x6 + 1)).toNat (at_ x5 x6)) (wrap64 (x6 + 1))) else none) else none) else none) else none) else (some (x5, x1)))
def slices_symMergeCmpFunc_1.l2 : Nat → (List S58) → Int → (List S28) → Int → Int → Option ((List S58) × (List S28))
 | 0, _, _, _, _, _ => none
 | k + 1, a0, a2, x7, x8, x9 => (if x8 < x9 then (if 0 ≤ a2 then (if a2 < (a0.length : Int) then (if 0 ≤ (IntKind.i64.wrap ((IntKind.u64.wrap (wrap64 (x8 + x9))).fdiv (2 ^ 1))) then (if (IntKind.i64.wrap ((IntKind.u64.wrap (wrap64 (x8 + x9))).fdiv (2 ^ 1))) < (a0.length : Int) then ((impl_Board_1.f (at_ a0 a2) (at_ a0 (IntKind.i64.wrap ((IntKind.u64.wrap (wrap64 (x8 + x9))).fdiv (2 ^ 1)))) x7).bind fun x10 => (if x10.1 < 0 then (slices_symMergeCmpFunc_1.l2 k a0 a2 x10.2 x8 (IntKind.i64.wrap ((IntKind.u64.wrap (wrap64 (x8 + x9))).fdiv (2 ^ 1)))) else (slices_symMergeCmpFunc_1.l2 k a0 a2 x10.2 (wrap64 ((IntKind.i64.wrap ((IntKind.u64.wrap (wrap64 (x8 + x9))).fdiv (2 ^ 1))) + 1)) x9))) else none) else none) else none) else none) else (slices_symMergeCmpFunc_1.l3 k x7 x8 a0 a2))
def slices_symMergeCmpFunc_1.l3 : Nat → (List S28) → Int → (List S58) → Int → Option ((List S58) × (List S28))
 | 0, _, _, _, _ => none
 | k + 1, x7, x8, x11, x12 => (if x12 > x8 then (if 0 ≤ (wrap64 (x12 - 1)) then (if (wrap64 (x12 - 1)) < (x11.length : Int) then (if 0 ≤ x12 then (if x12 < (x11.length : Int) then (slices_symMergeCmpFunc_1.l3 k x7 x8 ((x11.set x12.toNat (at_ x11 (wrap64 (x12 - 1)))).set (wrap64 (x12 - 1)).toNat (at_ x11 x12)) (wrap64 (x12 - 1))) else none) else none) else none) else none) else (some (x11, x7)))
def slices_symMergeCmpFunc_1.l4 : Nat → (List S58) → Int → Int → Int → (List S28) → Int → Int → Option ((List S58) × (List S28))
 | 0, _, _, _, _, _, _, _ => none
 | k + 1, a0, a1, a2, a3, x13, x14, x15 => (if x14 < x15 then (if 0 ≤ (wrap64 ((wrap64 ((wrap64 ((IntKind.i64.wrap ((IntKind.u64.wrap (wrap64 (a1 + a3))).fdiv (2 ^ 1))) + a2)) - 1)) - (IntKind.i64.wrap ((IntKind.u64.wrap (wrap64 (x14 + x15))).fdiv (2 ^ 1))))) then (if (wrap64 ((wrap64 ((wrap64 ((IntKind.i64.wrap ((IntKind.u64.wrap (wrap64 (a1 + a3))).fdiv (2 ^ 1))) + a2)) - 1)) - (IntKind.i64.wrap ((IntKind.u64.wrap (wrap64 (x14 + x15))).fdiv (2 ^ 1))))) < (a0.length : Int) then (if 0 ≤ (IntKind.i64.wrap ((IntKind.u64.wrap (wrap64 (x14 + x15))).fdiv (2 ^ 1))) then (if (IntKind.i64.wrap ((IntKind.u64.wrap (wrap64 (x14 + x15))).fdiv (2 ^ 1))) < (a0.length : Int) then ((impl_Board_1.f (at_ a0 (wrap64 ((wrap64 ((wrap64 ((IntKind.i64.wrap ((IntKind.u64.wrap (wrap64 (a1 + a3))).fdiv (2 ^ 1))) + a2)) - 1)) - (IntKind.i64.wrap ((IntKind.u64.wrap (wrap64 (x14 + x15))).fdiv (2 ^ 1)))))) (at_ a0 (IntKind.i64.wrap ((IntKind.u64.wrap (wrap64 (x14 + x15))).fdiv (2 ^ 1)))) x13).bind fun x16 => (if x16.1 < 0 then (slices_symMergeCmpFunc_1.l4 k a0 a1 a2 a3 x16.2 x14 (IntKind.i64.wrap ((IntKind.u64.wrap (wrap64 (x14 + x15))).fdiv (2 ^ 1)))) else (slices_symMergeCmpFunc_1.l4 k a0 a1 a2 a3 x16.2 (wrap64 ((IntKind.i64.wrap ((IntKind.u64.wrap (wrap64 (x14 + x15))).fdiv (2 ^ 1))) + 1)) x15))) else none) else none) else none) else none) else (if x14 < a2 then (if a2 < (wrap64 ((wrap64 ((IntKind.i64.wrap ((IntKind.u64.wrap (wrap64 (a1 + a3))).fdiv (2 ^ 1))) + a2)) - x14)) then ((slices_rotateCmpFunc_1.f k a0 x14 a2 (wrap64 ((wrap64 ((IntKind.i64.wrap ((IntKind.u64.wrap (wrap64 (a1 + a3))).fdiv (2 ^ 1))) + a2)) - x14)) x13).bind fun x17 => (slices_symMergeCmpFunc_1.j5 k a1 a2 a3 x14 x17.1 x17.2)) else (slices_symMergeCmpFunc_1.j5 k a1 a2 a3 x14 a0 x13)) else (slices_symMergeCmpFunc_1.j5 k a1 a2 a3 x14 a0 x13)))
def slices_symMergeCmpFunc_1.j5 : Nat → Int → Int → Int → Int → (List S58) → (List S28) → Option ((List S58) × (List S28))
 | 0, _, _, _, _, _, _ => none
 | k + 1, a1, a2, a3, x14, x18, x19 => (if a1 < x14 then (if x14 < (IntKind.i64.wrap ((IntKind.u64.wrap (wrap64 (a1 + a3))).fdiv (2 ^ 1))) then ((slices_symMergeCmpFunc_1.f k x18 a1 x14 (IntKind.i64.wrap ((IntKind.u64.wrap (wrap64 (a1 + a3))).fdiv (2 ^ 1))) x19).bind fun x20 => (if (IntKind.i64.wrap ((IntKind.u64.wrap (wrap64 (a1 + a3))).fdiv (2 ^ 1))) < (wrap64 ((wrap64 ((IntKind.i64.wrap ((IntKind.u64.wrap (wrap64 (a1 + a3))).fdiv (2 ^ 1))) + a2)) - x14)) then (if (wrap64 ((wrap64 ((IntKind.i64.wrap ((IntKind.u64.wrap (wrap64 (a1 + a3))).fdiv (2 ^ 1))) + a2)) - x14)) < a3 then ((slices_symMergeCmpFunc_1.f k x20.1 (IntKind.i64.wrap ((IntKind.u64.wrap (wrap64 (a1 + a3))).fdiv (2 ^ 1))) (wrap64 ((wrap64 ((IntKind.i64.wrap ((IntKind.u64.wrap (wrap64 (a1 + a3))).fdiv (2 ^ 1))) + a2)) - x14)) a3 x20.2).bind fun x21 => (some (x21.1, x21.2))) else (some (x20.1, x20.2))) else (some (x20.1, x20.2)))) else (if (IntKind.i64.wrap ((IntKind.u64.wrap (wrap64 (a1 + a3))).fdiv (2 ^ 1))) < (wrap64 ((wrap64 ((IntKind.i64.wrap ((IntKind.u64.wrap (wrap64 (a1 + a3))).fdiv (2 ^ 1))) + a2)) - x14)) then (if (wrap64 ((wrap64 ((IntKind.i64.wrap ((IntKind.u64.wrap (wrap64 (a1 + a3))).fdiv (2 ^ 1))) + a2)) - x14)) < a3 then ((slices_symMergeCmpFunc_1.f k x18 (IntKind.i64.wrap ((IntKind.u64.wrap (wrap64 (a1 + a3))).fdiv (2 ^ 1))) (wrap64 ((wrap64 ((IntKind.i64.wrap ((IntKind.u64.wrap (wrap64 (a1 + a3))).fdiv (2 ^ 1))) + a2)) - x14)) a3 x19).bind fun x22 => (some (x22.1, x22.2))) else (some (x18, x19))) else (some (x18, x19)))) else (if (IntKind.i64.wrap ((IntKind.u64.wrap (wrap64 (a1 + a3))).fdiv (2 ^ 1))) < (wrap64 ((wrap64 ((IntKind.i64.wrap ((IntKind.u64.wrap (wrap64 (a1 + a3))).fdiv (2 ^ 1))) + a2)) - x14)) then (if (wrap64 ((wrap64 ((IntKind.i64.wrap ((IntKind.u64.wrap (wrap64 (a1 + a3))).fdiv (2 ^ 1))) + a2)) - x14)) < a3 then ((slices_symMergeCmpFunc_1.f k x18 (IntKind.i64.wrap ((IntKind.u64.wrap (wrap64 (a1 + a3))).fdiv (2 ^ 1))) (wrap64 ((wrap64 ((IntKind.i64.wrap ((IntKind.u64.wrap (wrap64 (a1 + a3))).fdiv (2 ^ 1))) + a2)) - x14)) a3 x19).bind fun x23 => (some (x23.1, x23.2))) else (some (x18, x19))) else (some (x18, x19))))
end
theorem slices_symMergeCmpFunc_1.lenl : ∀ k, (∀ (a0 : (List S58)) (a1 : Int) (a2 : Int) (a3 : Int) (a4c0 : (List S28)) (r : ((List S58) × (List S28))), slices_symMergeCmpFunc_1.f k a0 a1 a2 a3 a4c0 = some r → r.1.length = a0.length) ∧ (∀ (a0 : (List S58)) (a1 : Int) (x1 : (List S28)) (x2 : Int) (x3 : Int) (r : ((List S58) × (List S28))), slices_symMergeCmpFunc_1.l0 k a0 a1 x1 x2 x3 = some r → r.1.length = a0.length) ∧ (∀ (x1 : (List S28)) (x2 : Int) (x5 : (List S58)) (x6 : Int) (r : ((List S58) × (List S28))), slices_symMergeCmpFunc_1.l1 k x1 x2 x5 x6 = some r → r.1.length = x5.length) ∧ (∀ (a0 : (List S58)) (a2 : Int) (x7 : (List S28)) (x8 : Int) (x9 : Int) (r : ((List S58) × (List S28))), slices_symMergeCmpFunc_1.l2 k a0 a2 x7 x8 x9 = some r → r.1.length = a0.length) ∧ (∀ (x7 : (List S28)) (x8 : Int) (x11 : (List S58)) (x12 : Int) (r : ((List S58) × (List S28))), slices_symMergeCmpFunc_1.l3 k x7 x8 x11 x12 = some r → r.1.length = x11.length) ∧ (∀ (a0 : (List S58)) (a1 : Int) (a2 : Int) (a3 : Int) (x13 : (List S28)) (x14 : Int) (x15 : Int) (r : ((List S58) × (List S28))), slices_symMergeCmpFunc_1.l4 k a0 a1 a2 a3 x13 x14 x15 = some r → r.1.length = a0.length) ∧ (∀ (a1 : Int) (a2 : Int) (a3 : Int) (x14 : Int) (x18 : (List S58)) (x19 : (List S28)) (r : ((List S58) × (List S28))), slices_symMergeCmpFunc_1.j5 k a1 a2 a3 x14 x18 x19 = some r → r.1.length = x18.length)
 | 0 => ⟨(by intro a0 a1 a2 a3 a4c0 r h; unfold slices_symMergeCmpFunc_1.f at h; cases h), (by intro a0 a1 x1 x2 x3 r h; unfold slices_symMergeCmpFunc_1.l0 at h; cases h), (by intro x1 x2 x5 x6 r h; unfold slices_symMergeCmpFunc_1.l1 at h; cases h), (by intro a0 a2 x7 x8 x9 r h; unfold slices_symMergeCmpFunc_1.l2 at h; cases h), (by intro x7 x8 x11 x12 r h; unfold slices_symMergeCmpFunc_1.l3 at h; cases h), (by intro a0 a1 a2 a3 x13 x14 x15 r h; unfold slices_symMergeCmpFunc_1.l4 at h; cases h), (by intro a1 a2 a3 x14 x18 x19 r h; unfold slices_symMergeCmpFunc_1.j5 at h; cases h)⟩
 | k + 1 => by
  obtain ⟨ihf, ih0, ih1, ih2, ih3, ih4, ih5⟩ := slices_symMergeCmpFunc_1.lenl k
  have lenf := ihf
  refine ⟨?_, ?_, ?_, ?_, ?_, ?_, ?_⟩
  · intro a0 a1 a2 a3 a4c0 r h
    unfold slices_symMergeCmpFunc_1.f at h
    by_cases c1 : (wrap64 (a2 - a1)) = 1
    · rw [if_pos c1] at h
      have q := ih0 a0 a1 a4c0 a2 a3 _ h
      first | exact q | (simp only [List.length_set] at q; exact q)
    · rw [if_neg c1] at h
      by_cases c13 : (wrap64 (a3 - a2)) = 1
      · rw [if_pos c13] at h
        have q := ih2 a0 a2 a4c0 a1 a2 _ h
        first | exact q | (simp only [List.length_set] at q; exact q)
      · rw [if_neg c13] at h
        by_cases c25 : a2 > (IntKind.i64.wrap ((IntKind.u64.wrap (wrap64 (a1 + a3))).fdiv (2 ^ 1)))
        · rw [if_pos c25] at h
          have q := ih4 a0 a1 a2 a3 a4c0 (wrap64 ((wrap64 ((IntKind.i64.wrap ((IntKind.u64.wrap (wrap64 (a1 + a3))).fdiv (2 ^ 1))) + a2)) - a3)) (IntKind.i64.wrap ((IntKind.u64.wrap (wrap64 (a1 + a3))).fdiv (2 ^ 1))) _ h
          first | exact q | (simp only [List.length_set] at q; exact q)
        · rw [if_neg c25] at h
          have q := ih4 a0 a1 a2 a3 a4c0 a1 a2 _ h
          first | exact q | (simp only [List.length_set] at q; exact q)
  · intro a0 a1 x1 x2 x3 r h
    unfold slices_symMergeCmpFunc_1.l0 at h
    by_cases c2 : x2 < x3
    · rw [if_pos c2] at h
      by_cases c3 : 0 ≤ (IntKind.i64.wrap ((IntKind.u64.wrap (wrap64 (x2 + x3))).fdiv (2 ^ 1)))
      · rw [if_pos c3] at h
        by_cases c4 : (IntKind.i64.wrap ((IntKind.u64.wrap (wrap64 (x2 + x3))).fdiv (2 ^ 1))) < (a0.length : Int)
        · rw [if_pos c4] at h
          by_cases c5 : 0 ≤ a1
          · rw [if_pos c5] at h
            by_cases c6 : a1 < (a0.length : Int)
            · rw [if_pos c6] at h
              obtain ⟨x4, hx4, h⟩ := Option.bind_eq_some_iff.mp h
              by_cases c7 : x4.1 < 0
              · rw [if_pos c7] at h
                have q := ih0 a0 a1 x4.2 (wrap64 ((IntKind.i64.wrap ((IntKind.u64.wrap (wrap64 (x2 + x3))).fdiv (2 ^ 1))) + 1)) x3 _ h
                first | exact q | (simp only [List.length_set] at q; exact q)
              · rw [if_neg c7] at h
                have q := ih0 a0 a1 x4.2 x2 (IntKind.i64.wrap ((IntKind.u64.wrap (wrap64 (x2 + x3))).fdiv (2 ^ 1))) _ h
                first | exact q | (simp only [List.length_set] at q; exact q)
            · rw [if_neg c6] at h
              cases h
          · rw [if_neg c5] at h
            cases h
        · rw [if_neg c4] at h
          cases h
      · rw [if_neg c3] at h
        cases h
    · rw [if_neg c2] at h
      have q := ih1 x1 x2 a0 a1 _ h
      first | exact q | (simp only [List.length_set] at q; exact q)
  · intro x1 x2 x5 x6 r h
    unfold slices_symMergeCmpFunc_1.l1 at h
    by_cases c8 : x6 < (wrap64 (x2 - 1))
    · rw [if_pos c8] at h
      by_cases c9 : 0 ≤ (wrap64 (x6 + 1))
      · rw [if_pos c9] at h
        by_cases c10 : (wrap64 (x6 + 1)) < (x5.length : Int)
        · rw [if_pos c10] at h
          by_cases c11 : 0 ≤ x6
          · rw [if_pos c11] at h
            by_cases c12 : x6 < (x5.length : Int)
            · rw [if_pos c12] at h
              have q := ih1 x1 x2 ((x5.set x6.toNat (at_ x5 (wrap64 (x6 + 1)))).set (wrap64 (x6 + 1)).toNat (at_ x5 x6)) (wrap64 (x6 + 1)) _ h
              first | exact q | (simp only [List.length_set] at q; exact q)
            · rw [if_neg c12] at h
              cases h
          · rw [if_neg c11] at h
            cases h
        · rw [if_neg c10] at h
          cases h
      · rw [if_neg c9] at h
        cases h
    · rw [if_neg c8] at h
      have h := Option.some.inj h
      subst h
      first | rfl | (simp only [List.length_set]; done) | exact ⟨by first | rfl | simp only [List.length_set]⟩
  · intro a0 a2 x7 x8 x9 r h
    unfold slices_symMergeCmpFunc_1.l2 at h
    by_cases c14 : x8 < x9
    · rw [if_pos c14] at h
      by_cases c15 : 0 ≤ a2
      · rw [if_pos c15] at h
        by_cases c16 : a2 < (a0.length : Int)
        · rw [if_pos c16] at h
          by_cases c17 : 0 ≤ (IntKind.i64.wrap ((IntKind.u64.wrap (wrap64 (x8 + x9))).fdiv (2 ^ 1)))
          · rw [if_pos c17] at h
            by_cases c18 : (IntKind.i64.wrap ((IntKind.u64.wrap (wrap64 (x8 + x9))).fdiv (2 ^ 1))) < (a0.length : Int)
            · rw [if_pos c18] at h
              obtain ⟨x10, hx10, h⟩ := Option.bind_eq_some_iff.mp h
              by_cases c19 : x10.1 < 0
              · rw [if_pos c19] at h
                have q := ih2 a0 a2 x10.2 x8 (IntKind.i64.wrap ((IntKind.u64.wrap (wrap64 (x8 + x9))).fdiv (2 ^ 1))) _ h
                first | exact q | (simp only [List.length_set] at q; exact q)
              · rw [if_neg c19] at h
                have q := ih2 a0 a2 x10.2 (wrap64 ((IntKind.i64.wrap ((IntKind.u64.wrap (wrap64 (x8 + x9))).fdiv (2 ^ 1))) + 1)) x9 _ h
                first | exact q | (simp only [List.length_set] at q; exact q)
            · rw [if_neg c18] at h
              cases h
          · rw [if_neg c17] at h
            cases h
        · rw [if_neg c16] at h
          cases h
      · rw [if_neg c15] at h
        cases h
    · rw [if_neg c14] at h
      have q := ih3 x7 x8 a0 a2 _ h
      first | exact q | (simp only [List.length_set] at q; exact q)
  · intro x7 x8 x11 x12 r h
    unfold slices_symMergeCmpFunc_1.l3 at h
    by_cases c20 : x12 > x8
    · rw [if_pos c20] at h
      by_cases c21 : 0 ≤ (wrap64 (x12 - 1))
      · rw [if_pos c21] at h
        by_cases c22 : (wrap64 (x12 - 1)) < (x11.length : Int)
        · rw [if_pos c22] at h
          by_cases c23 : 0 ≤ x12
          · rw [if_pos c23] at h
            by_cases c24 : x12 < (x11.length : Int)
            · rw [if_pos c24] at h
              have q := ih3 x7 x8 ((x11.set x12.toNat (at_ x11 (wrap64 (x12 - 1)))).set (wrap64 (x12 - 1)).toNat (at_ x11 x12)) (wrap64 (x12 - 1)) _ h
              first | exact q | (simp only [List.length_set] at q; exact q)
            · rw [if_neg c24] at h
              cases h
          · rw [if_neg c23] at h
            cases h
        · rw [if_neg c22] at h
          cases h
      · rw [if_neg c21] at h
        cases h
    · rw [if_neg c20] at h
      have h := Option.some.inj h
      subst h
      first | rfl | (simp only [List.length_set]; done) | exact ⟨by first | rfl | simp only [List.length_set]⟩
  · intro a0 a1 a2 a3 x13 x14 x15 r h
    unfold slices_symMergeCmpFunc_1.l4 at h
    by_cases c26 : x14 < x15
    · rw [if_pos c26] at h
      by_cases c27 : 0 ≤ (wrap64 ((wrap64 ((wrap64 ((IntKind.i64.wrap ((IntKind.u64.wrap (wrap64 (a1 + a3))).fdiv (2 ^ 1))) + a2)) - 1)) - (IntKind.i64.wrap ((IntKind.u64.wrap (wrap64 (x14 + x15))).fdiv (2 ^ 1)))))
      · rw [if_pos c27] at h
        by_cases c28 : (wrap64 ((wrap64 ((wrap64 ((IntKind.i64.wrap ((IntKind.u64.wrap (wrap64 (a1 + a3))).fdiv (2 ^ 1))) + a2)) - 1)) - (IntKind.i64.wrap ((IntKind.u64.wrap (wrap64 (x14 + x15))).fdiv (2 ^ 1))))) < (a0.length : Int)
        · rw [if_pos c28] at h
          by_cases c29 : 0 ≤ (IntKind.i64.wrap ((IntKind.u64.wrap (wrap64 (x14 + x15))).fdiv (2 ^ 1)))
          · rw [if_pos c29] at h
            by_cases c30 : (IntKind.i64.wrap ((IntKind.u64.wrap (wrap64 (x14 + x15))).fdiv (2 ^ 1))) < (a0.length : Int)
            · rw [if_pos c30] at h
              obtain ⟨x16, hx16, h⟩ := Option.bind_eq_some_iff.mp h
              by_cases c31 : x16.1 < 0
              · rw [if_pos c31] at h
                have q := ih4 a0 a1 a2 a3 x16.2 x14 (IntKind.i64.wrap ((IntKind.u64.wrap (wrap64 (x14 + x15))).fdiv (2 ^ 1))) _ h
                first | exact q | (simp only [List.length_set] at q; exact q)
              · rw [if_neg c31] at h
                have q := ih4 a0 a1 a2 a3 x16.2 (wrap64 ((IntKind.i64.wrap ((IntKind.u64.wrap (wrap64 (x14 + x15))).fdiv (2 ^ 1))) + 1)) x15 _ h
                first | exact q | (simp only [List.length_set] at q; exact q)
            · rw [if_neg c30] at h
              cases h
          · rw [if_neg c29] at h
            cases h
        · rw [if_neg c28] at h
          cases h
      · rw [if_neg c27] at h
        cases h
    · rw [if_neg c26] at h
      by_cases c32 : x14 < a2
      · rw [if_pos c32] at h
        by_cases c33 : a2 < (wrap64 ((wrap64 ((IntKind.i64.wrap ((IntKind.u64.wrap (wrap64 (a1 + a3))).fdiv (2 ^ 1))) + a2)) - x14))
        · rw [if_pos c33] at h
          obtain ⟨x17, hx17, h⟩ := Option.bind_eq_some_iff.mp h
          have lhx17 := slices_rotateCmpFunc_1.len k a0 x14 a2 (wrap64 ((wrap64 ((IntKind.i64.wrap ((IntKind.u64.wrap (wrap64 (a1 + a3))).fdiv (2 ^ 1))) + a2)) - x14)) x13 _ hx17
          have q := ih5 a1 a2 a3 x14 x17.1 x17.2 _ h
          first | exact q | (simp only [List.length_set, lhx17] at q; exact q)
        · rw [if_neg c33] at h
          have q := ih5 a1 a2 a3 x14 a0 x13 _ h
          first | exact q | (simp only [List.length_set] at q; exact q)
      · rw [if_neg c32] at h
        have q := ih5 a1 a2 a3 x14 a0 x13 _ h
        first | exact q | (simp only [List.length_set] at q; exact q)
  · intro a1 a2 a3 x14 x18 x19 r h
    unfold slices_symMergeCmpFunc_1.j5 at h
    by_cases c34 : a1 < x14
    · rw [if_pos c34] at h
      by_cases c35 : x14 < (IntKind.i64.wrap ((IntKind.u64.wrap (wrap64 (a1 + a3))).fdiv (2 ^ 1)))
      · rw [if_pos c35] at h
        obtain ⟨x20, hx20, h⟩ := Option.bind_eq_some_iff.mp h
        have lhx20 := ihf x18 a1 x14 (IntKind.i64.wrap ((IntKind.u64.wrap (wrap64 (a1 + a3))).fdiv (2 ^ 1))) x19 _ hx20
        by_cases c36 : (IntKind.i64.wrap ((IntKind.u64.wrap (wrap64 (a1 + a3))).fdiv (2 ^ 1))) < (wrap64 ((wrap64 ((IntKind.i64.wrap ((IntKind.u64.wrap (wrap64 (a1 + a3))).fdiv (2 ^ 1))) + a2)) - x14))
        · rw [if_pos c36] at h
          by_cases c37 : (wrap64 ((wrap64 ((IntKind.i64.wrap ((IntKind.u64.wrap (wrap64 (a1 + a3))).fdiv (2 ^ 1))) + a2)) - x14)) < a3
          · rw [if_pos c37] at h
            obtain ⟨x21, hx21, h⟩ := Option.bind_eq_some_iff.mp h
            have lhx21 := ihf x20.1 (IntKind.i64.wrap ((IntKind.u64.wrap (wrap64 (a1 + a3))).fdiv (2 ^ 1))) (wrap64 ((wrap64 ((IntKind.i64.wrap ((IntKind.u64.wrap (wrap64 (a1 + a3))).fdiv (2 ^ 1))) + a2)) - x14)) a3 x20.2 _ hx21
            have h := Option.some.inj h
            subst h
            first | rfl | (simp only [List.length_set, lhx20, lhx21]; done) | exact ⟨by first | rfl | simp only [List.length_set, lhx20, lhx21]⟩
          · rw [if_neg c37] at h
            have h := Option.some.inj h
            subst h
            first | rfl | (simp only [List.length_set, lhx20]; done) | exact ⟨by first | rfl | simp only [List.length_set, lhx20]⟩
        · rw [if_neg c36] at h
          have h := Option.some.inj h
          subst h
          first | rfl | (simp only [List.length_set, lhx20]; done) | exact ⟨by first | rfl | simp only [List.length_set, lhx20]⟩
      · rw [if_neg c35] at h
        by_cases c38 : (IntKind.i64.wrap ((IntKind.u64.wrap (wrap64 (a1 + a3))).fdiv (2 ^ 1))) < (wrap64 ((wrap64 ((IntKind.i64.wrap ((IntKind.u64.wrap (wrap64 (a1 + a3))).fdiv (2 ^ 1))) + a2)) - x14))
        · rw [if_pos c38] at h
          by_cases c39 : (wrap64 ((wrap64 ((IntKind.i64.wrap ((IntKind.u64.wrap (wrap64 (a1 + a3))).fdiv (2 ^ 1))) + a2)) - x14)) < a3
          · rw [if_pos c39] at h
            obtain ⟨x22, hx22, h⟩ := Option.bind_eq_some_iff.mp h
            have lhx22 := ihf x18 (IntKind.i64.wrap ((IntKind.u64.wrap (wrap64 (a1 + a3))).fdiv (2 ^ 1))) (wrap64 ((wrap64 ((IntKind.i64.wrap ((IntKind.u64.wrap (wrap64 (a1 + a3))).fdiv (2 ^ 1))) + a2)) - x14)) a3 x19 _ hx22
            have h := Option.some.inj h
            subst h
            first | rfl | (simp only [List.length_set, lhx22]; done) | exact ⟨by first | rfl | simp only [List.length_set, lhx22]⟩
          · rw [if_neg c39] at h
            have h := Option.some.inj h
            subst h
            first | rfl | (simp only [List.length_set]; done) | exact ⟨by first | rfl | simp only [List.length_set]⟩
        · rw [if_neg c38] at h
          have h := Option.some.inj h
          subst h
          first | rfl | (simp only [List.length_set]; done) | exact ⟨by first | rfl | simp only [List.length_set]⟩
    · rw [if_neg c34] at h
      by_cases c40 : (IntKind.i64.wrap ((IntKind.u64.wrap (wrap64 (a1 + a3))).fdiv (2 ^ 1))) < (wrap64 ((wrap64 ((IntKind.i64.wrap ((IntKind.u64.wrap (wrap64 (a1 + a3))).fdiv (2 ^ 1))) + a2)) - x14))
      · rw [if_pos c40] at h
        by_cases c41 : (wrap64 ((wrap64 ((IntKind.i64.wrap ((IntKind.u64.wrap (wrap64 (a1 + a3))).fdiv (2 ^ 1))) + a2)) - x14)) < a3
        · rw [if_pos c41] at h
          obtain ⟨x23, hx23, h⟩ := Option.bind_eq_some_iff.mp h
          have lhx23 := ihf x18 (IntKind.i64.wrap ((IntKind.u64.wrap (wrap64 (a1 + a3))).fdiv (2 ^ 1))) (wrap64 ((wrap64 ((IntKind.i64.wrap ((IntKind.u64.wrap (wrap64 (a1 + a3))).fdiv (2 ^ 1))) + a2)) - x14)) a3 x19 _ hx23
          have h := Option.some.inj h
          subst h
          first | rfl | (simp only [List.length_set, lhx23]; done) | exact ⟨by first | rfl | simp only [List.length_set, lhx23]⟩
        · rw [if_neg c41] at h
          have h := Option.some.inj h
          subst h
          first | rfl | (simp only [List.length_set]; done) | exact ⟨by first | rfl | simp only [List.length_set]⟩
      · rw [if_neg c40] at h
        have h := Option.some.inj h
        subst h
        first | rfl | (simp only [List.length_set]; done) | exact ⟨by first | rfl | simp only [List.length_set]⟩
theorem slices_symMergeCmpFunc_1.len (k : Nat) (a0 : (List S58)) (a1 : Int) (a2 : Int) (a3 : Int) (a4c0 : (List S28)) (r : ((List S58) × (List S28))) (h : slices_symMergeCmpFunc_1.f k a0 a1 a2 a3 a4c0 = some r) : r.1.length = a0.length := by
  exact (slices_symMergeCmpFunc_1.lenl k).1 a0 a1 a2 a3 a4c0 r h
end Go.Proofs.Ytoeedickghjdbaa.Fns
