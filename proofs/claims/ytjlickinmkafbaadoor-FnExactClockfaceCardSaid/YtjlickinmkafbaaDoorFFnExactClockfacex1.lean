/- The functions that the law FnExactClockface reaches, by the engine. Printed by a program of this seat. -/
import Derived.Test.YtjlickinmkafbaaDoorE5
import Derived.Test.YtjlickinmkafbaaDoorProg
import Derived.Test.YtjlickinmkafbaaDoorFFnExactClockfacex0
namespace Go.Proofs.YtjlickinmkafbaaDoor.Fns
open Go.Proofs.Tryd Go.Proofs.YtjlickinmkafbaaDoor.Eng Go.RowKit
set_option maxRecDepth 100000
set_option linter.unusedVariables false
set_option linter.unusedSimpArgs false
theorem spec_TableOk.lab : ∀ k, (∀ (a0 : (List S28)) (x1 : Int) (r : Bool), spec_TableOk.l0 k a0 x1 = some r → J prog (.run 40 [] [l_ 58, b_ 0, c_ 15] [(0, (.sl true a0.length 2 (a0.flatMap (e28 true)))), (3, (I x1))] [] (B r) [])) ∧ (∀ (a0 : (List S28)) (x1 : Int) (x3 : Int) (r : Bool), spec_TableOk.l1 k a0 x1 x3 = some r → J prog (.run 40 [] [l_ 7462, b_ 2, b_ 1, c_ 467, l_ 58, b_ 0, c_ 15] [(0, (.sl true a0.length 2 (a0.flatMap (e28 true)))), (3, (I x1)), (4, (I x3))] [] (B r) []))
 | 0 => ⟨(by intro a0 x1 r h; unfold spec_TableOk.l0 at h; cases h), (by intro a0 x1 x3 r h; unfold spec_TableOk.l1 at h; cases h)⟩
 | k + 1 => by
  obtain ⟨ih0, ih1⟩ := spec_TableOk.lab k
  refine ⟨?_, ?_⟩
  · intro a0 x1 r h
    unfold spec_TableOk.l0 at h
    refine .loop' [c_ 464, c_ 465, c_ 233, l_ 58, b_ 0, c_ 15] ?_
    refine .reg' [0, 3, 11] [] ⟨[(0, (.sl true a0.length 2 (a0.flatMap (e28 true)))), (3, (I x1)), (11, (B (decide (x1 < (a0.length : Int)))))], [], [], []⟩ [c_ 465, c_ 233, l_ 58, b_ 0, c_ 15] aln nocal ?_
    by_cases c2 : x1 < (a0.length : Int)
    · rw [if_pos c2] at h
      refine .cond' (.tmp 11) true [c_ 3728, c_ 3729, c_ 1865, b_ 1, c_ 467, l_ 58, b_ 0, c_ 15] (bT (dT c2)) ?_
      by_cases c3 : 0 ≤ x1
      · rw [if_pos c3] at h
        obtain ⟨x2, hx2, h⟩ := Option.bind_eq_some_iff.mp h
        refine .reg' [0, 3, 19] [.no, .no, .no, .v (.ag [(S (at_ a0 x1).f0), (.sl true (at_ a0 x1).f1.length 3 ((at_ a0 x1).f1.flatMap e48))]), .c ⟨31, [(.ag [(S (at_ a0 x1).f0), (.sl true (at_ a0 x1).f1.length 3 ((at_ a0 x1).f1.flatMap e48))])], [], (B x2), [], [], [], [], (B x2), []⟩] ⟨[(0, (.sl true a0.length 2 (a0.flatMap (e28 true)))), (3, (I x1)), (19, (B (!x2)))], [], [(0 : Int) ≤ x1 ∧ x1 < (a0.length : Int), rdC prog 29 ((a0.flatMap (e28 true)).drop (x1.toNat * 2)) = (.ag [(S (at_ a0 x1).f0), (.sl true (at_ a0 x1).f1.length 3 ((at_ a0 x1).f1.flatMap e48))]), 2 ≤ ((a0.flatMap (e28 true)).drop (x1.toNat * 2)).length, COK (hget []) [(.ag [(S (at_ a0 x1).f0), (.sl true (at_ a0 x1).f1.length 3 ((at_ a0 x1).f1.flatMap e48))])] ⟨31, [(.ag [(S (at_ a0 x1).f0), (.sl true (at_ a0 x1).f1.length 3 ((at_ a0 x1).f1.flatMap e48))])], [], (B x2), [], [], [], [], (B x2), []⟩], [⟨31, [(.ag [(S (at_ a0 x1).f0), (.sl true (at_ a0 x1).f1.length 3 ((at_ a0 x1).f1.flatMap e48))])], [], (B x2), [], [], [], [], (B x2), []⟩]⟩ [c_ 3729, c_ 1865, b_ 1, c_ 467, l_ 58, b_ 0, c_ 15] (alc ⟨c3, c2⟩ (alc (ldA (e28_ok true) rfl rfl c3 c2) (alc (okI (e28_ok true) c3 c2 (by decide)) (alc (cok0 false (a2c (.z (frz_ag (a2c .s (a2c (frz_sl e48_ok (fun h => h)) a2n)))) a2n) (.z .s) (fun h => absurd h (by decide))) aln)))) (acal (spec_TripOk.J k (at_ a0 x1) _ hx2) nocal) ?_
        by_cases c4 : x2 = true
        · rw [if_pos c4] at h
          refine .cond' (.tmp 19) false [c_ 3730, c_ 3731, b_ 1, c_ 467, l_ 58, b_ 0, c_ 15] (bF (nF c4)) ?_
          refine .reg' [0, 3, 4] [] ⟨[(0, (.sl true a0.length 2 (a0.flatMap (e28 true)))), (3, (I x1)), (4, (I 0))], [], [], []⟩ [l_ 7462, b_ 2, b_ 1, c_ 467, l_ 58, b_ 0, c_ 15] aln nocal ?_
          exact ih1 a0 x1 0 _ h
        · rw [if_neg c4] at h
          refine .cond' (.tmp 19) true [c_ 14916, c_ 14917, c_ 1865, b_ 1, c_ 467, l_ 58, b_ 0, c_ 15] (bT (nT (vF c4))) ?_
          refine .reg' [2] [] ⟨[(2, (B false))], [], [], []⟩ [c_ 14917, c_ 1865, b_ 1, c_ 467, l_ 58, b_ 0, c_ 15] aln nocal ?_
          have h := Option.some.inj h
          subst h
          exact .fin0 [] (B false) [] aln (.z .s)
      · rw [if_neg c3] at h
        cases h
    · rw [if_neg c2] at h
      refine .cond' (.tmp 11) false [c_ 30, c_ 31] (bF (dF c2)) ?_
      refine .reg' [2] [] ⟨[(2, (B true))], [], [], []⟩ [c_ 31] aln nocal ?_
      have h := Option.some.inj h
      subst h
      exact .fin0 [] (B true) [] aln (.z .s)
  · intro a0 x1 x3 r h
    unfold spec_TableOk.l1 at h
    refine .loop' [c_ 59696, c_ 59697, c_ 29849, l_ 7462, b_ 2, b_ 1, c_ 467, l_ 58, b_ 0, c_ 15] ?_
    refine .reg' [0, 3, 4, 22] [] ⟨[(0, (.sl true a0.length 2 (a0.flatMap (e28 true)))), (3, (I x1)), (4, (I x3)), (22, (B (decide (x3 < x1))))], [], [], []⟩ [c_ 59697, c_ 29849, l_ 7462, b_ 2, b_ 1, c_ 467, l_ 58, b_ 0, c_ 15] aln nocal ?_
    by_cases c5 : x3 < x1
    · rw [if_pos c5] at h
      refine .cond' (.tmp 22) true [c_ 238792, c_ 238793, b_ 3, c_ 59699, l_ 7462, b_ 2, b_ 1, c_ 467, l_ 58, b_ 0, c_ 15] (bT (dT c5)) ?_
      by_cases c6 : 0 ≤ x3
      · rw [if_pos c6] at h
        by_cases c7 : x3 < (a0.length : Int)
        · rw [if_pos c7] at h
          by_cases c8 : 0 ≤ x1
          · rw [if_pos c8] at h
            by_cases c9 : x1 < (a0.length : Int)
            · rw [if_pos c9] at h
              refine .reg' [0, 3, 4, 35] [.no, .no, .no, .no, .v (S (at_ a0 x3).f0), .no, .no, .no, .no, .v (S (at_ a0 x1).f0)] ⟨[(0, (.sl true a0.length 2 (a0.flatMap (e28 true)))), (3, (I x1)), (4, (I x3)), (35, (B (sEq (at_ a0 x3).f0 (at_ a0 x1).f0)))], [], [(0 : Int) ≤ x3 ∧ x3 < (a0.length : Int), rdC prog 9 (((a0.flatMap (e28 true)).drop (x3.toNat * 2)).drop 0) = (S (at_ a0 x3).f0), 1 ≤ (((a0.flatMap (e28 true)).drop (x3.toNat * 2)).drop 0).length, (0 : Int) ≤ x1 ∧ x1 < (a0.length : Int), rdC prog 9 (((a0.flatMap (e28 true)).drop (x1.toNat * 2)).drop 0) = (S (at_ a0 x1).f0), 1 ≤ (((a0.flatMap (e28 true)).drop (x1.toNat * 2)).drop 0).length], []⟩ [c_ 238793, b_ 3, c_ 59699, l_ 7462, b_ 2, b_ 1, c_ 467, l_ 58, b_ 0, c_ 15] (alc ⟨c6, c7⟩ (alc (ldC (e28_ok true) 0 (by decide) rfl c6 c7) (alc (okIj (e28_ok true) c6 c7 (by decide)) (alc ⟨c8, c9⟩ (alc (ldC (e28_ok true) 0 (by decide) rfl c8 c9) (alc (okIj (e28_ok true) c8 c9 (by decide)) aln)))))) nocal ?_
              by_cases c10 : (sEq (at_ a0 x3).f0 (at_ a0 x1).f0) = true
              · rw [if_pos c10] at h
                refine .cond' (.tmp 35) true [c_ 955172, c_ 955173, b_ 3, c_ 59699, l_ 7462, b_ 2, b_ 1, c_ 467, l_ 58, b_ 0, c_ 15] (bT c10) ?_
                refine .reg' [2] [] ⟨[(2, (B false))], [], [], []⟩ [c_ 955173, b_ 3, c_ 59699, l_ 7462, b_ 2, b_ 1, c_ 467, l_ 58, b_ 0, c_ 15] aln nocal ?_
                have h := Option.some.inj h
                subst h
                exact .fin0 [] (B false) [] aln (.z .s)
              · rw [if_neg c10] at h
                refine .cond' (.tmp 35) false [c_ 59699, l_ 7462, b_ 2, b_ 1, c_ 467, l_ 58, b_ 0, c_ 15] (bF (vF c10)) ?_
                refine .reg' [0, 3, 4] [] ⟨[(0, (.sl true a0.length 2 (a0.flatMap (e28 true)))), (3, (I x1)), (4, (I (wrap64 (x3 + 1))))], [], [], []⟩ [l_ 7462, b_ 2, b_ 1, c_ 467, l_ 58, b_ 0, c_ 15] aln nocal ?_
                exact ih1 a0 x1 (wrap64 (x3 + 1)) _ h
            · rw [if_neg c9] at h
              cases h
          · rw [if_neg c8] at h
            cases h
        · rw [if_neg c7] at h
          cases h
      · rw [if_neg c6] at h
        cases h
    · rw [if_neg c5] at h
      refine .cond' (.tmp 22) false [c_ 467, l_ 58, b_ 0, c_ 15] (bF (dF c5)) ?_
      refine .reg' [0, 3] [] ⟨[(0, (.sl true a0.length 2 (a0.flatMap (e28 true)))), (3, (I (wrap64 (x1 + 1))))], [], [], []⟩ [l_ 58, b_ 0, c_ 15] aln nocal ?_
      exact ih0 a0 (wrap64 (x1 + 1)) _ h
theorem spec_TableOk.J (k : Nat) (a0 : (List S28)) (r : Bool) (h : spec_TableOk.f k a0 = some r) : J prog (.call 40 [(.sl true a0.length 2 (a0.flatMap (e28 true)))] [] (B r) []) := by
  unfold spec_TableOk.f at h
  obtain ⟨ih0, ih1⟩ := spec_TableOk.lab k
  refine .call' [c_ 2, c_ 3] ?_
  refine .reg' [0] [] ⟨[(0, (.sl true a0.length 2 (a0.flatMap (e28 true))))], [], [], []⟩ [c_ 12, c_ 13, c_ 7] aln nocal ?_
  refine .reg' [0, 7] [] ⟨[(0, (.sl true a0.length 2 (a0.flatMap (e28 true)))), (7, (B (decide ((a0.length : Int) > 24))))], [], [], []⟩ [c_ 13, c_ 7] aln nocal ?_
  by_cases c1 : (a0.length : Int) > 24
  · rw [if_pos c1] at h
    refine .cond' (.tmp 7) true [c_ 52, c_ 53, c_ 7] (bT (dT c1)) ?_
    refine .reg' [2] [] ⟨[(2, (B false))], [], [], []⟩ [c_ 53, c_ 7] aln nocal ?_
    have h := Option.some.inj h
    subst h
    exact .fin0 [] (B false) [] aln (.z .s)
  · rw [if_neg c1] at h
    refine .cond' (.tmp 7) false [c_ 28, c_ 29, c_ 15] (bF (dF c1)) ?_
    refine .reg' [0, 3] [] ⟨[(0, (.sl true a0.length 2 (a0.flatMap (e28 true)))), (3, (I 0))], [], [], []⟩ [l_ 58, b_ 0, c_ 15] aln nocal ?_
    exact ih0 a0 0 _ h
/-! spec_Clockface: function 13 -/
def spec_Clockface.l0 : Nat → S28 → Int → Int → (List S28) → Int → Option (List S28)
 | 0, _, _, _, _, _ => none
 | k + 1, a0, a1, a2, x4, x5 => (if x5 < a2 then ((spec_Moved.f k a0 (wrap64 (x5 * a1))).bind fun x6 => ((spec_l01Num.f k x5).bind fun x7 => (if a0.f0.size + x7.size ≤ 9223372036854775807 then (if (x4.length + ([(⟨(a0.f0 ++ x7), x6.f1⟩ : S28)] : List S28).length) * 40 ≤ 70368744177664 then (spec_Clockface.l0 k a0 a1 a2 (x4 ++ ([(⟨(a0.f0 ++ x7), x6.f1⟩ : S28)] : List S28)) (wrap64 (x5 + 1))) else none) else none))) else ((spec_TableOk.f k x4).bind fun x8 => (if x8 = true then (some x4) else (some ([] : List S28)))))
def spec_Clockface.f (k : Nat) (a0 : S28) (a1 : Int) (a2 : Int) : Option (List S28) := ((spec_TripOk.f k a0).bind fun x1 => (if x1 = true then ((spec_l01In.f a1 1 1440).bind fun x2 => (if x2 = true then ((spec_l01In.f a2 1 24).bind fun x3 => (if x3 = true then (spec_Clockface.l0 k a0 a1 a2 ([] : List S28) 0) else (some ([] : List S28)))) else (some ([] : List S28)))) else (some ([] : List S28))))
theorem spec_Clockface.lab : ∀ k, (∀ (a0 : S28) (a1 : Int) (a2 : Int) (x4 : (List S28)) (x5 : Int) (r : (List S28)), spec_Clockface.l0 k a0 a1 a2 x4 x5 = some r → J prog (.run 13 [] [l_ 122, b_ 0, c_ 31] [(1, (I a1)), (2, (I a2)), (3, (.pt 256 0 2)), (7, (.rf 1024 0 x4.length 2 (x4.length * 2))), (8, (I x5))] [(256, [(S a0.f0), (.sl true a0.f1.length 3 (a0.f1.flatMap e48))]), (1024, (x4.flatMap (e28 false)))] (.rf 1024 0 r.length 2 (r.length * 2)) [(1024, (r.flatMap (e28 false)))]))
 | 0 => (by intro a0 a1 a2 x4 x5 r h; unfold spec_Clockface.l0 at h; cases h)
 | k + 1 => by
  have ih0 := spec_Clockface.lab k
  · intro a0 a1 a2 x4 x5 r h
    unfold spec_Clockface.l0 at h
    refine .loop' [c_ 976, c_ 977, c_ 489, l_ 122, b_ 0, c_ 31] ?_
    refine .reg' [1, 2, 3, 7, 8, 26] [] ⟨[(1, (I a1)), (2, (I a2)), (3, (.pt 256 0 2)), (7, (.rf 1024 0 x4.length 2 (x4.length * 2))), (8, (I x5)), (26, (B (decide (x5 < a2))))], [(256, [(S a0.f0), (.sl true a0.f1.length 3 (a0.f1.flatMap e48))]), (1024, (x4.flatMap (e28 false)))], [], []⟩ [c_ 977, c_ 489, l_ 122, b_ 0, c_ 31] aln nocal ?_
    by_cases c4 : x5 < a2
    · rw [if_pos c4] at h
      refine .cond' (.tmp 26) true [c_ 3912, c_ 3913, b_ 1, c_ 979, l_ 122, b_ 0, c_ 31] (bT (dT c4)) ?_
      obtain ⟨x6, hx6, h⟩ := Option.bind_eq_some_iff.mp h
      refine .reg' [1, 2, 3, 7, 8, 9] [.no, .no, .no, .no, .c ⟨39, [(.ag [(S a0.f0), (.sl true a0.f1.length 3 (a0.f1.flatMap e48))]), (I (wrap64 (x5 * a1)))], [], (.ag [(S x6.f0), (.rf 3016433 0 x6.f1.length 3 (x6.f1.length * 3))]), [(3016433, (x6.f1.flatMap e48))], [], [], [(1002052, 3016433)], (.ag [(S x6.f0), (.rf 1002052 0 x6.f1.length 3 (x6.f1.length * 3))]), [(1002052, (x6.f1.flatMap e48))]⟩] ⟨[(1, (I a1)), (2, (I a2)), (3, (.pt 256 0 2)), (7, (.rf 1024 0 x4.length 2 (x4.length * 2))), (8, (I x5)), (9, (.pt 2053 0 2))], [(256, [(S a0.f0), (.sl true a0.f1.length 3 (a0.f1.flatMap e48))]), (1024, (x4.flatMap (e28 false))), (1002052, (x6.f1.flatMap e48)), (2053, [(S x6.f0), (.rf 1002052 0 x6.f1.length 3 (x6.f1.length * 3))])], [2 = 2 ∧ 0 + 2 ≤ 2, COK (hget [(256, [(S a0.f0), (.sl true a0.f1.length 3 (a0.f1.flatMap e48))]), (1024, (x4.flatMap (e28 false)))]) [(.ag [(S a0.f0), (.sl true a0.f1.length 3 (a0.f1.flatMap e48))]), (I (wrap64 (x5 * a1)))] ⟨39, [(.ag [(S a0.f0), (.sl true a0.f1.length 3 (a0.f1.flatMap e48))]), (I (wrap64 (x5 * a1)))], [], (.ag [(S x6.f0), (.rf 3016433 0 x6.f1.length 3 (x6.f1.length * 3))]), [(3016433, (x6.f1.flatMap e48))], [], [], [(1002052, 3016433)], (.ag [(S x6.f0), (.rf 1002052 0 x6.f1.length 3 (x6.f1.length * 3))]), [(1002052, (x6.f1.flatMap e48))]⟩, 2 = 2 ∧ 0 + 2 ≤ 2], [⟨39, [(.ag [(S a0.f0), (.sl true a0.f1.length 3 (a0.f1.flatMap e48))]), (I (wrap64 (x5 * a1)))], [], (.ag [(S x6.f0), (.rf 3016433 0 x6.f1.length 3 (x6.f1.length * 3))]), [(3016433, (x6.f1.flatMap e48))], [], [], [(1002052, 3016433)], (.ag [(S x6.f0), (.rf 1002052 0 x6.f1.length 3 (x6.f1.length * 3))]), [(1002052, (x6.f1.flatMap e48))]⟩]⟩ [c_ 7826, c_ 7827, b_ 1, c_ 979, l_ 122, b_ 0, c_ 31] (alc ⟨rfl, by decide⟩ (alc (cokW false (a2c (.z (frz_ag (a2c .s (a2c (frz_sl e48_ok (fun h => h)) a2n)))) (a2c (.z .s) a2n)) akn (akc (.inr rfl) akn) (bck_ag (a2c (.z .s) (a2c (.rf (memP_mem (p := (1002052, 3016433)) rfl)) a2n))) (akc ⟨_, _, rfl, rfl, rowB e48_c _⟩ akn) (fun h => absurd h (by decide))) (alc ⟨rfl, by decide⟩ aln))) (acal (spec_Moved.J k a0 (wrap64 (x5 * a1)) _ hx6) nocal) ?_
      obtain ⟨x7, hx7, h⟩ := Option.bind_eq_some_iff.mp h
      by_cases c5 : a0.f0.size + x7.size ≤ 9223372036854775807
      · rw [if_pos c5] at h
        refine .reg' [1, 2, 3, 7, 8, 9] [.no, .no, .no, .c ⟨32, [(I x5)], [], (S x7), [], [], [], [], (S x7), []⟩] ⟨[(1, (I a1)), (2, (I a2)), (3, (.pt 256 0 2)), (7, (.rf 1024 0 x4.length 2 (x4.length * 2))), (8, (I x5)), (9, (.pt 2053 0 2))], [(256, [(S a0.f0), (.sl true a0.f1.length 3 (a0.f1.flatMap e48))]), (1024, (x4.flatMap (e28 false))), (1002052, (x6.f1.flatMap e48)), (2053, [(S (a0.f0 ++ x7)), (.rf 1002052 0 x6.f1.length 3 (x6.f1.length * 3))])], [2 = 2 ∧ 0 + 1 ≤ 2, COK (hget [(256, [(S a0.f0), (.sl true a0.f1.length 3 (a0.f1.flatMap e48))]), (1024, (x4.flatMap (e28 false))), (1002052, (x6.f1.flatMap e48)), (2053, [(S x6.f0), (.rf 1002052 0 x6.f1.length 3 (x6.f1.length * 3))])]) [(I x5)] ⟨32, [(I x5)], [], (S x7), [], [], [], [], (S x7), []⟩, a0.f0.size + x7.size ≤ 9223372036854775807, 2 = 2 ∧ 0 + 1 ≤ 2], [⟨32, [(I x5)], [], (S x7), [], [], [], [], (S x7), []⟩]⟩ [c_ 7827, b_ 1, c_ 979, l_ 122, b_ 0, c_ 31] (alc ⟨rfl, by decide⟩ (alc (cok0 false (a2c (.z .s) a2n) (.z .s) (fun h => absurd h (by decide))) (alc c5 (alc ⟨rfl, by decide⟩ aln)))) (acal (spec_l01Num.J k x5 _ hx7) nocal) ?_
        refine .wk' [1002052] [(256, 256), (1024, 1024), (2053, 2053)] [(1, (I a1)), (2, (I a2)), (3, (.pt 256 0 2)), (7, (.rf 1024 0 x4.length 2 (x4.length * 2))), (8, (I x5)), (9, (.pt 2053 0 2))] [(256, [(S a0.f0), (.sl true a0.f1.length 3 (a0.f1.flatMap e48))]), (1024, (x4.flatMap (e28 false))), (2053, [(S (a0.f0 ++ x7)), (.sl false x6.f1.length 3 (x6.f1.flatMap e48))])] (shc 256 (a2c (.z .s) (a2c (.z (frz_sl e48_ok (fun h => h))) a2n)) (shc 1024 (rowF (e28_ok false) _) (shc 2053 (a2c (.z .s) (a2c (.z (frz_rf (k := 1002052) e48_ok (by simp) rfl rfl (row_len e48_ok _).symm)) a2n)) shn))) (enc_ (.z .s) (enc_ (.z .s) (enc_ (.pt (memP_mem (p := (256, 256)) rfl)) (enc_ (.rf (memP_mem (p := (1024, 1024)) rfl)) (enc_ (.z .s) (enc_ (.pt (memP_mem (p := (2053, 2053)) rfl)) enn)))))) ?_
        by_cases c6 : (x4.length + ([(⟨(a0.f0 ++ x7), x6.f1⟩ : S28)] : List S28).length) * 40 ≤ 70368744177664
        · rw [if_pos c6] at h
          refine .reg' [1, 2, 3, 7, 8] [.no, .no, .no, .w (.rf 1024 0 ((x4 ++ ([(⟨(a0.f0 ++ x7), x6.f1⟩ : S28)] : List S28)).length) 2 ((x4 ++ ([(⟨(a0.f0 ++ x7), x6.f1⟩ : S28)] : List S28)).length * 2)) ((x4 ++ ([(⟨(a0.f0 ++ x7), x6.f1⟩ : S28)] : List S28)).flatMap (e28 false))] ⟨[(1, (I a1)), (2, (I a2)), (3, (.pt 256 0 2)), (7, (.rf 1024 0 ((x4 ++ ([(⟨(a0.f0 ++ x7), x6.f1⟩ : S28)] : List S28)).length) 2 ((x4 ++ ([(⟨(a0.f0 ++ x7), x6.f1⟩ : S28)] : List S28)).length * 2))), (8, (I x5))], [(256, [(S a0.f0), (.sl true a0.f1.length 3 (a0.f1.flatMap e48))]), (1024, ((x4 ++ ([(⟨(a0.f0 ++ x7), x6.f1⟩ : S28)] : List S28)).flatMap (e28 false))), (2053, [(S (a0.f0 ++ x7)), (.sl false x6.f1.length 3 (x6.f1.flatMap e48))]), (2562, (([(⟨(a0.f0 ++ x7), x6.f1⟩ : S28)] : List S28).flatMap (e28 false)))], [2 = 2 ∧ 0 + 2 ≤ 2, V.rf 1024 0 (x4.length + ([(⟨(a0.f0 ++ x7), x6.f1⟩ : S28)] : List S28).length) 2 (x4.length * 2 + ([(⟨(a0.f0 ++ x7), x6.f1⟩ : S28)] : List S28).length * 2) = (.rf 1024 0 ((x4 ++ ([(⟨(a0.f0 ++ x7), x6.f1⟩ : S28)] : List S28)).length) 2 ((x4 ++ ([(⟨(a0.f0 ++ x7), x6.f1⟩ : S28)] : List S28)).length * 2)), x4.flatMap (e28 false) ++ (((([(⟨(a0.f0 ++ x7), x6.f1⟩ : S28)] : List S28).flatMap (e28 false)).drop 0).take (([(⟨(a0.f0 ++ x7), x6.f1⟩ : S28)] : List S28).length * 2)) = ((x4 ++ ([(⟨(a0.f0 ++ x7), x6.f1⟩ : S28)] : List S28)).flatMap (e28 false)), (([(⟨(a0.f0 ++ x7), x6.f1⟩ : S28)] : List S28).length * 2 = (([(⟨(a0.f0 ++ x7), x6.f1⟩ : S28)] : List S28).flatMap (e28 false)).length ∧ 0 + ([(⟨(a0.f0 ++ x7), x6.f1⟩ : S28)] : List S28).length * 2 ≤ (([(⟨(a0.f0 ++ x7), x6.f1⟩ : S28)] : List S28).flatMap (e28 false)).length) ∧ x4.length * 2 = (x4.flatMap (e28 false)).length ∧ x4.length * 2 = (x4.flatMap (e28 false)).length ∧ (x4.length + ([(⟨(a0.f0 ++ x7), x6.f1⟩ : S28)] : List S28).length) * 40 ≤ 70368744177664], []⟩ [c_ 979, l_ 122, b_ 0, c_ 31] (alc ⟨rfl, by decide⟩ (alc (apV rfl) (alc (apR (e28_ok false) rfl) (alc (apO (e28_ok false) rfl c6 rfl) aln)))) nocal ?_
          refine .reg' [1, 2, 3, 7, 8] [] ⟨[(1, (I a1)), (2, (I a2)), (3, (.pt 256 0 2)), (7, (.rf 1024 0 ((x4 ++ ([(⟨(a0.f0 ++ x7), x6.f1⟩ : S28)] : List S28)).length) 2 ((x4 ++ ([(⟨(a0.f0 ++ x7), x6.f1⟩ : S28)] : List S28)).length * 2))), (8, (I (wrap64 (x5 + 1))))], [(256, [(S a0.f0), (.sl true a0.f1.length 3 (a0.f1.flatMap e48))]), (1024, ((x4 ++ ([(⟨(a0.f0 ++ x7), x6.f1⟩ : S28)] : List S28)).flatMap (e28 false))), (2053, [(S (a0.f0 ++ x7)), (.sl false x6.f1.length 3 (x6.f1.flatMap e48))]), (2562, (([(⟨(a0.f0 ++ x7), x6.f1⟩ : S28)] : List S28).flatMap (e28 false)))], [], []⟩ [l_ 122, b_ 0, c_ 31] aln nocal ?_
          refine .wk' [] [(256, 256), (1024, 1024)] [(1, (I a1)), (2, (I a2)), (3, (.pt 256 0 2)), (7, (.rf 1024 0 ((x4 ++ ([(⟨(a0.f0 ++ x7), x6.f1⟩ : S28)] : List S28)).length) 2 ((x4 ++ ([(⟨(a0.f0 ++ x7), x6.f1⟩ : S28)] : List S28)).length * 2))), (8, (I (wrap64 (x5 + 1))))] [(256, [(S a0.f0), (.sl true a0.f1.length 3 (a0.f1.flatMap e48))]), (1024, ((x4 ++ ([(⟨(a0.f0 ++ x7), x6.f1⟩ : S28)] : List S28)).flatMap (e28 false)))] (shc 256 (a2c (.z .s) (a2c (.z (frz_sl e48_ok (fun h => h))) a2n)) (shc 1024 (rowF (e28_ok false) _) shn)) (enc_ (.z .s) (enc_ (.z .s) (enc_ (.pt (memP_mem (p := (256, 256)) rfl)) (enc_ (.rf (memP_mem (p := (1024, 1024)) rfl)) (enc_ (.z .s) enn))))) ?_
          exact ih0 a0 a1 a2 (x4 ++ ([(⟨(a0.f0 ++ x7), x6.f1⟩ : S28)] : List S28)) (wrap64 (x5 + 1)) _ h
        · rw [if_neg c6] at h
          cases h
      · rw [if_neg c5] at h
        cases h
    · rw [if_neg c4] at h
      refine .cond' (.tmp 26) false [c_ 124, c_ 125, c_ 63] (bF (dF c4)) ?_
      obtain ⟨x8, hx8, h⟩ := Option.bind_eq_some_iff.mp h
      refine .reg' [7, 46] [.no, .c ⟨40, [(.sl true x4.length 2 (x4.flatMap (e28 true)))], [], (B x8), [], [1024], [], [], (B x8), []⟩] ⟨[(7, (.rf 1024 0 x4.length 2 (x4.length * 2))), (46, (B (!x8)))], [(256, [(S a0.f0), (.sl true a0.f1.length 3 (a0.f1.flatMap e48))]), (1024, (x4.flatMap (e28 false)))], [COK (hget [(256, [(S a0.f0), (.sl true a0.f1.length 3 (a0.f1.flatMap e48))]), (1024, (x4.flatMap (e28 false)))]) [(.rf 1024 0 x4.length 2 (x4.length * 2))] ⟨40, [(.sl true x4.length 2 (x4.flatMap (e28 true)))], [], (B x8), [], [1024], [], [], (B x8), []⟩], [⟨40, [(.sl true x4.length 2 (x4.flatMap (e28 true)))], [], (B x8), [], [1024], [], [], (B x8), []⟩]⟩ [c_ 125, c_ 63] (alc (cok0 false (a2c (.z (frz_rfT (k := 1024) (fun x => e28_to x) (e28_ok false) (by simp) rfl rfl (row_len (e28_ok false) _).symm)) a2n) (.z .s) (fun h => absurd h (by decide))) aln) (acal (spec_TableOk.J k x4 _ hx8) nocal) ?_
      by_cases c7 : x8 = true
      · rw [if_pos c7] at h
        refine .cond' (.tmp 46) false [c_ 126, c_ 127] (bF (nF c7)) ?_
        refine .reg' [6] [] ⟨[(6, (.rf 1024 0 x4.length 2 (x4.length * 2)))], [(256, [(S a0.f0), (.sl true a0.f1.length 3 (a0.f1.flatMap e48))]), (1024, (x4.flatMap (e28 false)))], [], []⟩ [c_ 127] aln nocal ?_
        have h := Option.some.inj h
        subst h
        exact .fin' [] [(1024, 1024)] (.rf 1024 0 x4.length 2 (x4.length * 2)) [] aln (shc 1024 (rowF (e28_ok false) _) shn) (.rf (memP_mem (p := (1024, 1024)) rfl))
      · rw [if_neg c7] at h
        refine .cond' (.tmp 46) true [c_ 500, c_ 501, c_ 63] (bT (nT (vF c7))) ?_
        refine .reg' [6] [] ⟨[(6, nilS)], [(256, [(S a0.f0), (.sl true a0.f1.length 3 (a0.f1.flatMap e48))]), (1024, (x4.flatMap (e28 false)))], [], []⟩ [c_ 501, c_ 63] aln nocal ?_
        have h := Option.some.inj h
        subst h
        refine .nl' 1025 ?_
        exact .fin' [] [(1025, 1024)] nilS [] aln (shc 1025 (rowF (e28_ok false) _) shn) (.nl (memP_mem (p := (1025, 1024)) rfl) rfl)
theorem spec_Clockface.J (k : Nat) (a0 : S28) (a1 : Int) (a2 : Int) (r : (List S28)) (h : spec_Clockface.f k a0 a1 a2 = some r) : J prog (.call 13 [(.ag [(S a0.f0), (.sl true a0.f1.length 3 (a0.f1.flatMap e48))]), (I a1), (I a2)] [] (.rf 1024 0 r.length 2 (r.length * 2)) [(1024, (r.flatMap (e28 false)))]) := by
  unfold spec_Clockface.f at h
  have ih0 := spec_Clockface.lab k
  refine .call' [c_ 2, c_ 3] ?_
  refine .reg' [1, 2, 3] [] ⟨[(1, (I a1)), (2, (I a2)), (3, (.pt 256 0 2))], [(256, [(S a0.f0), (.sl true a0.f1.length 3 (a0.f1.flatMap e48))])], [], []⟩ [c_ 12, c_ 13, c_ 7] aln nocal ?_
  obtain ⟨x1, hx1, h⟩ := Option.bind_eq_some_iff.mp h
  by_cases c1 : x1 = true
  · rw [if_pos c1] at h
    obtain ⟨x2, hx2, h⟩ := Option.bind_eq_some_iff.mp h
    by_cases c2 : x2 = true
    · rw [if_pos c2] at h
      obtain ⟨x3, hx3, h⟩ := Option.bind_eq_some_iff.mp h
      refine .reg' [1, 2, 3, 22] [.no, .c ⟨31, [(.ag [(S a0.f0), (.sl true a0.f1.length 3 (a0.f1.flatMap e48))])], [], (B x1), [], [], [], [], (B x1), []⟩, .no, .v (B false), .no, .c ⟨38, [(I a1), (I 1), (I 1440)], [], (B x2), [], [], [], [], (B x2), []⟩, .no, .no, .v (B false), .no, .c ⟨38, [(I a2), (I 1), (I 24)], [], (B x3), [], [], [], [], (B x3), []⟩] ⟨[(1, (I a1)), (2, (I a2)), (3, (.pt 256 0 2)), (22, (B (!x3)))], [(256, [(S a0.f0), (.sl true a0.f1.length 3 (a0.f1.flatMap e48))])], [2 = 2 ∧ 0 + 2 ≤ 2, COK (hget [(256, [(S a0.f0), (.sl true a0.f1.length 3 (a0.f1.flatMap e48))])]) [(.ag [(S a0.f0), (.sl true a0.f1.length 3 (a0.f1.flatMap e48))])] ⟨31, [(.ag [(S a0.f0), (.sl true a0.f1.length 3 (a0.f1.flatMap e48))])], [], (B x1), [], [], [], [], (B x1), []⟩, (B (!x1) : V) = B false, COK (hget [(256, [(S a0.f0), (.sl true a0.f1.length 3 (a0.f1.flatMap e48))])]) [(I a1), (I 1), (I 1440)] ⟨38, [(I a1), (I 1), (I 1440)], [], (B x2), [], [], [], [], (B x2), []⟩, (B (!x2) : V) = B false, COK (hget [(256, [(S a0.f0), (.sl true a0.f1.length 3 (a0.f1.flatMap e48))])]) [(I a2), (I 1), (I 24)] ⟨38, [(I a2), (I 1), (I 24)], [], (B x3), [], [], [], [], (B x3), []⟩], [⟨31, [(.ag [(S a0.f0), (.sl true a0.f1.length 3 (a0.f1.flatMap e48))])], [], (B x1), [], [], [], [], (B x1), []⟩, ⟨38, [(I a1), (I 1), (I 1440)], [], (B x2), [], [], [], [], (B x2), []⟩, ⟨38, [(I a2), (I 1), (I 24)], [], (B x3), [], [], [], [], (B x3), []⟩]⟩ [c_ 13, c_ 7] (alc ⟨rfl, by decide⟩ (alc (cok0 false (a2c (.z (frz_ag (a2c .s (a2c (frz_sl e48_ok (fun h => h)) a2n)))) a2n) (.z .s) (fun h => absurd h (by decide))) (alc (bF (nF c1)) (alc (cok0 false (a2c (.z .s) (a2c (.z .s) (a2c (.z .s) a2n))) (.z .s) (fun h => absurd h (by decide))) (alc (bF (nF c2)) (alc (cok0 false (a2c (.z .s) (a2c (.z .s) (a2c (.z .s) a2n))) (.z .s) (fun h => absurd h (by decide))) aln)))))) (acal (spec_TripOk.J k a0 _ hx1) (acal (spec_l01In.J a1 1 1440 _ hx2) (acal (spec_l01In.J a2 1 24 _ hx3) nocal))) ?_
      by_cases c3 : x3 = true
      · rw [if_pos c3] at h
        refine .cond' (.tmp 22) false [c_ 14, c_ 15] (bF (nF c3)) ?_
        refine .reg' [1, 2, 3, 7] [] ⟨[(1, (I a1)), (2, (I a2)), (3, (.pt 256 0 2)), (7, (.rf 1024 0 (([] : List S28).length) 2 (([] : List S28).length * 2)))], [(256, [(S a0.f0), (.sl true a0.f1.length 3 (a0.f1.flatMap e48))]), (1024, (([] : List S28).flatMap (e28 false)))], [], []⟩ [c_ 60, c_ 61, c_ 31] aln nocal ?_
        refine .reg' [1, 2, 3, 7, 8] [] ⟨[(1, (I a1)), (2, (I a2)), (3, (.pt 256 0 2)), (7, (.rf 1024 0 (([] : List S28).length) 2 (([] : List S28).length * 2))), (8, (I 0))], [(256, [(S a0.f0), (.sl true a0.f1.length 3 (a0.f1.flatMap e48))]), (1024, (([] : List S28).flatMap (e28 false)))], [], []⟩ [l_ 122, b_ 0, c_ 31] aln nocal ?_
        exact ih0 a0 a1 a2 ([] : List S28) 0 _ h
      · rw [if_neg c3] at h
        refine .cond' (.tmp 22) true [c_ 52, c_ 53, c_ 7] (bT (nT (vF c3))) ?_
        refine .reg' [6] [] ⟨[(6, nilS)], [(256, [(S a0.f0), (.sl true a0.f1.length 3 (a0.f1.flatMap e48))])], [], []⟩ [c_ 53, c_ 7] aln nocal ?_
        have h := Option.some.inj h
        subst h
        refine .nl' 1024 ?_
        exact .fin' [] [(1024, 1024)] nilS [] aln (shc 1024 (rowF (e28_ok false) _) shn) (.nl (memP_mem (p := (1024, 1024)) rfl) rfl)
    · rw [if_neg c2] at h
      refine .reg' [1, 2, 3, 22] [.no, .c ⟨31, [(.ag [(S a0.f0), (.sl true a0.f1.length 3 (a0.f1.flatMap e48))])], [], (B x1), [], [], [], [], (B x1), []⟩, .no, .v (B false), .no, .c ⟨38, [(I a1), (I 1), (I 1440)], [], (B x2), [], [], [], [], (B x2), []⟩, .no, .no, .v (B true)] ⟨[(1, (I a1)), (2, (I a2)), (3, (.pt 256 0 2)), (22, (B true))], [(256, [(S a0.f0), (.sl true a0.f1.length 3 (a0.f1.flatMap e48))])], [2 = 2 ∧ 0 + 2 ≤ 2, COK (hget [(256, [(S a0.f0), (.sl true a0.f1.length 3 (a0.f1.flatMap e48))])]) [(.ag [(S a0.f0), (.sl true a0.f1.length 3 (a0.f1.flatMap e48))])] ⟨31, [(.ag [(S a0.f0), (.sl true a0.f1.length 3 (a0.f1.flatMap e48))])], [], (B x1), [], [], [], [], (B x1), []⟩, (B (!x1) : V) = B false, COK (hget [(256, [(S a0.f0), (.sl true a0.f1.length 3 (a0.f1.flatMap e48))])]) [(I a1), (I 1), (I 1440)] ⟨38, [(I a1), (I 1), (I 1440)], [], (B x2), [], [], [], [], (B x2), []⟩, (B (!x2) : V) = B true], [⟨31, [(.ag [(S a0.f0), (.sl true a0.f1.length 3 (a0.f1.flatMap e48))])], [], (B x1), [], [], [], [], (B x1), []⟩, ⟨38, [(I a1), (I 1), (I 1440)], [], (B x2), [], [], [], [], (B x2), []⟩]⟩ [c_ 13, c_ 7] (alc ⟨rfl, by decide⟩ (alc (cok0 false (a2c (.z (frz_ag (a2c .s (a2c (frz_sl e48_ok (fun h => h)) a2n)))) a2n) (.z .s) (fun h => absurd h (by decide))) (alc (bF (nF c1)) (alc (cok0 false (a2c (.z .s) (a2c (.z .s) (a2c (.z .s) a2n))) (.z .s) (fun h => absurd h (by decide))) (alc (bT (nT (vF c2))) aln))))) (acal (spec_TripOk.J k a0 _ hx1) (acal (spec_l01In.J a1 1 1440 _ hx2) nocal)) ?_
      refine .cond' (.tmp 22) true [c_ 52, c_ 53, c_ 7] (rfl) ?_
      refine .reg' [6] [] ⟨[(6, nilS)], [(256, [(S a0.f0), (.sl true a0.f1.length 3 (a0.f1.flatMap e48))])], [], []⟩ [c_ 53, c_ 7] aln nocal ?_
      have h := Option.some.inj h
      subst h
      refine .nl' 1024 ?_
      exact .fin' [] [(1024, 1024)] nilS [] aln (shc 1024 (rowF (e28_ok false) _) shn) (.nl (memP_mem (p := (1024, 1024)) rfl) rfl)
  · rw [if_neg c1] at h
    refine .reg' [1, 2, 3, 22] [.no, .c ⟨31, [(.ag [(S a0.f0), (.sl true a0.f1.length 3 (a0.f1.flatMap e48))])], [], (B x1), [], [], [], [], (B x1), []⟩, .no, .v (B true)] ⟨[(1, (I a1)), (2, (I a2)), (3, (.pt 256 0 2)), (22, (B true))], [(256, [(S a0.f0), (.sl true a0.f1.length 3 (a0.f1.flatMap e48))])], [2 = 2 ∧ 0 + 2 ≤ 2, COK (hget [(256, [(S a0.f0), (.sl true a0.f1.length 3 (a0.f1.flatMap e48))])]) [(.ag [(S a0.f0), (.sl true a0.f1.length 3 (a0.f1.flatMap e48))])] ⟨31, [(.ag [(S a0.f0), (.sl true a0.f1.length 3 (a0.f1.flatMap e48))])], [], (B x1), [], [], [], [], (B x1), []⟩, (B (!x1) : V) = B true], [⟨31, [(.ag [(S a0.f0), (.sl true a0.f1.length 3 (a0.f1.flatMap e48))])], [], (B x1), [], [], [], [], (B x1), []⟩]⟩ [c_ 13, c_ 7] (alc ⟨rfl, by decide⟩ (alc (cok0 false (a2c (.z (frz_ag (a2c .s (a2c (frz_sl e48_ok (fun h => h)) a2n)))) a2n) (.z .s) (fun h => absurd h (by decide))) (alc (bT (nT (vF c1))) aln))) (acal (spec_TripOk.J k a0 _ hx1) nocal) ?_
    refine .cond' (.tmp 22) true [c_ 52, c_ 53, c_ 7] (rfl) ?_
    refine .reg' [6] [] ⟨[(6, nilS)], [(256, [(S a0.f0), (.sl true a0.f1.length 3 (a0.f1.flatMap e48))])], [], []⟩ [c_ 53, c_ 7] aln nocal ?_
    have h := Option.some.inj h
    subst h
    refine .nl' 1024 ?_
    exact .fin' [] [(1024, 1024)] nilS [] aln (shc 1024 (rowF (e28_ok false) _) shn) (.nl (memP_mem (p := (1024, 1024)) rfl) rfl)
/-! impl_nameOk: function 54 -/
def impl_nameOk.l0 : Nat → ByteArray → Int → Option Bool
 | 0, _, _ => none
 | k + 1, a0, x1 => (if x1 < (a0.size : Int) then (if 0 ≤ x1 then (if (bt a0 x1) < 97 then (if (bt a0 x1) < 48 then (some false) else (if (bt a0 x1) > 57 then (some false) else (impl_nameOk.l0 k a0 (wrap64 (x1 + 1))))) else (if (bt a0 x1) > 122 then (if (bt a0 x1) < 48 then (some false) else (if (bt a0 x1) > 57 then (some false) else (impl_nameOk.l0 k a0 (wrap64 (x1 + 1))))) else (impl_nameOk.l0 k a0 (wrap64 (x1 + 1))))) else none) else (some true))
def impl_nameOk.f (k : Nat) (a0 : ByteArray) : Option Bool := (if (a0.size : Int) < 1 then (some false) else (if (a0.size : Int) > 12 then (some false) else (impl_nameOk.l0 k a0 0)))
theorem impl_nameOk.lab : ∀ k, (∀ (a0 : ByteArray) (x1 : Int) (r : Bool), impl_nameOk.l0 k a0 x1 = some r → J prog (.run 54 [] [l_ 58, b_ 0, c_ 15] [(0, (S a0)), (3, (I x1))] [] (B r) []))
 | 0 => (by intro a0 x1 r h; unfold impl_nameOk.l0 at h; cases h)
 | k + 1 => by
  have ih0 := impl_nameOk.lab k
  · intro a0 x1 r h
    unfold impl_nameOk.l0 at h
    refine .loop' [c_ 464, c_ 465, c_ 233, l_ 58, b_ 0, c_ 15] ?_
    refine .reg' [0, 3, 15] [] ⟨[(0, (S a0)), (3, (I x1)), (15, (B (decide (x1 < (a0.size : Int)))))], [], [], []⟩ [c_ 465, c_ 233, l_ 58, b_ 0, c_ 15] aln nocal ?_
    by_cases c3 : x1 < (a0.size : Int)
    · rw [if_pos c3] at h
      refine .cond' (.tmp 15) true [c_ 1864, c_ 1865, b_ 1, c_ 467, l_ 58, b_ 0, c_ 15] (bT (dT c3)) ?_
      by_cases c4 : 0 ≤ x1
      · rw [if_pos c4] at h
        by_cases c5 : (bt a0 x1) < 97
        · rw [if_pos c5] at h
          by_cases c6 : (bt a0 x1) < 48
          · rw [if_pos c6] at h
            refine .reg' [0, 3, 39] [.no, .no, .no, .no, .v (B true), .no, .no, .no, .no, .no, .no, .no, .no, .no, .no, .v (B true)] ⟨[(0, (S a0)), (3, (I x1)), (39, (B true))], [], [(0 : Int) ≤ x1 ∧ x1 < (a0.size : Int), (B (decide ((bt a0 x1) < 97)) : V) = B true, (0 : Int) ≤ x1 ∧ x1 < (a0.size : Int), (B (decide ((bt a0 x1) < 48)) : V) = B true], []⟩ [c_ 1865, b_ 1, c_ 467, l_ 58, b_ 0, c_ 15] (alc ⟨c4, c3⟩ (alc (bT (dT c5)) (alc ⟨c4, c3⟩ (alc (bT (dT c6)) aln)))) nocal ?_
            refine .cond' (.tmp 39) true [c_ 7460, c_ 7461, b_ 1, c_ 467, l_ 58, b_ 0, c_ 15] (rfl) ?_
            refine .reg' [2] [] ⟨[(2, (B false))], [], [], []⟩ [c_ 7461, b_ 1, c_ 467, l_ 58, b_ 0, c_ 15] aln nocal ?_
            have h := Option.some.inj h
            subst h
            exact .fin0 [] (B false) [] aln (.z .s)
          · rw [if_neg c6] at h
            refine .reg' [0, 3, 39] [.no, .no, .no, .no, .v (B true), .no, .no, .no, .no, .no, .no, .no, .no, .no, .no, .v (B false)] ⟨[(0, (S a0)), (3, (I x1)), (39, (B (decide ((bt a0 x1) > 57))))], [], [(0 : Int) ≤ x1 ∧ x1 < (a0.size : Int), (B (decide ((bt a0 x1) < 97)) : V) = B true, (0 : Int) ≤ x1 ∧ x1 < (a0.size : Int), (B (decide ((bt a0 x1) < 48)) : V) = B false, (0 : Int) ≤ x1 ∧ x1 < (a0.size : Int)], []⟩ [c_ 1865, b_ 1, c_ 467, l_ 58, b_ 0, c_ 15] (alc ⟨c4, c3⟩ (alc (bT (dT c5)) (alc ⟨c4, c3⟩ (alc (bF (dF c6)) (alc ⟨c4, c3⟩ aln))))) nocal ?_
            by_cases c7 : (bt a0 x1) > 57
            · rw [if_pos c7] at h
              refine .cond' (.tmp 39) true [c_ 7460, c_ 7461, b_ 1, c_ 467, l_ 58, b_ 0, c_ 15] (bT (dT c7)) ?_
              refine .reg' [2] [] ⟨[(2, (B false))], [], [], []⟩ [c_ 7461, b_ 1, c_ 467, l_ 58, b_ 0, c_ 15] aln nocal ?_
              have h := Option.some.inj h
              subst h
              exact .fin0 [] (B false) [] aln (.z .s)
            · rw [if_neg c7] at h
              refine .cond' (.tmp 39) false [c_ 467, l_ 58, b_ 0, c_ 15] (bF (dF c7)) ?_
              refine .reg' [0, 3] [] ⟨[(0, (S a0)), (3, (I (wrap64 (x1 + 1))))], [], [], []⟩ [l_ 58, b_ 0, c_ 15] aln nocal ?_
              exact ih0 a0 (wrap64 (x1 + 1)) _ h
        · rw [if_neg c5] at h
          by_cases c8 : (bt a0 x1) > 122
          · rw [if_pos c8] at h
            by_cases c9 : (bt a0 x1) < 48
            · rw [if_pos c9] at h
              refine .reg' [0, 3, 39] [.no, .no, .no, .no, .v (B false), .no, .no, .no, .no, .no, .v (B true), .no, .no, .no, .no, .v (B true)] ⟨[(0, (S a0)), (3, (I x1)), (39, (B true))], [], [(0 : Int) ≤ x1 ∧ x1 < (a0.size : Int), (B (decide ((bt a0 x1) < 97)) : V) = B false, (0 : Int) ≤ x1 ∧ x1 < (a0.size : Int), (B (decide ((bt a0 x1) > 122)) : V) = B true, (0 : Int) ≤ x1 ∧ x1 < (a0.size : Int), (B (decide ((bt a0 x1) < 48)) : V) = B true], []⟩ [c_ 1865, b_ 1, c_ 467, l_ 58, b_ 0, c_ 15] (alc ⟨c4, c3⟩ (alc (bF (dF c5)) (alc ⟨c4, c3⟩ (alc (bT (dT c8)) (alc ⟨c4, c3⟩ (alc (bT (dT c9)) aln)))))) nocal ?_
              refine .cond' (.tmp 39) true [c_ 7460, c_ 7461, b_ 1, c_ 467, l_ 58, b_ 0, c_ 15] (rfl) ?_
              refine .reg' [2] [] ⟨[(2, (B false))], [], [], []⟩ [c_ 7461, b_ 1, c_ 467, l_ 58, b_ 0, c_ 15] aln nocal ?_
              have h := Option.some.inj h
              subst h
              exact .fin0 [] (B false) [] aln (.z .s)
            · rw [if_neg c9] at h
              refine .reg' [0, 3, 39] [.no, .no, .no, .no, .v (B false), .no, .no, .no, .no, .no, .v (B true), .no, .no, .no, .no, .v (B false)] ⟨[(0, (S a0)), (3, (I x1)), (39, (B (decide ((bt a0 x1) > 57))))], [], [(0 : Int) ≤ x1 ∧ x1 < (a0.size : Int), (B (decide ((bt a0 x1) < 97)) : V) = B false, (0 : Int) ≤ x1 ∧ x1 < (a0.size : Int), (B (decide ((bt a0 x1) > 122)) : V) = B true, (0 : Int) ≤ x1 ∧ x1 < (a0.size : Int), (B (decide ((bt a0 x1) < 48)) : V) = B false, (0 : Int) ≤ x1 ∧ x1 < (a0.size : Int)], []⟩ [c_ 1865, b_ 1, c_ 467, l_ 58, b_ 0, c_ 15] (alc ⟨c4, c3⟩ (alc (bF (dF c5)) (alc ⟨c4, c3⟩ (alc (bT (dT c8)) (alc ⟨c4, c3⟩ (alc (bF (dF c9)) (alc ⟨c4, c3⟩ aln))))))) nocal ?_
              by_cases c10 : (bt a0 x1) > 57
              · rw [if_pos c10] at h
                refine .cond' (.tmp 39) true [c_ 7460, c_ 7461, b_ 1, c_ 467, l_ 58, b_ 0, c_ 15] (bT (dT c10)) ?_
                refine .reg' [2] [] ⟨[(2, (B false))], [], [], []⟩ [c_ 7461, b_ 1, c_ 467, l_ 58, b_ 0, c_ 15] aln nocal ?_
                have h := Option.some.inj h
                subst h
                exact .fin0 [] (B false) [] aln (.z .s)
              · rw [if_neg c10] at h
                refine .cond' (.tmp 39) false [c_ 467, l_ 58, b_ 0, c_ 15] (bF (dF c10)) ?_
                refine .reg' [0, 3] [] ⟨[(0, (S a0)), (3, (I (wrap64 (x1 + 1))))], [], [], []⟩ [l_ 58, b_ 0, c_ 15] aln nocal ?_
                exact ih0 a0 (wrap64 (x1 + 1)) _ h
          · rw [if_neg c8] at h
            refine .reg' [0, 3, 39] [.no, .no, .no, .no, .v (B false), .no, .no, .no, .no, .no, .v (B false)] ⟨[(0, (S a0)), (3, (I x1)), (39, (B false))], [], [(0 : Int) ≤ x1 ∧ x1 < (a0.size : Int), (B (decide ((bt a0 x1) < 97)) : V) = B false, (0 : Int) ≤ x1 ∧ x1 < (a0.size : Int), (B (decide ((bt a0 x1) > 122)) : V) = B false], []⟩ [c_ 1865, b_ 1, c_ 467, l_ 58, b_ 0, c_ 15] (alc ⟨c4, c3⟩ (alc (bF (dF c5)) (alc ⟨c4, c3⟩ (alc (bF (dF c8)) aln)))) nocal ?_
            refine .cond' (.tmp 39) false [c_ 467, l_ 58, b_ 0, c_ 15] (rfl) ?_
            refine .reg' [0, 3] [] ⟨[(0, (S a0)), (3, (I (wrap64 (x1 + 1))))], [], [], []⟩ [l_ 58, b_ 0, c_ 15] aln nocal ?_
            exact ih0 a0 (wrap64 (x1 + 1)) _ h
      · rw [if_neg c4] at h
        cases h
    · rw [if_neg c3] at h
      refine .cond' (.tmp 15) false [c_ 30, c_ 31] (bF (dF c3)) ?_
      refine .reg' [2] [] ⟨[(2, (B true))], [], [], []⟩ [c_ 31] aln nocal ?_
      have h := Option.some.inj h
      subst h
      exact .fin0 [] (B true) [] aln (.z .s)
theorem impl_nameOk.J (k : Nat) (a0 : ByteArray) (r : Bool) (h : impl_nameOk.f k a0 = some r) : J prog (.call 54 [(S a0)] [] (B r) []) := by
  unfold impl_nameOk.f at h
  have ih0 := impl_nameOk.lab k
  refine .call' [c_ 2, c_ 3] ?_
  refine .reg' [0] [] ⟨[(0, (S a0))], [], [], []⟩ [c_ 12, c_ 13, c_ 7] aln nocal ?_
  by_cases c1 : (a0.size : Int) < 1
  · rw [if_pos c1] at h
    refine .reg' [0, 11] [.no, .no, .no, .v (B true)] ⟨[(0, (S a0)), (11, (B true))], [], [(B (decide ((a0.size : Int) < 1)) : V) = B true], []⟩ [c_ 13, c_ 7] (alc (bT (dT c1)) aln) nocal ?_
    refine .cond' (.tmp 11) true [c_ 52, c_ 53, c_ 7] (rfl) ?_
    refine .reg' [2] [] ⟨[(2, (B false))], [], [], []⟩ [c_ 53, c_ 7] aln nocal ?_
    have h := Option.some.inj h
    subst h
    exact .fin0 [] (B false) [] aln (.z .s)
  · rw [if_neg c1] at h
    refine .reg' [0, 11] [.no, .no, .no, .v (B false)] ⟨[(0, (S a0)), (11, (B (decide ((a0.size : Int) > 12))))], [], [(B (decide ((a0.size : Int) < 1)) : V) = B false], []⟩ [c_ 13, c_ 7] (alc (bF (dF c1)) aln) nocal ?_
    by_cases c2 : (a0.size : Int) > 12
    · rw [if_pos c2] at h
      refine .cond' (.tmp 11) true [c_ 52, c_ 53, c_ 7] (bT (dT c2)) ?_
      refine .reg' [2] [] ⟨[(2, (B false))], [], [], []⟩ [c_ 53, c_ 7] aln nocal ?_
      have h := Option.some.inj h
      subst h
      exact .fin0 [] (B false) [] aln (.z .s)
    · rw [if_neg c2] at h
      refine .cond' (.tmp 11) false [c_ 28, c_ 29, c_ 15] (bF (dF c2)) ?_
      refine .reg' [0, 3] [] ⟨[(0, (S a0)), (3, (I 0))], [], [], []⟩ [l_ 58, b_ 0, c_ 15] aln nocal ?_
      exact ih0 a0 0 _ h
/-! impl_between: function 41 -/
def impl_between.f (a0 : Int) (a1 : Int) (a2 : Int) : Option Bool := (if a0 ≥ a1 then (some (decide (a0 ≤ a2))) else (some false))
theorem impl_between.J (a0 : Int) (a1 : Int) (a2 : Int) (r : Bool) (h : impl_between.f a0 a1 a2 = some r) : J prog (.call 41 [(I a0), (I a1), (I a2)] [] (B r) []) := by
  unfold impl_between.f at h
  refine .call' [c_ 2, c_ 3] ?_
  refine .reg' [0, 1, 2] [] ⟨[(0, (I a0)), (1, (I a1)), (2, (I a2))], [], [], []⟩ [c_ 6, c_ 7] aln nocal ?_
  by_cases c1 : a0 ≥ a1
  · rw [if_pos c1] at h
    refine .reg' [6] [.no, .no, .no, .v (B true)] ⟨[(6, (B (decide (a0 ≤ a2))))], [], [(B (decide (a0 ≥ a1)) : V) = B true], []⟩ [c_ 7] (alc (bT (dT c1)) aln) nocal ?_
    have h := Option.some.inj h
    subst h
    exact .fin0 [] (B (decide (a0 ≤ a2))) [] aln (.z .s)
  · rw [if_neg c1] at h
    refine .reg' [6] [.no, .no, .no, .v (B false)] ⟨[(6, (B false))], [], [(B (decide (a0 ≥ a1)) : V) = B false], []⟩ [c_ 7] (alc (bF (dF c1)) aln) nocal ?_
    have h := Option.some.inj h
    subst h
    exact .fin0 [] (B false) [] aln (.z .s)
/-! impl_isMinute: function 55 -/
def impl_isMinute.f (a0 : Int) : Option Bool := ((impl_between.f a0 0 100000).bind fun x1 => (some x1))
theorem impl_isMinute.J (a0 : Int) (r : Bool) (h : impl_isMinute.f a0 = some r) : J prog (.call 55 [(I a0)] [] (B r) []) := by
  unfold impl_isMinute.f at h
  refine .call' [c_ 2, c_ 3] ?_
  refine .reg' [0] [] ⟨[(0, (I a0))], [], [], []⟩ [c_ 6, c_ 7] aln nocal ?_
  obtain ⟨x1, hx1, h⟩ := Option.bind_eq_some_iff.mp h
  refine .reg' [2] [.no, .c ⟨41, [(I a0), (I 0), (I 100000)], [], (B x1), [], [], [], [], (B x1), []⟩] ⟨[(2, (B x1))], [], [COK (hget []) [(I a0), (I 0), (I 100000)] ⟨41, [(I a0), (I 0), (I 100000)], [], (B x1), [], [], [], [], (B x1), []⟩], [⟨41, [(I a0), (I 0), (I 100000)], [], (B x1), [], [], [], [], (B x1), []⟩]⟩ [c_ 7] (alc (cok0 false (a2c (.z .s) (a2c (.z .s) (a2c (.z .s) a2n))) (.z .s) (fun h => absurd h (by decide))) aln) (acal (impl_between.J a0 0 100000 _ hx1) nocal) ?_
  have h := Option.some.inj h
  subst h
  exact .fin0 [] (B x1) [] aln (.z .s)
/-! impl_TripOk: function 24 -/
def impl_TripOk.l0 : Nat → S28 → Int → Option Bool
 | 0, _, _ => none
 | k + 1, a0, x3 => (if x3 < (a0.f1.length : Int) then (if 0 ≤ x3 then ((impl_between.f ((at_ a0.f1 x3).f0) 0 29).bind fun x4 => (if x4 = true then ((impl_isMinute.f ((at_ a0.f1 x3).f1)).bind fun x5 => (if x5 = true then ((impl_isMinute.f ((at_ a0.f1 x3).f2)).bind fun x6 => (if x6 = true then (if (at_ a0.f1 x3).f1 > (at_ a0.f1 x3).f2 then (some false) else (if x3 > 0 then (if 0 ≤ (wrap64 (x3 - 1)) then (if (wrap64 (x3 - 1)) < (a0.f1.length : Int) then (if (at_ a0.f1 x3).f1 ≤ (at_ a0.f1 (wrap64 (x3 - 1))).f2 then (some false) else (if (at_ a0.f1 x3).f0 = (at_ a0.f1 (wrap64 (x3 - 1))).f0 then (some false) else (impl_TripOk.l0 k a0 (wrap64 (x3 + 1))))) else none) else none) else (impl_TripOk.l0 k a0 (wrap64 (x3 + 1))))) else (some false))) else (some false))) else (some false))) else none) else (some true))
def impl_TripOk.f (k : Nat) (a0 : S28) : Option Bool := ((impl_nameOk.f k a0.f0).bind fun x1 => (if x1 = true then ((impl_between.f (a0.f1.length : Int) 2 12).bind fun x2 => (if x2 = true then (impl_TripOk.l0 k a0 0) else (some false))) else (some false)))
theorem impl_TripOk.lab : ∀ k, (∀ (a0 : S28) (x3 : Int) (r : Bool), impl_TripOk.l0 k a0 x3 = some r → J prog (.run 24 [] [l_ 58, b_ 0, c_ 15] [(1, (.pt 256 0 2)), (17, (.sl true a0.f1.length 3 (a0.f1.flatMap e48))), (18, (I (a0.f1.length : Int))), (19, (I x3))] [(256, [(S a0.f0), (.sl true a0.f1.length 3 (a0.f1.flatMap e48))])] (B r) []))
 | 0 => (by intro a0 x3 r h; unfold impl_TripOk.l0 at h; cases h)
 | k + 1 => by
  have ih0 := impl_TripOk.lab k
  · intro a0 x3 r h
    unfold impl_TripOk.l0 at h
    refine .loop' [c_ 232, c_ 233, l_ 58, b_ 0, c_ 15] ?_
    refine .reg' [1, 17, 18, 19, 20] [] ⟨[(1, (.pt 256 0 2)), (17, (.sl true a0.f1.length 3 (a0.f1.flatMap e48))), (18, (I (a0.f1.length : Int))), (19, (I x3)), (20, (B (decide (x3 < (a0.f1.length : Int)))))], [(256, [(S a0.f0), (.sl true a0.f1.length 3 (a0.f1.flatMap e48))])], [], []⟩ [c_ 466, c_ 467, l_ 58, b_ 0, c_ 15] aln nocal ?_
    by_cases c3 : x3 < (a0.f1.length : Int)
    · rw [if_pos c3] at h
      refine .cond' (.tmp 20) true [c_ 3736, c_ 3737, b_ 1, c_ 935, l_ 58, b_ 0, c_ 15] (bT (dT c3)) ?_
      by_cases c4 : 0 ≤ x3
      · rw [if_pos c4] at h
        refine .reg' [1, 3, 4, 17, 18, 19] [.no, .no, .v (.ag [(I (at_ a0.f1 x3).f0), (I (at_ a0.f1 x3).f1), (I (at_ a0.f1 x3).f2)])] ⟨[(1, (.pt 256 0 2)), (3, (I x3)), (4, (.pt 1539 0 3)), (17, (.sl true a0.f1.length 3 (a0.f1.flatMap e48))), (18, (I (a0.f1.length : Int))), (19, (I x3))], [(256, [(S a0.f0), (.sl true a0.f1.length 3 (a0.f1.flatMap e48))]), (1539, [(I (at_ a0.f1 x3).f0), (I (at_ a0.f1 x3).f1), (I (at_ a0.f1 x3).f2)])], [(0 : Int) ≤ x3 ∧ x3 < (a0.f1.length : Int), rdC prog 49 ((a0.f1.flatMap e48).drop (x3.toNat * 3)) = (.ag [(I (at_ a0.f1 x3).f0), (I (at_ a0.f1 x3).f1), (I (at_ a0.f1 x3).f2)]), 3 ≤ ((a0.f1.flatMap e48).drop (x3.toNat * 3)).length, 3 = 3 ∧ 0 + 3 ≤ 3], []⟩ [c_ 14948, c_ 14949, c_ 7475, b_ 1, c_ 935, l_ 58, b_ 0, c_ 15] (alc ⟨c4, c3⟩ (alc (ldA e48_ok rfl rfl c4 c3) (alc (okI e48_ok c4 c3 (by decide)) (alc ⟨rfl, by decide⟩ aln)))) nocal ?_
        obtain ⟨x4, hx4, h⟩ := Option.bind_eq_some_iff.mp h
        by_cases c5 : x4 = true
        · rw [if_pos c5] at h
          obtain ⟨x5, hx5, h⟩ := Option.bind_eq_some_iff.mp h
          by_cases c6 : x5 = true
          · rw [if_pos c6] at h
            obtain ⟨x6, hx6, h⟩ := Option.bind_eq_some_iff.mp h
            by_cases c7 : x6 = true
            · rw [if_pos c7] at h
              refine .reg' [1, 3, 4, 17, 18, 19, 46] [.no, .no, .c ⟨41, [(I (at_ a0.f1 x3).f0), (I 0), (I 29)], [], (B x4), [], [], [], [], (B x4), []⟩, .no, .v (B false), .no, .no, .c ⟨55, [(I (at_ a0.f1 x3).f1)], [], (B x5), [], [], [], [], (B x5), []⟩, .no, .no, .v (B false), .no, .no, .c ⟨55, [(I (at_ a0.f1 x3).f2)], [], (B x6), [], [], [], [], (B x6), []⟩, .no, .no, .v (B false)] ⟨[(1, (.pt 256 0 2)), (3, (I x3)), (4, (.pt 1539 0 3)), (17, (.sl true a0.f1.length 3 (a0.f1.flatMap e48))), (18, (I (a0.f1.length : Int))), (19, (I x3)), (46, (B (decide ((at_ a0.f1 x3).f1 > (at_ a0.f1 x3).f2))))], [(256, [(S a0.f0), (.sl true a0.f1.length 3 (a0.f1.flatMap e48))]), (1539, [(I (at_ a0.f1 x3).f0), (I (at_ a0.f1 x3).f1), (I (at_ a0.f1 x3).f2)])], [3 = 3 ∧ 0 + 1 ≤ 3, COK (hget [(256, [(S a0.f0), (.sl true a0.f1.length 3 (a0.f1.flatMap e48))]), (1539, [(I (at_ a0.f1 x3).f0), (I (at_ a0.f1 x3).f1), (I (at_ a0.f1 x3).f2)])]) [(I (at_ a0.f1 x3).f0), (I 0), (I 29)] ⟨41, [(I (at_ a0.f1 x3).f0), (I 0), (I 29)], [], (B x4), [], [], [], [], (B x4), []⟩, (B (!x4) : V) = B false, 3 = 3 ∧ 1 + 1 ≤ 3, COK (hget [(256, [(S a0.f0), (.sl true a0.f1.length 3 (a0.f1.flatMap e48))]), (1539, [(I (at_ a0.f1 x3).f0), (I (at_ a0.f1 x3).f1), (I (at_ a0.f1 x3).f2)])]) [(I (at_ a0.f1 x3).f1)] ⟨55, [(I (at_ a0.f1 x3).f1)], [], (B x5), [], [], [], [], (B x5), []⟩, (B (!x5) : V) = B false, 3 = 3 ∧ 2 + 1 ≤ 3, COK (hget [(256, [(S a0.f0), (.sl true a0.f1.length 3 (a0.f1.flatMap e48))]), (1539, [(I (at_ a0.f1 x3).f0), (I (at_ a0.f1 x3).f1), (I (at_ a0.f1 x3).f2)])]) [(I (at_ a0.f1 x3).f2)] ⟨55, [(I (at_ a0.f1 x3).f2)], [], (B x6), [], [], [], [], (B x6), []⟩, (B (!x6) : V) = B false, 3 = 3 ∧ 1 + 1 ≤ 3, 3 = 3 ∧ 2 + 1 ≤ 3], [⟨41, [(I (at_ a0.f1 x3).f0), (I 0), (I 29)], [], (B x4), [], [], [], [], (B x4), []⟩, ⟨55, [(I (at_ a0.f1 x3).f1)], [], (B x5), [], [], [], [], (B x5), []⟩, ⟨55, [(I (at_ a0.f1 x3).f2)], [], (B x6), [], [], [], [], (B x6), []⟩]⟩ [c_ 14949, c_ 7475, b_ 1, c_ 935, l_ 58, b_ 0, c_ 15] (alc ⟨rfl, by decide⟩ (alc (cok0 false (a2c (.z .s) (a2c (.z .s) (a2c (.z .s) a2n))) (.z .s) (fun h => absurd h (by decide))) (alc (bF (nF c5)) (alc ⟨rfl, by decide⟩ (alc (cok0 false (a2c (.z .s) a2n) (.z .s) (fun h => absurd h (by decide))) (alc (bF (nF c6)) (alc ⟨rfl, by decide⟩ (alc (cok0 false (a2c (.z .s) a2n) (.z .s) (fun h => absurd h (by decide))) (alc (bF (nF c7)) (alc ⟨rfl, by decide⟩ (alc ⟨rfl, by decide⟩ aln))))))))))) (acal (impl_between.J ((at_ a0.f1 x3).f0) 0 29 _ hx4) (acal (impl_isMinute.J ((at_ a0.f1 x3).f1) _ hx5) (acal (impl_isMinute.J ((at_ a0.f1 x3).f2) _ hx6) nocal))) ?_
              by_cases c8 : (at_ a0.f1 x3).f1 > (at_ a0.f1 x3).f2
              · rw [if_pos c8] at h
                refine .cond' (.tmp 46) true [c_ 59796, c_ 59797, c_ 7475, b_ 1, c_ 935, l_ 58, b_ 0, c_ 15] (bT (dT c8)) ?_
                refine .reg' [2] [] ⟨[(2, (B false))], [(256, [(S a0.f0), (.sl true a0.f1.length 3 (a0.f1.flatMap e48))]), (1539, [(I (at_ a0.f1 x3).f0), (I (at_ a0.f1 x3).f1), (I (at_ a0.f1 x3).f2)])], [], []⟩ [c_ 59797, c_ 7475, b_ 1, c_ 935, l_ 58, b_ 0, c_ 15] aln nocal ?_
                have h := Option.some.inj h
                subst h
                exact .fin0 [] (B false) [] aln (.z .s)
              · rw [if_neg c8] at h
                refine .cond' (.tmp 46) false [c_ 14950, c_ 14951, b_ 1, c_ 935, l_ 58, b_ 0, c_ 15] (bF (dF c8)) ?_
                by_cases c9 : x3 > 0
                · rw [if_pos c9] at h
                  by_cases c10 : 0 ≤ (wrap64 (x3 - 1))
                  · rw [if_pos c10] at h
                    by_cases c11 : (wrap64 (x3 - 1)) < (a0.f1.length : Int)
                    · rw [if_pos c11] at h
                      by_cases c12 : (at_ a0.f1 x3).f1 ≤ (at_ a0.f1 (wrap64 (x3 - 1))).f2
                      · rw [if_pos c12] at h
                        refine .reg' [1, 17, 18, 19, 72] [.no, .no, .v (B true), .no, .no, .no, .no, .no, .no, .no, .no, .v (I (at_ a0.f1 (wrap64 (x3 - 1))).f2), .no, .v (B true)] ⟨[(1, (.pt 256 0 2)), (17, (.sl true a0.f1.length 3 (a0.f1.flatMap e48))), (18, (I (a0.f1.length : Int))), (19, (I x3)), (72, (B true))], [(256, [(S a0.f0), (.sl true a0.f1.length 3 (a0.f1.flatMap e48))]), (1539, [(I (at_ a0.f1 x3).f0), (I (at_ a0.f1 x3).f1), (I (at_ a0.f1 x3).f2)])], [(B (decide (x3 > 0)) : V) = B true, 3 = 3 ∧ 1 + 1 ≤ 3, 2 = 2 ∧ 1 + 1 ≤ 2, (0 : Int) ≤ (wrap64 (x3 - 1)) ∧ (wrap64 (x3 - 1)) < (a0.f1.length : Int), rdC prog 3 (((a0.f1.flatMap e48).drop ((wrap64 (x3 - 1)).toNat * 3)).drop 2) = (I (at_ a0.f1 (wrap64 (x3 - 1))).f2), 1 ≤ (((a0.f1.flatMap e48).drop ((wrap64 (x3 - 1)).toNat * 3)).drop 2).length, (B (decide ((at_ a0.f1 x3).f1 ≤ (at_ a0.f1 (wrap64 (x3 - 1))).f2)) : V) = B true], []⟩ [c_ 14951, b_ 1, c_ 935, l_ 58, b_ 0, c_ 15] (alc (bT (dT c9)) (alc ⟨rfl, by decide⟩ (alc ⟨rfl, by decide⟩ (alc ⟨c10, c11⟩ (alc (ldC e48_ok 2 (by decide) rfl c10 c11) (alc (okIj e48_ok c10 c11 (by decide)) (alc (bT (dT c12)) aln))))))) nocal ?_
                        refine .cond' (.tmp 72) true [c_ 59804, c_ 59805, b_ 1, c_ 935, l_ 58, b_ 0, c_ 15] (rfl) ?_
                        refine .reg' [2] [] ⟨[(2, (B false))], [(256, [(S a0.f0), (.sl true a0.f1.length 3 (a0.f1.flatMap e48))]), (1539, [(I (at_ a0.f1 x3).f0), (I (at_ a0.f1 x3).f1), (I (at_ a0.f1 x3).f2)])], [], []⟩ [c_ 59805, b_ 1, c_ 935, l_ 58, b_ 0, c_ 15] aln nocal ?_
                        have h := Option.some.inj h
                        subst h
                        exact .fin0 [] (B false) [] aln (.z .s)
                      · rw [if_neg c12] at h
                        refine .reg' [1, 17, 18, 19, 72] [.no, .no, .v (B true), .no, .no, .no, .no, .no, .no, .no, .no, .v (I (at_ a0.f1 (wrap64 (x3 - 1))).f2), .no, .v (B false), .no, .no, .no, .no, .no, .no, .no, .no, .v (I (at_ a0.f1 (wrap64 (x3 - 1))).f0)] ⟨[(1, (.pt 256 0 2)), (17, (.sl true a0.f1.length 3 (a0.f1.flatMap e48))), (18, (I (a0.f1.length : Int))), (19, (I x3)), (72, (B ((at_ a0.f1 x3).f0 == (at_ a0.f1 (wrap64 (x3 - 1))).f0)))], [(256, [(S a0.f0), (.sl true a0.f1.length 3 (a0.f1.flatMap e48))]), (1539, [(I (at_ a0.f1 x3).f0), (I (at_ a0.f1 x3).f1), (I (at_ a0.f1 x3).f2)])], [(B (decide (x3 > 0)) : V) = B true, 3 = 3 ∧ 1 + 1 ≤ 3, 2 = 2 ∧ 1 + 1 ≤ 2, (0 : Int) ≤ (wrap64 (x3 - 1)) ∧ (wrap64 (x3 - 1)) < (a0.f1.length : Int), rdC prog 3 (((a0.f1.flatMap e48).drop ((wrap64 (x3 - 1)).toNat * 3)).drop 2) = (I (at_ a0.f1 (wrap64 (x3 - 1))).f2), 1 ≤ (((a0.f1.flatMap e48).drop ((wrap64 (x3 - 1)).toNat * 3)).drop 2).length, (B (decide ((at_ a0.f1 x3).f1 ≤ (at_ a0.f1 (wrap64 (x3 - 1))).f2)) : V) = B false, 3 = 3 ∧ 0 + 1 ≤ 3, 2 = 2 ∧ 1 + 1 ≤ 2, (0 : Int) ≤ (wrap64 (x3 - 1)) ∧ (wrap64 (x3 - 1)) < (a0.f1.length : Int), rdC prog 3 (((a0.f1.flatMap e48).drop ((wrap64 (x3 - 1)).toNat * 3)).drop 0) = (I (at_ a0.f1 (wrap64 (x3 - 1))).f0), 1 ≤ (((a0.f1.flatMap e48).drop ((wrap64 (x3 - 1)).toNat * 3)).drop 0).length], []⟩ [c_ 14951, b_ 1, c_ 935, l_ 58, b_ 0, c_ 15] (alc (bT (dT c9)) (alc ⟨rfl, by decide⟩ (alc ⟨rfl, by decide⟩ (alc ⟨c10, c11⟩ (alc (ldC e48_ok 2 (by decide) rfl c10 c11) (alc (okIj e48_ok c10 c11 (by decide)) (alc (bF (dF c12)) (alc ⟨rfl, by decide⟩ (alc ⟨rfl, by decide⟩ (alc ⟨c10, c11⟩ (alc (ldC e48_ok 0 (by decide) rfl c10 c11) (alc (okIj e48_ok c10 c11 (by decide)) aln)))))))))))) nocal ?_
                        by_cases c13 : (at_ a0.f1 x3).f0 = (at_ a0.f1 (wrap64 (x3 - 1))).f0
                        · rw [if_pos c13] at h
                          refine .cond' (.tmp 72) true [c_ 59804, c_ 59805, b_ 1, c_ 935, l_ 58, b_ 0, c_ 15] (bT (qT c13)) ?_
                          refine .reg' [2] [] ⟨[(2, (B false))], [(256, [(S a0.f0), (.sl true a0.f1.length 3 (a0.f1.flatMap e48))]), (1539, [(I (at_ a0.f1 x3).f0), (I (at_ a0.f1 x3).f1), (I (at_ a0.f1 x3).f2)])], [], []⟩ [c_ 59805, b_ 1, c_ 935, l_ 58, b_ 0, c_ 15] aln nocal ?_
                          have h := Option.some.inj h
                          subst h
                          exact .fin0 [] (B false) [] aln (.z .s)
                        · rw [if_neg c13] at h
                          refine .cond' (.tmp 72) false [c_ 935, l_ 58, b_ 0, c_ 15] (bF (qF c13)) ?_
                          refine .reg' [1, 17, 18, 19] [] ⟨[(1, (.pt 256 0 2)), (17, (.sl true a0.f1.length 3 (a0.f1.flatMap e48))), (18, (I (a0.f1.length : Int))), (19, (I (wrap64 (x3 + 1))))], [(256, [(S a0.f0), (.sl true a0.f1.length 3 (a0.f1.flatMap e48))]), (1539, [(I (at_ a0.f1 x3).f0), (I (at_ a0.f1 x3).f1), (I (at_ a0.f1 x3).f2)])], [], []⟩ [l_ 58, b_ 0, c_ 15] aln nocal ?_
                          refine .wk' [] [(256, 256)] [(1, (.pt 256 0 2)), (17, (.sl true a0.f1.length 3 (a0.f1.flatMap e48))), (18, (I (a0.f1.length : Int))), (19, (I (wrap64 (x3 + 1))))] [(256, [(S a0.f0), (.sl true a0.f1.length 3 (a0.f1.flatMap e48))])] (shc 256 (a2c (.z .s) (a2c (.z (frz_sl e48_ok (fun h => h))) a2n)) shn) (enc_ (.pt (memP_mem (p := (256, 256)) rfl)) (enc_ (.z (frz_sl e48_ok (fun h => h))) (enc_ (.z .s) (enc_ (.z .s) enn)))) ?_
                          exact ih0 a0 (wrap64 (x3 + 1)) _ h
                    · rw [if_neg c11] at h
                      cases h
                  · rw [if_neg c10] at h
                    cases h
                · rw [if_neg c9] at h
                  refine .reg' [1, 17, 18, 19, 72] [.no, .no, .v (B false)] ⟨[(1, (.pt 256 0 2)), (17, (.sl true a0.f1.length 3 (a0.f1.flatMap e48))), (18, (I (a0.f1.length : Int))), (19, (I x3)), (72, (B false))], [(256, [(S a0.f0), (.sl true a0.f1.length 3 (a0.f1.flatMap e48))]), (1539, [(I (at_ a0.f1 x3).f0), (I (at_ a0.f1 x3).f1), (I (at_ a0.f1 x3).f2)])], [(B (decide (x3 > 0)) : V) = B false], []⟩ [c_ 14951, b_ 1, c_ 935, l_ 58, b_ 0, c_ 15] (alc (bF (dF c9)) aln) nocal ?_
                  refine .cond' (.tmp 72) false [c_ 935, l_ 58, b_ 0, c_ 15] (rfl) ?_
                  refine .reg' [1, 17, 18, 19] [] ⟨[(1, (.pt 256 0 2)), (17, (.sl true a0.f1.length 3 (a0.f1.flatMap e48))), (18, (I (a0.f1.length : Int))), (19, (I (wrap64 (x3 + 1))))], [(256, [(S a0.f0), (.sl true a0.f1.length 3 (a0.f1.flatMap e48))]), (1539, [(I (at_ a0.f1 x3).f0), (I (at_ a0.f1 x3).f1), (I (at_ a0.f1 x3).f2)])], [], []⟩ [l_ 58, b_ 0, c_ 15] aln nocal ?_
                  refine .wk' [] [(256, 256)] [(1, (.pt 256 0 2)), (17, (.sl true a0.f1.length 3 (a0.f1.flatMap e48))), (18, (I (a0.f1.length : Int))), (19, (I (wrap64 (x3 + 1))))] [(256, [(S a0.f0), (.sl true a0.f1.length 3 (a0.f1.flatMap e48))])] (shc 256 (a2c (.z .s) (a2c (.z (frz_sl e48_ok (fun h => h))) a2n)) shn) (enc_ (.pt (memP_mem (p := (256, 256)) rfl)) (enc_ (.z (frz_sl e48_ok (fun h => h))) (enc_ (.z .s) (enc_ (.z .s) enn)))) ?_
                  exact ih0 a0 (wrap64 (x3 + 1)) _ h
            · rw [if_neg c7] at h
              refine .reg' [1, 3, 4, 17, 18, 19, 46] [.no, .no, .c ⟨41, [(I (at_ a0.f1 x3).f0), (I 0), (I 29)], [], (B x4), [], [], [], [], (B x4), []⟩, .no, .v (B false), .no, .no, .c ⟨55, [(I (at_ a0.f1 x3).f1)], [], (B x5), [], [], [], [], (B x5), []⟩, .no, .no, .v (B false), .no, .no, .c ⟨55, [(I (at_ a0.f1 x3).f2)], [], (B x6), [], [], [], [], (B x6), []⟩, .no, .no, .v (B true)] ⟨[(1, (.pt 256 0 2)), (3, (I x3)), (4, (.pt 1539 0 3)), (17, (.sl true a0.f1.length 3 (a0.f1.flatMap e48))), (18, (I (a0.f1.length : Int))), (19, (I x3)), (46, (B true))], [(256, [(S a0.f0), (.sl true a0.f1.length 3 (a0.f1.flatMap e48))]), (1539, [(I (at_ a0.f1 x3).f0), (I (at_ a0.f1 x3).f1), (I (at_ a0.f1 x3).f2)])], [3 = 3 ∧ 0 + 1 ≤ 3, COK (hget [(256, [(S a0.f0), (.sl true a0.f1.length 3 (a0.f1.flatMap e48))]), (1539, [(I (at_ a0.f1 x3).f0), (I (at_ a0.f1 x3).f1), (I (at_ a0.f1 x3).f2)])]) [(I (at_ a0.f1 x3).f0), (I 0), (I 29)] ⟨41, [(I (at_ a0.f1 x3).f0), (I 0), (I 29)], [], (B x4), [], [], [], [], (B x4), []⟩, (B (!x4) : V) = B false, 3 = 3 ∧ 1 + 1 ≤ 3, COK (hget [(256, [(S a0.f0), (.sl true a0.f1.length 3 (a0.f1.flatMap e48))]), (1539, [(I (at_ a0.f1 x3).f0), (I (at_ a0.f1 x3).f1), (I (at_ a0.f1 x3).f2)])]) [(I (at_ a0.f1 x3).f1)] ⟨55, [(I (at_ a0.f1 x3).f1)], [], (B x5), [], [], [], [], (B x5), []⟩, (B (!x5) : V) = B false, 3 = 3 ∧ 2 + 1 ≤ 3, COK (hget [(256, [(S a0.f0), (.sl true a0.f1.length 3 (a0.f1.flatMap e48))]), (1539, [(I (at_ a0.f1 x3).f0), (I (at_ a0.f1 x3).f1), (I (at_ a0.f1 x3).f2)])]) [(I (at_ a0.f1 x3).f2)] ⟨55, [(I (at_ a0.f1 x3).f2)], [], (B x6), [], [], [], [], (B x6), []⟩, (B (!x6) : V) = B true], [⟨41, [(I (at_ a0.f1 x3).f0), (I 0), (I 29)], [], (B x4), [], [], [], [], (B x4), []⟩, ⟨55, [(I (at_ a0.f1 x3).f1)], [], (B x5), [], [], [], [], (B x5), []⟩, ⟨55, [(I (at_ a0.f1 x3).f2)], [], (B x6), [], [], [], [], (B x6), []⟩]⟩ [c_ 14949, c_ 7475, b_ 1, c_ 935, l_ 58, b_ 0, c_ 15] (alc ⟨rfl, by decide⟩ (alc (cok0 false (a2c (.z .s) (a2c (.z .s) (a2c (.z .s) a2n))) (.z .s) (fun h => absurd h (by decide))) (alc (bF (nF c5)) (alc ⟨rfl, by decide⟩ (alc (cok0 false (a2c (.z .s) a2n) (.z .s) (fun h => absurd h (by decide))) (alc (bF (nF c6)) (alc ⟨rfl, by decide⟩ (alc (cok0 false (a2c (.z .s) a2n) (.z .s) (fun h => absurd h (by decide))) (alc (bT (nT (vF c7))) aln))))))))) (acal (impl_between.J ((at_ a0.f1 x3).f0) 0 29 _ hx4) (acal (impl_isMinute.J ((at_ a0.f1 x3).f1) _ hx5) (acal (impl_isMinute.J ((at_ a0.f1 x3).f2) _ hx6) nocal))) ?_
              refine .cond' (.tmp 46) true [c_ 59796, c_ 59797, c_ 7475, b_ 1, c_ 935, l_ 58, b_ 0, c_ 15] (rfl) ?_
              refine .reg' [2] [] ⟨[(2, (B false))], [(256, [(S a0.f0), (.sl true a0.f1.length 3 (a0.f1.flatMap e48))]), (1539, [(I (at_ a0.f1 x3).f0), (I (at_ a0.f1 x3).f1), (I (at_ a0.f1 x3).f2)])], [], []⟩ [c_ 59797, c_ 7475, b_ 1, c_ 935, l_ 58, b_ 0, c_ 15] aln nocal ?_
              have h := Option.some.inj h
              subst h
              exact .fin0 [] (B false) [] aln (.z .s)
          · rw [if_neg c6] at h
            refine .reg' [1, 3, 4, 17, 18, 19, 46] [.no, .no, .c ⟨41, [(I (at_ a0.f1 x3).f0), (I 0), (I 29)], [], (B x4), [], [], [], [], (B x4), []⟩, .no, .v (B false), .no, .no, .c ⟨55, [(I (at_ a0.f1 x3).f1)], [], (B x5), [], [], [], [], (B x5), []⟩, .no, .no, .v (B true)] ⟨[(1, (.pt 256 0 2)), (3, (I x3)), (4, (.pt 1539 0 3)), (17, (.sl true a0.f1.length 3 (a0.f1.flatMap e48))), (18, (I (a0.f1.length : Int))), (19, (I x3)), (46, (B true))], [(256, [(S a0.f0), (.sl true a0.f1.length 3 (a0.f1.flatMap e48))]), (1539, [(I (at_ a0.f1 x3).f0), (I (at_ a0.f1 x3).f1), (I (at_ a0.f1 x3).f2)])], [3 = 3 ∧ 0 + 1 ≤ 3, COK (hget [(256, [(S a0.f0), (.sl true a0.f1.length 3 (a0.f1.flatMap e48))]), (1539, [(I (at_ a0.f1 x3).f0), (I (at_ a0.f1 x3).f1), (I (at_ a0.f1 x3).f2)])]) [(I (at_ a0.f1 x3).f0), (I 0), (I 29)] ⟨41, [(I (at_ a0.f1 x3).f0), (I 0), (I 29)], [], (B x4), [], [], [], [], (B x4), []⟩, (B (!x4) : V) = B false, 3 = 3 ∧ 1 + 1 ≤ 3, COK (hget [(256, [(S a0.f0), (.sl true a0.f1.length 3 (a0.f1.flatMap e48))]), (1539, [(I (at_ a0.f1 x3).f0), (I (at_ a0.f1 x3).f1), (I (at_ a0.f1 x3).f2)])]) [(I (at_ a0.f1 x3).f1)] ⟨55, [(I (at_ a0.f1 x3).f1)], [], (B x5), [], [], [], [], (B x5), []⟩, (B (!x5) : V) = B true], [⟨41, [(I (at_ a0.f1 x3).f0), (I 0), (I 29)], [], (B x4), [], [], [], [], (B x4), []⟩, ⟨55, [(I (at_ a0.f1 x3).f1)], [], (B x5), [], [], [], [], (B x5), []⟩]⟩ [c_ 14949, c_ 7475, b_ 1, c_ 935, l_ 58, b_ 0, c_ 15] (alc ⟨rfl, by decide⟩ (alc (cok0 false (a2c (.z .s) (a2c (.z .s) (a2c (.z .s) a2n))) (.z .s) (fun h => absurd h (by decide))) (alc (bF (nF c5)) (alc ⟨rfl, by decide⟩ (alc (cok0 false (a2c (.z .s) a2n) (.z .s) (fun h => absurd h (by decide))) (alc (bT (nT (vF c6))) aln)))))) (acal (impl_between.J ((at_ a0.f1 x3).f0) 0 29 _ hx4) (acal (impl_isMinute.J ((at_ a0.f1 x3).f1) _ hx5) nocal)) ?_
            refine .cond' (.tmp 46) true [c_ 59796, c_ 59797, c_ 7475, b_ 1, c_ 935, l_ 58, b_ 0, c_ 15] (rfl) ?_
            refine .reg' [2] [] ⟨[(2, (B false))], [(256, [(S a0.f0), (.sl true a0.f1.length 3 (a0.f1.flatMap e48))]), (1539, [(I (at_ a0.f1 x3).f0), (I (at_ a0.f1 x3).f1), (I (at_ a0.f1 x3).f2)])], [], []⟩ [c_ 59797, c_ 7475, b_ 1, c_ 935, l_ 58, b_ 0, c_ 15] aln nocal ?_
            have h := Option.some.inj h
            subst h
            exact .fin0 [] (B false) [] aln (.z .s)
        · rw [if_neg c5] at h
          refine .reg' [1, 3, 4, 17, 18, 19, 46] [.no, .no, .c ⟨41, [(I (at_ a0.f1 x3).f0), (I 0), (I 29)], [], (B x4), [], [], [], [], (B x4), []⟩, .no, .v (B true)] ⟨[(1, (.pt 256 0 2)), (3, (I x3)), (4, (.pt 1539 0 3)), (17, (.sl true a0.f1.length 3 (a0.f1.flatMap e48))), (18, (I (a0.f1.length : Int))), (19, (I x3)), (46, (B true))], [(256, [(S a0.f0), (.sl true a0.f1.length 3 (a0.f1.flatMap e48))]), (1539, [(I (at_ a0.f1 x3).f0), (I (at_ a0.f1 x3).f1), (I (at_ a0.f1 x3).f2)])], [3 = 3 ∧ 0 + 1 ≤ 3, COK (hget [(256, [(S a0.f0), (.sl true a0.f1.length 3 (a0.f1.flatMap e48))]), (1539, [(I (at_ a0.f1 x3).f0), (I (at_ a0.f1 x3).f1), (I (at_ a0.f1 x3).f2)])]) [(I (at_ a0.f1 x3).f0), (I 0), (I 29)] ⟨41, [(I (at_ a0.f1 x3).f0), (I 0), (I 29)], [], (B x4), [], [], [], [], (B x4), []⟩, (B (!x4) : V) = B true], [⟨41, [(I (at_ a0.f1 x3).f0), (I 0), (I 29)], [], (B x4), [], [], [], [], (B x4), []⟩]⟩ [c_ 14949, c_ 7475, b_ 1, c_ 935, l_ 58, b_ 0, c_ 15] (alc ⟨rfl, by decide⟩ (alc (cok0 false (a2c (.z .s) (a2c (.z .s) (a2c (.z .s) a2n))) (.z .s) (fun h => absurd h (by decide))) (alc (bT (nT (vF c5))) aln))) (acal (impl_between.J ((at_ a0.f1 x3).f0) 0 29 _ hx4) nocal) ?_
          refine .cond' (.tmp 46) true [c_ 59796, c_ 59797, c_ 7475, b_ 1, c_ 935, l_ 58, b_ 0, c_ 15] (rfl) ?_
          refine .reg' [2] [] ⟨[(2, (B false))], [(256, [(S a0.f0), (.sl true a0.f1.length 3 (a0.f1.flatMap e48))]), (1539, [(I (at_ a0.f1 x3).f0), (I (at_ a0.f1 x3).f1), (I (at_ a0.f1 x3).f2)])], [], []⟩ [c_ 59797, c_ 7475, b_ 1, c_ 935, l_ 58, b_ 0, c_ 15] aln nocal ?_
          have h := Option.some.inj h
          subst h
          exact .fin0 [] (B false) [] aln (.z .s)
      · rw [if_neg c4] at h
        cases h
    · rw [if_neg c3] at h
      refine .cond' (.tmp 20) false [c_ 30, c_ 31] (bF (dF c3)) ?_
      refine .reg' [2] [] ⟨[(2, (B true))], [(256, [(S a0.f0), (.sl true a0.f1.length 3 (a0.f1.flatMap e48))])], [], []⟩ [c_ 31] aln nocal ?_
      have h := Option.some.inj h
      subst h
      exact .fin0 [] (B true) [] aln (.z .s)
theorem impl_TripOk.J (k : Nat) (a0 : S28) (r : Bool) (h : impl_TripOk.f k a0 = some r) : J prog (.call 24 [(.ag [(S a0.f0), (.sl true a0.f1.length 3 (a0.f1.flatMap e48))])] [] (B r) []) := by
  unfold impl_TripOk.f at h
  have ih0 := impl_TripOk.lab k
  refine .call' [c_ 2, c_ 3] ?_
  refine .reg' [1] [] ⟨[(1, (.pt 256 0 2))], [(256, [(S a0.f0), (.sl true a0.f1.length 3 (a0.f1.flatMap e48))])], [], []⟩ [c_ 12, c_ 13, c_ 7] aln nocal ?_
  obtain ⟨x1, hx1, h⟩ := Option.bind_eq_some_iff.mp h
  by_cases c1 : x1 = true
  · rw [if_pos c1] at h
    obtain ⟨x2, hx2, h⟩ := Option.bind_eq_some_iff.mp h
    refine .reg' [1, 15] [.no, .no, .c ⟨54, [(S a0.f0)], [], (B x1), [], [], [], [], (B x1), []⟩, .no, .v (B false), .no, .no, .no, .c ⟨41, [(I (a0.f1.length : Int)), (I 2), (I 12)], [], (B x2), [], [], [], [], (B x2), []⟩] ⟨[(1, (.pt 256 0 2)), (15, (B (!x2)))], [(256, [(S a0.f0), (.sl true a0.f1.length 3 (a0.f1.flatMap e48))])], [2 = 2 ∧ 0 + 1 ≤ 2, COK (hget [(256, [(S a0.f0), (.sl true a0.f1.length 3 (a0.f1.flatMap e48))])]) [(S a0.f0)] ⟨54, [(S a0.f0)], [], (B x1), [], [], [], [], (B x1), []⟩, (B (!x1) : V) = B false, 2 = 2 ∧ 1 + 1 ≤ 2, COK (hget [(256, [(S a0.f0), (.sl true a0.f1.length 3 (a0.f1.flatMap e48))])]) [(I (a0.f1.length : Int)), (I 2), (I 12)] ⟨41, [(I (a0.f1.length : Int)), (I 2), (I 12)], [], (B x2), [], [], [], [], (B x2), []⟩], [⟨54, [(S a0.f0)], [], (B x1), [], [], [], [], (B x1), []⟩, ⟨41, [(I (a0.f1.length : Int)), (I 2), (I 12)], [], (B x2), [], [], [], [], (B x2), []⟩]⟩ [c_ 13, c_ 7] (alc ⟨rfl, by decide⟩ (alc (cok0 false (a2c (.z .s) a2n) (.z .s) (fun h => absurd h (by decide))) (alc (bF (nF c1)) (alc ⟨rfl, by decide⟩ (alc (cok0 false (a2c (.z .s) (a2c (.z .s) (a2c (.z .s) a2n))) (.z .s) (fun h => absurd h (by decide))) aln))))) (acal (impl_nameOk.J k a0.f0 _ hx1) (acal (impl_between.J (a0.f1.length : Int) 2 12 _ hx2) nocal)) ?_
    by_cases c2 : x2 = true
    · rw [if_pos c2] at h
      refine .cond' (.tmp 15) false [c_ 28, c_ 29, c_ 15] (bF (nF c2)) ?_
      refine .reg' [1, 17, 18, 19] [] ⟨[(1, (.pt 256 0 2)), (17, (.sl true a0.f1.length 3 (a0.f1.flatMap e48))), (18, (I (a0.f1.length : Int))), (19, (I 0))], [(256, [(S a0.f0), (.sl true a0.f1.length 3 (a0.f1.flatMap e48))])], [2 = 2 ∧ 1 + 1 ≤ 2], []⟩ [l_ 58, b_ 0, c_ 15] (alc ⟨rfl, by decide⟩ aln) nocal ?_
      exact ih0 a0 0 _ h
    · rw [if_neg c2] at h
      refine .cond' (.tmp 15) true [c_ 52, c_ 53, c_ 7] (bT (nT (vF c2))) ?_
      refine .reg' [2] [] ⟨[(2, (B false))], [(256, [(S a0.f0), (.sl true a0.f1.length 3 (a0.f1.flatMap e48))])], [], []⟩ [c_ 53, c_ 7] aln nocal ?_
      have h := Option.some.inj h
      subst h
      exact .fin0 [] (B false) [] aln (.z .s)
  · rw [if_neg c1] at h
    refine .reg' [1, 15] [.no, .no, .c ⟨54, [(S a0.f0)], [], (B x1), [], [], [], [], (B x1), []⟩, .no, .v (B true)] ⟨[(1, (.pt 256 0 2)), (15, (B true))], [(256, [(S a0.f0), (.sl true a0.f1.length 3 (a0.f1.flatMap e48))])], [2 = 2 ∧ 0 + 1 ≤ 2, COK (hget [(256, [(S a0.f0), (.sl true a0.f1.length 3 (a0.f1.flatMap e48))])]) [(S a0.f0)] ⟨54, [(S a0.f0)], [], (B x1), [], [], [], [], (B x1), []⟩, (B (!x1) : V) = B true], [⟨54, [(S a0.f0)], [], (B x1), [], [], [], [], (B x1), []⟩]⟩ [c_ 13, c_ 7] (alc ⟨rfl, by decide⟩ (alc (cok0 false (a2c (.z .s) a2n) (.z .s) (fun h => absurd h (by decide))) (alc (bT (nT (vF c1))) aln))) (acal (impl_nameOk.J k a0.f0 _ hx1) nocal) ?_
    refine .cond' (.tmp 15) true [c_ 52, c_ 53, c_ 7] (rfl) ?_
    refine .reg' [2] [] ⟨[(2, (B false))], [(256, [(S a0.f0), (.sl true a0.f1.length 3 (a0.f1.flatMap e48))])], [], []⟩ [c_ 53, c_ 7] aln nocal ?_
    have h := Option.some.inj h
    subst h
    exact .fin0 [] (B false) [] aln (.z .s)
/-! impl_cloneTrip: function 56 -/
def impl_cloneTrip.f (a0 : S28) : Option S28 := (if (([] : List S48).length + a0.f1.length) * 24 ≤ 70368744177664 then (some (⟨a0.f0, (([] : List S48) ++ a0.f1)⟩ : S28)) else none)
theorem impl_cloneTrip.J (a0 : S28) (r : S28) (h : impl_cloneTrip.f a0 = some r) : J prog (.call 56 [(.ag [(S a0.f0), (.sl true a0.f1.length 3 (a0.f1.flatMap e48))])] [] (.ag [(S r.f0), (.rf 514 0 r.f1.length 3 (r.f1.length * 3))]) [(514, (r.f1.flatMap e48))]) := by
  unfold impl_cloneTrip.f at h
  refine .call' [c_ 2, c_ 3] ?_
  refine .reg' [1, 2] [] ⟨[(1, (.pt 256 0 2)), (2, (.pt 257 0 2))], [(256, [(S a0.f0), (.sl true a0.f1.length 3 (a0.f1.flatMap e48))]), (257, [(S ByteArray.empty), nilS])], [], []⟩ [c_ 6, c_ 7] aln nocal ?_
  by_cases c1 : (([] : List S48).length + a0.f1.length) * 24 ≤ 70368744177664
  · rw [if_pos c1] at h
    refine .reg' [2] [.no, .no, .no, .no, .no, .w (.rf 514 0 ((([] : List S48) ++ a0.f1).length) 3 ((([] : List S48) ++ a0.f1).length * 3)) ((([] : List S48) ++ a0.f1).flatMap e48)] ⟨[(2, (.pt 257 0 2))], [(256, [(S a0.f0), (.sl true a0.f1.length 3 (a0.f1.flatMap e48))]), (257, [(S a0.f0), (.rf 514 0 ((([] : List S48) ++ a0.f1).length) 3 ((([] : List S48) ++ a0.f1).length * 3))]), (514, ((([] : List S48) ++ a0.f1).flatMap e48))], [2 = 2 ∧ 0 + 1 ≤ 2, 2 = 2 ∧ 1 + 1 ≤ 2, V.rf 514 0 (([] : List S48).length + a0.f1.length) 3 (([] : List S48).length * 3 + a0.f1.length * 3) = (.rf 514 0 ((([] : List S48) ++ a0.f1).length) 3 ((([] : List S48) ++ a0.f1).length * 3)), ([] : List S48).flatMap e48 ++ (a0.f1.flatMap e48) = ((([] : List S48) ++ a0.f1).flatMap e48), True ∧ ([] : List S48).length * 3 = (([] : List S48).flatMap e48).length ∧ ([] : List S48).length * 3 = (([] : List S48).flatMap e48).length ∧ (([] : List S48).length + a0.f1.length) * 24 ≤ 70368744177664, 2 = 2 ∧ 0 + 2 ≤ 2], []⟩ [c_ 7] (alc ⟨rfl, by decide⟩ (alc ⟨rfl, by decide⟩ (alc (apV rfl) (alc apS (alc (apOS e48_ok c1) (alc ⟨rfl, by decide⟩ aln)))))) nocal ?_
    have h := Option.some.inj h
    subst h
    exact .fin' [] [(514, 514)] (.ag [(S a0.f0), (.rf 514 0 ((([] : List S48) ++ a0.f1).length) 3 ((([] : List S48) ++ a0.f1).length * 3))]) [2 = 2 ∧ 0 + 2 ≤ 2] (alc ⟨rfl, by decide⟩ aln) (shc 514 (rowF e48_ok _) shn) (cnv_ag (a2c (.z .s) (a2c (.rf (memP_mem (p := (514, 514)) rfl)) a2n)))
  · rw [if_neg c1] at h
    cases h
/-! impl_Moved: function 27 -/
def impl_Moved.l0 : Nat → Int → S28 → (List S48) → Int → Option S28
 | 0, _, _, _, _ => none
 | k + 1, a1, x3, x4, x5 => (if x5 < (x3.f1.length : Int) then (if 0 ≤ x5 then (if x5 < (x4.length : Int) then (impl_Moved.l0 k a1 x3 (x4.set x5.toNat (⟨(at_ x4 x5).f0, (wrap64 ((at_ x4 x5).f1 + a1)), (wrap64 ((at_ x4 x5).f2 + a1))⟩ : S48)) (wrap64 (x5 + 1))) else none) else none) else ((impl_TripOk.f k (⟨x3.f0, x4⟩ : S28)).bind fun x6 => (if x6 = true then (some (⟨x3.f0, x4⟩ : S28)) else (some (⟨ByteArray.empty, ([] : List S48)⟩ : S28)))))
def impl_Moved.f (k : Nat) (a0 : S28) (a1 : Int) : Option S28 := ((impl_TripOk.f k a0).bind fun x1 => (if x1 = true then ((impl_between.f a1 (-100000) 100000).bind fun x2 => (if x2 = true then ((impl_cloneTrip.f a0).bind fun x3 => (impl_Moved.l0 k a1 x3 x3.f1 0)) else (some (⟨ByteArray.empty, ([] : List S48)⟩ : S28)))) else (some (⟨ByteArray.empty, ([] : List S48)⟩ : S28))))
theorem impl_Moved.lab : ∀ k, (∀ (a1 : Int) (x3 : S28) (x4 : (List S48)) (x5 : Int) (r : S28), impl_Moved.l0 k a1 x3 x4 x5 = some r → J prog (.run 27 [] [l_ 122, b_ 0, c_ 31] [(1, (I a1)), (4, (.pt 257 0 2)), (5, (.pt 1026 0 2)), (20, (I (x3.f1.length : Int))), (21, (I x5))] [(257, [(S ByteArray.empty), nilS]), (1001025, (x4.flatMap e48)), (1026, [(S x3.f0), (.rf 1001025 0 x4.length 3 (x4.length * 3))])] (.ag [(S r.f0), (.rf 1001025 0 r.f1.length 3 (r.f1.length * 3))]) [(1001025, (r.f1.flatMap e48))]))
 | 0 => (by intro a1 x3 x4 x5 r h; unfold impl_Moved.l0 at h; cases h)
 | k + 1 => by
  have ih0 := impl_Moved.lab k
  · intro a1 x3 x4 x5 r h
    unfold impl_Moved.l0 at h
    refine .loop' [c_ 488, c_ 489, l_ 122, b_ 0, c_ 31] ?_
    refine .reg' [1, 4, 5, 20, 21, 22] [] ⟨[(1, (I a1)), (4, (.pt 257 0 2)), (5, (.pt 1026 0 2)), (20, (I (x3.f1.length : Int))), (21, (I x5)), (22, (B (decide (x5 < (x3.f1.length : Int)))))], [(257, [(S ByteArray.empty), nilS]), (1001025, (x4.flatMap e48)), (1026, [(S x3.f0), (.rf 1001025 0 x4.length 3 (x4.length * 3))])], [], []⟩ [c_ 978, c_ 979, l_ 122, b_ 0, c_ 31] aln nocal ?_
    by_cases c3 : x5 < (x3.f1.length : Int)
    · rw [if_pos c3] at h
      refine .cond' (.tmp 22) true [c_ 7832, c_ 7833, b_ 1, c_ 1959, l_ 122, b_ 0, c_ 31] (bT (dT c3)) ?_
      refine .reg' [1, 4, 5, 6, 20, 21] [] ⟨[(1, (I a1)), (4, (.pt 257 0 2)), (5, (.pt 1026 0 2)), (6, (I x5)), (20, (I (x3.f1.length : Int))), (21, (I x5))], [(257, [(S ByteArray.empty), nilS]), (1001025, (x4.flatMap e48)), (1026, [(S x3.f0), (.rf 1001025 0 x4.length 3 (x4.length * 3))])], [], []⟩ [c_ 15666, c_ 15667, b_ 1, c_ 1959, l_ 122, b_ 0, c_ 31] aln nocal ?_
      by_cases c4 : 0 ≤ x5
      · rw [if_pos c4] at h
        by_cases c5 : x5 < (x4.length : Int)
        · rw [if_pos c5] at h
          refine .reg' [1, 4, 5, 6, 20, 21] [.no, .no, .no, .no, .no, .v (I (at_ x4 x5).f1), .no, .no, .no, .no, .w .un ((x4.set x5.toNat (⟨(at_ x4 x5).f0, (wrap64 ((at_ x4 x5).f1 + a1)), (at_ x4 x5).f2⟩ : S48)).flatMap e48)] ⟨[(1, (I a1)), (4, (.pt 257 0 2)), (5, (.pt 1026 0 2)), (6, (I x5)), (20, (I (x3.f1.length : Int))), (21, (I x5))], [(257, [(S ByteArray.empty), nilS]), (1001025, ((x4.set x5.toNat (⟨(at_ x4 x5).f0, (wrap64 ((at_ x4 x5).f1 + a1)), (at_ x4 x5).f2⟩ : S48)).flatMap e48)), (1026, [(S x3.f0), (.rf 1001025 0 x4.length 3 (x4.length * 3))])], [2 = 2 ∧ 1 + 1 ≤ 2, (0 : Int) ≤ x5 ∧ x5 < (x4.length : Int), rdC prog 3 ((x4.flatMap e48).drop (0 + x5.toNat * 3 + 1)) = (I (at_ x4 x5).f1), x4.length * 3 = (x4.flatMap e48).length ∧ 0 + x5.toNat * 3 + 1 + 1 ≤ (x4.flatMap e48).length, (0 : Int) ≤ x5 ∧ x5 < (x4.length : Int), V.un = V.un, spl (x4.flatMap e48) (0 + x5.toNat * 3 + 1) [(I (wrap64 ((at_ x4 x5).f1 + a1)))] = ((x4.set x5.toNat (⟨(at_ x4 x5).f0, (wrap64 ((at_ x4 x5).f1 + a1)), (at_ x4 x5).f2⟩ : S48)).flatMap e48), x4.length * 3 = (x4.flatMap e48).length ∧ 0 + x5.toNat * 3 + 1 + 1 ≤ (x4.flatMap e48).length], []⟩ [c_ 15667, b_ 1, c_ 1959, l_ 122, b_ 0, c_ 31] (alc ⟨rfl, by decide⟩ (alc ⟨c4, c5⟩ (alc (ldC0 e48_ok 1 (by decide) rfl c4 c5) (alc (okA e48_ok c4 c5 (by decide)) (alc ⟨c4, c5⟩ (alc rfl (alc (st_row e48_ok 1 c4 c5 (Nat.le_of_ble_eq_true rfl) rfl) (alc (okA e48_ok c4 c5 (by decide)) aln)))))))) nocal ?_
          refine .eqs (env2 := [(1, (I a1)), (4, (.pt 257 0 2)), (5, (.pt 1026 0 2)), (6, (I x5)), (20, (I (x3.f1.length : Int))), (21, (I x5))]) (H2 := [(257, [(S ByteArray.empty), nilS]), (1001025, ((x4.set x5.toNat (⟨(at_ x4 x5).f0, (wrap64 ((at_ x4 x5).f1 + a1)), (at_ x4 x5).f2⟩ : S48)).flatMap e48)), (1026, [(S x3.f0), (.rf 1001025 0 ((x4.set x5.toNat (⟨(at_ x4 x5).f0, (wrap64 ((at_ x4 x5).f1 + a1)), (at_ x4 x5).f2⟩ : S48)).length) 3 ((x4.set x5.toNat (⟨(at_ x4 x5).f0, (wrap64 ((at_ x4 x5).f1 + a1)), (at_ x4 x5).f2⟩ : S48)).length * 3))])]) (by first | (simp only [List.length_set]; done) | simp) (by first | rfl | (simp only [List.length_set]; done) | simp) ?_
          refine .reg' [1, 4, 5, 20, 21] [.no, .no, .no, .no, .no, .v (I (at_ x4 x5).f2), .no, .no, .no, .no, .w .un ((x4.set x5.toNat (⟨(at_ x4 x5).f0, (wrap64 ((at_ x4 x5).f1 + a1)), (wrap64 ((at_ x4 x5).f2 + a1))⟩ : S48)).flatMap e48)] ⟨[(1, (I a1)), (4, (.pt 257 0 2)), (5, (.pt 1026 0 2)), (20, (I (x3.f1.length : Int))), (21, (I x5))], [(257, [(S ByteArray.empty), nilS]), (1001025, ((x4.set x5.toNat (⟨(at_ x4 x5).f0, (wrap64 ((at_ x4 x5).f1 + a1)), (wrap64 ((at_ x4 x5).f2 + a1))⟩ : S48)).flatMap e48)), (1026, [(S x3.f0), (.rf 1001025 0 ((x4.set x5.toNat (⟨(at_ x4 x5).f0, (wrap64 ((at_ x4 x5).f1 + a1)), (at_ x4 x5).f2⟩ : S48)).length) 3 ((x4.set x5.toNat (⟨(at_ x4 x5).f0, (wrap64 ((at_ x4 x5).f1 + a1)), (at_ x4 x5).f2⟩ : S48)).length * 3))])], [2 = 2 ∧ 1 + 1 ≤ 2, (0 : Int) ≤ x5 ∧ x5 < ((x4.set x5.toNat (⟨(at_ x4 x5).f0, (wrap64 ((at_ x4 x5).f1 + a1)), (at_ x4 x5).f2⟩ : S48)).length : Int), rdC prog 3 (((x4.set x5.toNat (⟨(at_ x4 x5).f0, (wrap64 ((at_ x4 x5).f1 + a1)), (at_ x4 x5).f2⟩ : S48)).flatMap e48).drop (0 + x5.toNat * 3 + 2)) = (I (at_ x4 x5).f2), (x4.set x5.toNat (⟨(at_ x4 x5).f0, (wrap64 ((at_ x4 x5).f1 + a1)), (at_ x4 x5).f2⟩ : S48)).length * 3 = ((x4.set x5.toNat (⟨(at_ x4 x5).f0, (wrap64 ((at_ x4 x5).f1 + a1)), (at_ x4 x5).f2⟩ : S48)).flatMap e48).length ∧ 0 + x5.toNat * 3 + 2 + 1 ≤ ((x4.set x5.toNat (⟨(at_ x4 x5).f0, (wrap64 ((at_ x4 x5).f1 + a1)), (at_ x4 x5).f2⟩ : S48)).flatMap e48).length, (0 : Int) ≤ x5 ∧ x5 < ((x4.set x5.toNat (⟨(at_ x4 x5).f0, (wrap64 ((at_ x4 x5).f1 + a1)), (at_ x4 x5).f2⟩ : S48)).length : Int), V.un = V.un, spl ((x4.set x5.toNat (⟨(at_ x4 x5).f0, (wrap64 ((at_ x4 x5).f1 + a1)), (at_ x4 x5).f2⟩ : S48)).flatMap e48) (0 + x5.toNat * 3 + 2) [(I (wrap64 ((at_ x4 x5).f2 + a1)))] = ((x4.set x5.toNat (⟨(at_ x4 x5).f0, (wrap64 ((at_ x4 x5).f1 + a1)), (wrap64 ((at_ x4 x5).f2 + a1))⟩ : S48)).flatMap e48), (x4.set x5.toNat (⟨(at_ x4 x5).f0, (wrap64 ((at_ x4 x5).f1 + a1)), (at_ x4 x5).f2⟩ : S48)).length * 3 = ((x4.set x5.toNat (⟨(at_ x4 x5).f0, (wrap64 ((at_ x4 x5).f1 + a1)), (at_ x4 x5).f2⟩ : S48)).flatMap e48).length ∧ 0 + x5.toNat * 3 + 2 + 1 ≤ ((x4.set x5.toNat (⟨(at_ x4 x5).f0, (wrap64 ((at_ x4 x5).f1 + a1)), (at_ x4 x5).f2⟩ : S48)).flatMap e48).length], []⟩ [c_ 1959, l_ 122, b_ 0, c_ 31] (alc ⟨rfl, by decide⟩ (alc ⟨c4, (ls c5)⟩ (alc (ldC0s e48_ok 2 (by decide) rfl c4 c5) (alc (okA e48_ok c4 (ls c5) (by decide)) (alc ⟨c4, (ls c5)⟩ (alc rfl (alc (st_row2 e48_ok 2 c4 c5 (Nat.le_of_ble_eq_true rfl) rfl) (alc (okA e48_ok c4 (ls c5) (by decide)) aln)))))))) nocal ?_
          refine .eqs (env2 := [(1, (I a1)), (4, (.pt 257 0 2)), (5, (.pt 1026 0 2)), (20, (I (x3.f1.length : Int))), (21, (I x5))]) (H2 := [(257, [(S ByteArray.empty), nilS]), (1001025, ((x4.set x5.toNat (⟨(at_ x4 x5).f0, (wrap64 ((at_ x4 x5).f1 + a1)), (wrap64 ((at_ x4 x5).f2 + a1))⟩ : S48)).flatMap e48)), (1026, [(S x3.f0), (.rf 1001025 0 ((x4.set x5.toNat (⟨(at_ x4 x5).f0, (wrap64 ((at_ x4 x5).f1 + a1)), (wrap64 ((at_ x4 x5).f2 + a1))⟩ : S48)).length) 3 ((x4.set x5.toNat (⟨(at_ x4 x5).f0, (wrap64 ((at_ x4 x5).f1 + a1)), (wrap64 ((at_ x4 x5).f2 + a1))⟩ : S48)).length * 3))])]) (by first | (simp only [List.length_set]; done) | simp) (by first | rfl | (simp only [List.length_set]; done) | simp) ?_
          refine .reg' [1, 4, 5, 20, 21] [] ⟨[(1, (I a1)), (4, (.pt 257 0 2)), (5, (.pt 1026 0 2)), (20, (I (x3.f1.length : Int))), (21, (I (wrap64 (x5 + 1))))], [(257, [(S ByteArray.empty), nilS]), (1001025, ((x4.set x5.toNat (⟨(at_ x4 x5).f0, (wrap64 ((at_ x4 x5).f1 + a1)), (wrap64 ((at_ x4 x5).f2 + a1))⟩ : S48)).flatMap e48)), (1026, [(S x3.f0), (.rf 1001025 0 ((x4.set x5.toNat (⟨(at_ x4 x5).f0, (wrap64 ((at_ x4 x5).f1 + a1)), (wrap64 ((at_ x4 x5).f2 + a1))⟩ : S48)).length) 3 ((x4.set x5.toNat (⟨(at_ x4 x5).f0, (wrap64 ((at_ x4 x5).f1 + a1)), (wrap64 ((at_ x4 x5).f2 + a1))⟩ : S48)).length * 3))])], [], []⟩ [l_ 122, b_ 0, c_ 31] aln nocal ?_
          exact ih0 a1 x3 (x4.set x5.toNat (⟨(at_ x4 x5).f0, (wrap64 ((at_ x4 x5).f1 + a1)), (wrap64 ((at_ x4 x5).f2 + a1))⟩ : S48)) (wrap64 (x5 + 1)) _ h
        · rw [if_neg c5] at h
          cases h
      · rw [if_neg c4] at h
        cases h
    · rw [if_neg c3] at h
      refine .cond' (.tmp 22) false [c_ 124, c_ 125, c_ 63] (bF (dF c3)) ?_
      obtain ⟨x6, hx6, h⟩ := Option.bind_eq_some_iff.mp h
      refine .reg' [4, 5, 47] [.no, .c ⟨24, [(.ag [(S x3.f0), (.sl true x4.length 3 (x4.flatMap e48))])], [], (B x6), [], [1001025], [], [], (B x6), []⟩] ⟨[(4, (.pt 257 0 2)), (5, (.pt 1026 0 2)), (47, (B (!x6)))], [(257, [(S ByteArray.empty), nilS]), (1001025, (x4.flatMap e48)), (1026, [(S x3.f0), (.rf 1001025 0 x4.length 3 (x4.length * 3))])], [2 = 2 ∧ 0 + 2 ≤ 2, COK (hget [(257, [(S ByteArray.empty), nilS]), (1001025, (x4.flatMap e48)), (1026, [(S x3.f0), (.rf 1001025 0 x4.length 3 (x4.length * 3))])]) [(.ag [(S x3.f0), (.rf 1001025 0 x4.length 3 (x4.length * 3))])] ⟨24, [(.ag [(S x3.f0), (.sl true x4.length 3 (x4.flatMap e48))])], [], (B x6), [], [1001025], [], [], (B x6), []⟩], [⟨24, [(.ag [(S x3.f0), (.sl true x4.length 3 (x4.flatMap e48))])], [], (B x6), [], [1001025], [], [], (B x6), []⟩]⟩ [c_ 125, c_ 63] (alc ⟨rfl, by decide⟩ (alc (cok0 false (a2c (cnv_ag (a2c (.z .s) (a2c (.z (frz_rf (k := 1001025) e48_ok (by simp) rfl rfl (row_len e48_ok _).symm)) a2n))) a2n) (.z .s) (fun h => absurd h (by decide))) aln)) (acal (impl_TripOk.J k (⟨x3.f0, x4⟩ : S28) _ hx6) nocal) ?_
      by_cases c6 : x6 = true
      · rw [if_pos c6] at h
        refine .cond' (.tmp 47) false [c_ 126, c_ 127] (bF (nF c6)) ?_
        refine .reg' [4] [] ⟨[(4, (.pt 257 0 2))], [(257, [(S x3.f0), (.rf 1001025 0 x4.length 3 (x4.length * 3))]), (1001025, (x4.flatMap e48)), (1026, [(S x3.f0), (.rf 1001025 0 x4.length 3 (x4.length * 3))])], [2 = 2 ∧ 0 + 2 ≤ 2, 2 = 2 ∧ 0 + 2 ≤ 2], []⟩ [c_ 127] (alc ⟨rfl, by decide⟩ (alc ⟨rfl, by decide⟩ aln)) nocal ?_
        have h := Option.some.inj h
        subst h
        exact .fin' [] [(1001025, 1001025)] (.ag [(S x3.f0), (.rf 1001025 0 x4.length 3 (x4.length * 3))]) [2 = 2 ∧ 0 + 2 ≤ 2] (alc ⟨rfl, by decide⟩ aln) (shc 1001025 (rowF e48_ok _) shn) (cnv_ag (a2c (.z .s) (a2c (.rf (memP_mem (p := (1001025, 1001025)) rfl)) a2n)))
      · rw [if_neg c6] at h
        refine .cond' (.tmp 47) true [c_ 500, c_ 501, c_ 63] (bT (nT (vF c6))) ?_
        refine .reg' [4] [] ⟨[(4, (.pt 257 0 2))], [(257, [(S ByteArray.empty), nilS]), (1001025, (x4.flatMap e48)), (1026, [(S x3.f0), (.rf 1001025 0 x4.length 3 (x4.length * 3))])], [2 = 2 ∧ 0 + 2 ≤ 2], []⟩ [c_ 501, c_ 63] (alc ⟨rfl, by decide⟩ aln) nocal ?_
        have h := Option.some.inj h
        subst h
        refine .nl' 1001026 ?_
        exact .fin' [] [(1001026, 1001025)] (.ag [(S ByteArray.empty), nilS]) [2 = 2 ∧ 0 + 2 ≤ 2] (alc ⟨rfl, by decide⟩ aln) (shc 1001026 (rowF e48_ok _) shn) (cnv_ag (a2c (.z .s) (a2c (.nl (memP_mem (p := (1001026, 1001025)) rfl) rfl) a2n)))
theorem impl_Moved.J (k : Nat) (a0 : S28) (a1 : Int) (r : S28) (h : impl_Moved.f k a0 a1 = some r) : J prog (.call 27 [(.ag [(S a0.f0), (.sl true a0.f1.length 3 (a0.f1.flatMap e48))]), (I a1)] [] (.ag [(S r.f0), (.rf 1001025 0 r.f1.length 3 (r.f1.length * 3))]) [(1001025, (r.f1.flatMap e48))]) := by
  unfold impl_Moved.f at h
  have ih0 := impl_Moved.lab k
  refine .call' [c_ 2, c_ 3] ?_
  refine .reg' [1, 2, 4] [] ⟨[(1, (I a1)), (2, (.pt 256 0 2)), (4, (.pt 257 0 2))], [(256, [(S a0.f0), (.sl true a0.f1.length 3 (a0.f1.flatMap e48))]), (257, [(S ByteArray.empty), nilS])], [], []⟩ [c_ 12, c_ 13, c_ 7] aln nocal ?_
  obtain ⟨x1, hx1, h⟩ := Option.bind_eq_some_iff.mp h
  by_cases c1 : x1 = true
  · rw [if_pos c1] at h
    obtain ⟨x2, hx2, h⟩ := Option.bind_eq_some_iff.mp h
    refine .reg' [1, 2, 4, 14] [.no, .c ⟨24, [(.ag [(S a0.f0), (.sl true a0.f1.length 3 (a0.f1.flatMap e48))])], [], (B x1), [], [], [], [], (B x1), []⟩, .no, .v (B false), .no, .c ⟨41, [(I a1), (I (-100000)), (I 100000)], [], (B x2), [], [], [], [], (B x2), []⟩] ⟨[(1, (I a1)), (2, (.pt 256 0 2)), (4, (.pt 257 0 2)), (14, (B (!x2)))], [(256, [(S a0.f0), (.sl true a0.f1.length 3 (a0.f1.flatMap e48))]), (257, [(S ByteArray.empty), nilS])], [2 = 2 ∧ 0 + 2 ≤ 2, COK (hget [(256, [(S a0.f0), (.sl true a0.f1.length 3 (a0.f1.flatMap e48))]), (257, [(S ByteArray.empty), nilS])]) [(.ag [(S a0.f0), (.sl true a0.f1.length 3 (a0.f1.flatMap e48))])] ⟨24, [(.ag [(S a0.f0), (.sl true a0.f1.length 3 (a0.f1.flatMap e48))])], [], (B x1), [], [], [], [], (B x1), []⟩, (B (!x1) : V) = B false, COK (hget [(256, [(S a0.f0), (.sl true a0.f1.length 3 (a0.f1.flatMap e48))]), (257, [(S ByteArray.empty), nilS])]) [(I a1), (I (-100000)), (I 100000)] ⟨41, [(I a1), (I (-100000)), (I 100000)], [], (B x2), [], [], [], [], (B x2), []⟩], [⟨24, [(.ag [(S a0.f0), (.sl true a0.f1.length 3 (a0.f1.flatMap e48))])], [], (B x1), [], [], [], [], (B x1), []⟩, ⟨41, [(I a1), (I (-100000)), (I 100000)], [], (B x2), [], [], [], [], (B x2), []⟩]⟩ [c_ 13, c_ 7] (alc ⟨rfl, by decide⟩ (alc (cok0 false (a2c (.z (frz_ag (a2c .s (a2c (frz_sl e48_ok (fun h => h)) a2n)))) a2n) (.z .s) (fun h => absurd h (by decide))) (alc (bF (nF c1)) (alc (cok0 false (a2c (.z .s) (a2c (.z .s) (a2c (.z .s) a2n))) (.z .s) (fun h => absurd h (by decide))) aln)))) (acal (impl_TripOk.J k a0 _ hx1) (acal (impl_between.J a1 (-100000) 100000 _ hx2) nocal)) ?_
    by_cases c2 : x2 = true
    · rw [if_pos c2] at h
      refine .cond' (.tmp 14) false [c_ 14, c_ 15] (bF (nF c2)) ?_
      obtain ⟨x3, hx3, h⟩ := Option.bind_eq_some_iff.mp h
      refine .reg' [1, 4, 5] [.no, .c ⟨56, [(.ag [(S a0.f0), (.sl true a0.f1.length 3 (a0.f1.flatMap e48))])], [], (.ag [(S x3.f0), (.rf 514 0 x3.f1.length 3 (x3.f1.length * 3))]), [(514, (x3.f1.flatMap e48))], [], [], [(1001025, 514)], (.ag [(S x3.f0), (.rf 1001025 0 x3.f1.length 3 (x3.f1.length * 3))]), [(1001025, (x3.f1.flatMap e48))]⟩] ⟨[(1, (I a1)), (4, (.pt 257 0 2)), (5, (.pt 1026 0 2))], [(256, [(S a0.f0), (.sl true a0.f1.length 3 (a0.f1.flatMap e48))]), (257, [(S ByteArray.empty), nilS]), (1001025, (x3.f1.flatMap e48)), (1026, [(S x3.f0), (.rf 1001025 0 x3.f1.length 3 (x3.f1.length * 3))])], [2 = 2 ∧ 0 + 2 ≤ 2, COK (hget [(256, [(S a0.f0), (.sl true a0.f1.length 3 (a0.f1.flatMap e48))]), (257, [(S ByteArray.empty), nilS])]) [(.ag [(S a0.f0), (.sl true a0.f1.length 3 (a0.f1.flatMap e48))])] ⟨56, [(.ag [(S a0.f0), (.sl true a0.f1.length 3 (a0.f1.flatMap e48))])], [], (.ag [(S x3.f0), (.rf 514 0 x3.f1.length 3 (x3.f1.length * 3))]), [(514, (x3.f1.flatMap e48))], [], [], [(1001025, 514)], (.ag [(S x3.f0), (.rf 1001025 0 x3.f1.length 3 (x3.f1.length * 3))]), [(1001025, (x3.f1.flatMap e48))]⟩, 2 = 2 ∧ 0 + 2 ≤ 2], [⟨56, [(.ag [(S a0.f0), (.sl true a0.f1.length 3 (a0.f1.flatMap e48))])], [], (.ag [(S x3.f0), (.rf 514 0 x3.f1.length 3 (x3.f1.length * 3))]), [(514, (x3.f1.flatMap e48))], [], [], [(1001025, 514)], (.ag [(S x3.f0), (.rf 1001025 0 x3.f1.length 3 (x3.f1.length * 3))]), [(1001025, (x3.f1.flatMap e48))]⟩]⟩ [c_ 60, c_ 61, c_ 31] (alc ⟨rfl, by decide⟩ (alc (cokW false (a2c (.z (frz_ag (a2c .s (a2c (frz_sl e48_ok (fun h => h)) a2n)))) a2n) akn (akc (.inr rfl) akn) (bck_ag (a2c (.z .s) (a2c (.rf (memP_mem (p := (1001025, 514)) rfl)) a2n))) (akc ⟨_, _, rfl, rfl, rowB e48_c _⟩ akn) (fun h => absurd h (by decide))) (alc ⟨rfl, by decide⟩ aln))) (acal (impl_cloneTrip.J a0 _ hx3) nocal) ?_
      refine .reg' [1, 4, 5, 20, 21] [] ⟨[(1, (I a1)), (4, (.pt 257 0 2)), (5, (.pt 1026 0 2)), (20, (I (x3.f1.length : Int))), (21, (I 0))], [(256, [(S a0.f0), (.sl true a0.f1.length 3 (a0.f1.flatMap e48))]), (257, [(S ByteArray.empty), nilS]), (1001025, (x3.f1.flatMap e48)), (1026, [(S x3.f0), (.rf 1001025 0 x3.f1.length 3 (x3.f1.length * 3))])], [2 = 2 ∧ 1 + 1 ≤ 2], []⟩ [l_ 122, b_ 0, c_ 31] (alc ⟨rfl, by decide⟩ aln) nocal ?_
      refine .wk' [] [(257, 257), (1001025, 1001025), (1026, 1026)] [(1, (I a1)), (4, (.pt 257 0 2)), (5, (.pt 1026 0 2)), (20, (I (x3.f1.length : Int))), (21, (I 0))] [(257, [(S ByteArray.empty), nilS]), (1001025, (x3.f1.flatMap e48)), (1026, [(S x3.f0), (.rf 1001025 0 x3.f1.length 3 (x3.f1.length * 3))])] (shc 257 (a2c (.z .s) (a2c (.z .s) a2n)) (shc 1001025 (rowF e48_ok _) (shc 1026 (a2c (.z .s) (a2c (.rf (memP_mem (p := (1001025, 1001025)) rfl)) a2n)) shn))) (enc_ (.z .s) (enc_ (.pt (memP_mem (p := (257, 257)) rfl)) (enc_ (.pt (memP_mem (p := (1026, 1026)) rfl)) (enc_ (.z .s) (enc_ (.z .s) enn))))) ?_
      exact ih0 a1 x3 x3.f1 0 _ h
    · rw [if_neg c2] at h
      refine .cond' (.tmp 14) true [c_ 52, c_ 53, c_ 7] (bT (nT (vF c2))) ?_
      refine .reg' [4] [] ⟨[(4, (.pt 257 0 2))], [(256, [(S a0.f0), (.sl true a0.f1.length 3 (a0.f1.flatMap e48))]), (257, [(S ByteArray.empty), nilS])], [2 = 2 ∧ 0 + 2 ≤ 2], []⟩ [c_ 53, c_ 7] (alc ⟨rfl, by decide⟩ aln) nocal ?_
      have h := Option.some.inj h
      subst h
      refine .nl' 1001025 ?_
      exact .fin' [] [(1001025, 1001025)] (.ag [(S ByteArray.empty), nilS]) [2 = 2 ∧ 0 + 2 ≤ 2] (alc ⟨rfl, by decide⟩ aln) (shc 1001025 (rowF e48_ok _) shn) (cnv_ag (a2c (.z .s) (a2c (.nl (memP_mem (p := (1001025, 1001025)) rfl) rfl) a2n)))
  · rw [if_neg c1] at h
    refine .reg' [1, 2, 4, 14] [.no, .c ⟨24, [(.ag [(S a0.f0), (.sl true a0.f1.length 3 (a0.f1.flatMap e48))])], [], (B x1), [], [], [], [], (B x1), []⟩, .no, .v (B true)] ⟨[(1, (I a1)), (2, (.pt 256 0 2)), (4, (.pt 257 0 2)), (14, (B true))], [(256, [(S a0.f0), (.sl true a0.f1.length 3 (a0.f1.flatMap e48))]), (257, [(S ByteArray.empty), nilS])], [2 = 2 ∧ 0 + 2 ≤ 2, COK (hget [(256, [(S a0.f0), (.sl true a0.f1.length 3 (a0.f1.flatMap e48))]), (257, [(S ByteArray.empty), nilS])]) [(.ag [(S a0.f0), (.sl true a0.f1.length 3 (a0.f1.flatMap e48))])] ⟨24, [(.ag [(S a0.f0), (.sl true a0.f1.length 3 (a0.f1.flatMap e48))])], [], (B x1), [], [], [], [], (B x1), []⟩, (B (!x1) : V) = B true], [⟨24, [(.ag [(S a0.f0), (.sl true a0.f1.length 3 (a0.f1.flatMap e48))])], [], (B x1), [], [], [], [], (B x1), []⟩]⟩ [c_ 13, c_ 7] (alc ⟨rfl, by decide⟩ (alc (cok0 false (a2c (.z (frz_ag (a2c .s (a2c (frz_sl e48_ok (fun h => h)) a2n)))) a2n) (.z .s) (fun h => absurd h (by decide))) (alc (bT (nT (vF c1))) aln))) (acal (impl_TripOk.J k a0 _ hx1) nocal) ?_
    refine .cond' (.tmp 14) true [c_ 52, c_ 53, c_ 7] (rfl) ?_
    refine .reg' [4] [] ⟨[(4, (.pt 257 0 2))], [(256, [(S a0.f0), (.sl true a0.f1.length 3 (a0.f1.flatMap e48))]), (257, [(S ByteArray.empty), nilS])], [2 = 2 ∧ 0 + 2 ≤ 2], []⟩ [c_ 53, c_ 7] (alc ⟨rfl, by decide⟩ aln) nocal ?_
    have h := Option.some.inj h
    subst h
    refine .nl' 1001025 ?_
    exact .fin' [] [(1001025, 1001025)] (.ag [(S ByteArray.empty), nilS]) [2 = 2 ∧ 0 + 2 ≤ 2] (alc ⟨rfl, by decide⟩ aln) (shc 1001025 (rowF e48_ok _) shn) (cnv_ag (a2c (.z .s) (a2c (.nl (memP_mem (p := (1001025, 1001025)) rfl) rfl) a2n)))
end Go.Proofs.YtjlickinmkafbaaDoor.Fns
