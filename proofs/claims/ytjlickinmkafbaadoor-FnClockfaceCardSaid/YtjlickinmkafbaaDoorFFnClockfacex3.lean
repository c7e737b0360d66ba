/- The functions that the law FnClockface reaches, by the engine. Printed by a program of this seat. -/
import Derived.Test.YtjlickinmkafbaaDoorE5
import Derived.Test.YtjlickinmkafbaaDoorProg
import Derived.Test.YtjlickinmkafbaaDoorFFnClockfacex2
namespace Go.Proofs.YtjlickinmkafbaaDoor.Fns
open Go.Proofs.Tryd Go.Proofs.YtjlickinmkafbaaDoor.Eng Go.RowKit
set_option maxRecDepth 100000
set_option linter.unusedVariables false
set_option linter.unusedSimpArgs false
/-! strings_Cut: function 49 (the shelf's contract) -/
def strings_Cut.f (a0 a1 : ByteArray) : Option (ByteArray × ByteArray × Bool) := (if a0.size < 4294967281 then (some ((⟨(Go.Lib.cut a0.data.toList a1.data.toList).1.toArray⟩ : ByteArray), (⟨(Go.Lib.cut a0.data.toList a1.data.toList).2.1.toArray⟩ : ByteArray), (Go.Lib.cut a0.data.toList a1.data.toList).2.2)) else none)
theorem strings_Cut.J (a0 a1 : ByteArray) (r : ByteArray × ByteArray × Bool) (h : strings_Cut.f a0 a1 = some r) : J prog (.call 49 [(S a0), (S a1)] [] (.tp [(S r.1), (S r.2.1), (B r.2.2)]) []) := by
  unfold strings_Cut.f at h
  by_cases h0 : a0.size < 4294967281
  · rw [if_pos h0] at h
    have h := Option.some.inj h
    subst h
    refine lib_cut2 fun w hg => ?_
    obtain ⟨m, hm⟩ := hg.2 _ lays145.m1
    exact Go.Proofs.Any.strings_Cut { lays145 with } a0 a1 m w h0 hm
  · rw [if_neg h0] at h
    cases h
/-! impl_digits: function 50 -/
def impl_digits.l0 : Nat → ByteArray → Int → Int → Option Int
 | 0, _, _, _ => none
 | k + 1, a0, x1, x2 => (if x2 < (a0.size : Int) then (if 0 ≤ x2 then (if (bt a0 x2) < 48 then (some (-1)) else (if (bt a0 x2) > 57 then (some (-1)) else (impl_digits.l0 k a0 (wrap64 ((wrap64 (10 * x1)) + (IntKind.i64.wrap (IntKind.u8.wrap ((bt a0 x2) - (48 : Int)))))) (wrap64 (x2 + 1))))) else none) else (some x1))
def impl_digits.f (k : Nat) (a0 : ByteArray) (a1 : Int) : Option Int := (if (a0.size : Int) < 1 then (some (-1)) else (if (a0.size : Int) > a1 then (some (-1)) else (impl_digits.l0 k a0 0 0)))
theorem impl_digits.lab : ∀ k, (∀ (a0 : ByteArray) (x1 : Int) (x2 : Int) (r : Int), impl_digits.l0 k a0 x1 x2 = some r → J prog (.run 50 [] [l_ 122, b_ 0, c_ 31] [(0, (S a0)), (5, (I x1)), (6, (I x2))] [] (I r) []))
 | 0 => (by intro a0 x1 x2 r h; unfold impl_digits.l0 at h; cases h)
 | k + 1 => by
  have ih0 := impl_digits.lab k
  · intro a0 x1 x2 r h
    unfold impl_digits.l0 at h
    refine .loop' [c_ 976, c_ 977, c_ 489, l_ 122, b_ 0, c_ 31] ?_
    refine .reg' [0, 5, 6, 19] [] ⟨[(0, (S a0)), (5, (I x1)), (6, (I x2)), (19, (B (decide (x2 < (a0.size : Int)))))], [], [], []⟩ [c_ 977, c_ 489, l_ 122, b_ 0, c_ 31] aln nocal ?_
    by_cases c3 : x2 < (a0.size : Int)
    · rw [if_pos c3] at h
      refine .cond' (.tmp 19) true [c_ 7824, c_ 7825, c_ 3913, b_ 1, c_ 979, l_ 122, b_ 0, c_ 31] (bT (dT c3)) ?_
      by_cases c4 : 0 ≤ x2
      · rw [if_pos c4] at h
        by_cases c5 : (bt a0 x2) < 48
        · rw [if_pos c5] at h
          refine .reg' [0, 5, 6, 31] [.no, .no, .no, .no, .v (B true)] ⟨[(0, (S a0)), (5, (I x1)), (6, (I x2)), (31, (B true))], [], [(0 : Int) ≤ x2 ∧ x2 < (a0.size : Int), (B (decide ((bt a0 x2) < 48)) : V) = B true], []⟩ [c_ 7825, c_ 3913, b_ 1, c_ 979, l_ 122, b_ 0, c_ 31] (alc ⟨c4, c3⟩ (alc (bT (dT c5)) aln)) nocal ?_
          refine .cond' (.tmp 31) true [c_ 31300, c_ 31301, c_ 3913, b_ 1, c_ 979, l_ 122, b_ 0, c_ 31] (rfl) ?_
          refine .reg' [4] [] ⟨[(4, (I (-1)))], [], [], []⟩ [c_ 31301, c_ 3913, b_ 1, c_ 979, l_ 122, b_ 0, c_ 31] aln nocal ?_
          have h := Option.some.inj h
          subst h
          exact .fin0 [] (I (-1)) [] aln (.z .s)
        · rw [if_neg c5] at h
          refine .reg' [0, 5, 6, 31] [.no, .no, .no, .no, .v (B false)] ⟨[(0, (S a0)), (5, (I x1)), (6, (I x2)), (31, (B (decide ((bt a0 x2) > 57))))], [], [(0 : Int) ≤ x2 ∧ x2 < (a0.size : Int), (B (decide ((bt a0 x2) < 48)) : V) = B false, (0 : Int) ≤ x2 ∧ x2 < (a0.size : Int)], []⟩ [c_ 7825, c_ 3913, b_ 1, c_ 979, l_ 122, b_ 0, c_ 31] (alc ⟨c4, c3⟩ (alc (bF (dF c5)) (alc ⟨c4, c3⟩ aln))) nocal ?_
          by_cases c6 : (bt a0 x2) > 57
          · rw [if_pos c6] at h
            refine .cond' (.tmp 31) true [c_ 31300, c_ 31301, c_ 3913, b_ 1, c_ 979, l_ 122, b_ 0, c_ 31] (bT (dT c6)) ?_
            refine .reg' [4] [] ⟨[(4, (I (-1)))], [], [], []⟩ [c_ 31301, c_ 3913, b_ 1, c_ 979, l_ 122, b_ 0, c_ 31] aln nocal ?_
            have h := Option.some.inj h
            subst h
            exact .fin0 [] (I (-1)) [] aln (.z .s)
          · rw [if_neg c6] at h
            refine .cond' (.tmp 31) false [c_ 3913, b_ 1, c_ 979, l_ 122, b_ 0, c_ 31] (bF (dF c6)) ?_
            refine .reg' [0, 5, 6] [] ⟨[(0, (S a0)), (5, (I (wrap64 ((wrap64 (10 * x1)) + (IntKind.i64.wrap (IntKind.u8.wrap ((bt a0 x2) - (48 : Int)))))))), (6, (I x2))], [], [(0 : Int) ≤ x2 ∧ x2 < (a0.size : Int)], []⟩ [c_ 979, l_ 122, b_ 0, c_ 31] (alc ⟨c4, c3⟩ aln) nocal ?_
            refine .reg' [0, 5, 6] [] ⟨[(0, (S a0)), (5, (I (wrap64 ((wrap64 (10 * x1)) + (IntKind.i64.wrap (IntKind.u8.wrap ((bt a0 x2) - (48 : Int)))))))), (6, (I (wrap64 (x2 + 1))))], [], [], []⟩ [l_ 122, b_ 0, c_ 31] aln nocal ?_
            exact ih0 a0 (wrap64 ((wrap64 (10 * x1)) + (IntKind.i64.wrap (IntKind.u8.wrap ((bt a0 x2) - (48 : Int)))))) (wrap64 (x2 + 1)) _ h
      · rw [if_neg c4] at h
        cases h
    · rw [if_neg c3] at h
      refine .cond' (.tmp 19) false [c_ 62, c_ 63] (bF (dF c3)) ?_
      refine .reg' [4] [] ⟨[(4, (I x1))], [], [], []⟩ [c_ 63] aln nocal ?_
      have h := Option.some.inj h
      subst h
      exact .fin0 [] (I x1) [] aln (.z .s)
theorem impl_digits.J (k : Nat) (a0 : ByteArray) (a1 : Int) (r : Int) (h : impl_digits.f k a0 a1 = some r) : J prog (.call 50 [(S a0), (I a1)] [] (I r) []) := by
  unfold impl_digits.f at h
  have ih0 := impl_digits.lab k
  refine .call' [c_ 2, c_ 3] ?_
  refine .reg' [0, 1] [] ⟨[(0, (S a0)), (1, (I a1))], [], [], []⟩ [c_ 12, c_ 13, c_ 7] aln nocal ?_
  by_cases c1 : (a0.size : Int) < 1
  · rw [if_pos c1] at h
    refine .reg' [0, 15] [.no, .no, .no, .v (B true)] ⟨[(0, (S a0)), (15, (B true))], [], [(B (decide ((a0.size : Int) < 1)) : V) = B true], []⟩ [c_ 13, c_ 7] (alc (bT (dT c1)) aln) nocal ?_
    refine .cond' (.tmp 15) true [c_ 52, c_ 53, c_ 7] (rfl) ?_
    refine .reg' [4] [] ⟨[(4, (I (-1)))], [], [], []⟩ [c_ 53, c_ 7] aln nocal ?_
    have h := Option.some.inj h
    subst h
    exact .fin0 [] (I (-1)) [] aln (.z .s)
  · rw [if_neg c1] at h
    refine .reg' [0, 15] [.no, .no, .no, .v (B false)] ⟨[(0, (S a0)), (15, (B (decide ((a0.size : Int) > a1))))], [], [(B (decide ((a0.size : Int) < 1)) : V) = B false], []⟩ [c_ 13, c_ 7] (alc (bF (dF c1)) aln) nocal ?_
    by_cases c2 : (a0.size : Int) > a1
    · rw [if_pos c2] at h
      refine .cond' (.tmp 15) true [c_ 52, c_ 53, c_ 7] (bT (dT c2)) ?_
      refine .reg' [4] [] ⟨[(4, (I (-1)))], [], [], []⟩ [c_ 53, c_ 7] aln nocal ?_
      have h := Option.some.inj h
      subst h
      exact .fin0 [] (I (-1)) [] aln (.z .s)
    · rw [if_neg c2] at h
      refine .cond' (.tmp 15) false [c_ 14, c_ 15] (bF (dF c2)) ?_
      refine .reg' [0, 5] [] ⟨[(0, (S a0)), (5, (I 0))], [], [], []⟩ [c_ 60, c_ 61, c_ 31] aln nocal ?_
      refine .reg' [0, 5, 6] [] ⟨[(0, (S a0)), (5, (I 0)), (6, (I 0))], [], [], []⟩ [l_ 122, b_ 0, c_ 31] aln nocal ?_
      exact ih0 a0 0 0 _ h
/-! impl_ReadTime: function 51 -/
def impl_ReadTime.f (k : Nat) (a0 : ByteArray) : Option Int := (if (a0.size : Int) < 5 then (some (-1)) else (if 0 ≤ (wrap64 ((a0.size : Int) - 3)) then (if (wrap64 ((a0.size : Int) - 3)) < (a0.size : Int) then (if (bt a0 (wrap64 ((a0.size : Int) - 3))) = 58 then (if (wrap64 ((a0.size : Int) - 3)) ≤ (a0.size : Int) then ((impl_digits.f k (a0.extract (0 : Int).toNat (wrap64 ((a0.size : Int) - 3)).toNat) 4).bind fun x1 => (if 0 ≤ (wrap64 ((a0.size : Int) - 2)) then (if (wrap64 ((a0.size : Int) - 2)) ≤ (a0.size : Int) then ((impl_digits.f k (a0.extract (wrap64 ((a0.size : Int) - 2)).toNat (a0.size : Int).toNat) 2).bind fun x2 => (if x1 < 0 then (some (-1)) else (if x2 < 0 then (some (-1)) else ((impl_TimeText.f (wrap64 ((wrap64 (60 * x1)) + x2))).bind fun x3 => (if (sEq x3 a0) = true then (some (wrap64 ((wrap64 (60 * x1)) + x2))) else (some (-1))))))) else none) else none)) else none) else (some (-1))) else none) else none))
theorem impl_ReadTime.J (k : Nat) (a0 : ByteArray) (r : Int) (h : impl_ReadTime.f k a0 = some r) : J prog (.call 51 [(S a0)] [] (I r) []) := by
  unfold impl_ReadTime.f at h
  refine .call' [c_ 2, c_ 3] ?_
  refine .reg' [0] [] ⟨[(0, (S a0))], [], [], []⟩ [c_ 12, c_ 13, c_ 7] aln nocal ?_
  by_cases c1 : (a0.size : Int) < 5
  · rw [if_pos c1] at h
    refine .reg' [0, 15] [.no, .no, .no, .v (B true)] ⟨[(0, (S a0)), (15, (B true))], [], [(B (decide ((a0.size : Int) < 5)) : V) = B true], []⟩ [c_ 13, c_ 7] (alc (bT (dT c1)) aln) nocal ?_
    refine .cond' (.tmp 15) true [c_ 52, c_ 53, c_ 7] (rfl) ?_
    refine .reg' [2] [] ⟨[(2, (I (-1)))], [], [], []⟩ [c_ 53, c_ 7] aln nocal ?_
    have h := Option.some.inj h
    subst h
    exact .fin0 [] (I (-1)) [] aln (.z .s)
  · rw [if_neg c1] at h
    by_cases c2 : 0 ≤ (wrap64 ((a0.size : Int) - 3))
    · rw [if_pos c2] at h
      by_cases c3 : (wrap64 ((a0.size : Int) - 3)) < (a0.size : Int)
      · rw [if_pos c3] at h
        refine .reg' [0, 15] [.no, .no, .no, .v (B false)] ⟨[(0, (S a0)), (15, (B (!((bt a0 (wrap64 ((a0.size : Int) - 3))) == 58))))], [], [(B (decide ((a0.size : Int) < 5)) : V) = B false, (0 : Int) ≤ (wrap64 ((a0.size : Int) - 3)) ∧ (wrap64 ((a0.size : Int) - 3)) < (a0.size : Int)], []⟩ [c_ 13, c_ 7] (alc (bF (dF c1)) (alc ⟨c2, c3⟩ aln)) nocal ?_
        by_cases c4 : (bt a0 (wrap64 ((a0.size : Int) - 3))) = 58
        · rw [if_pos c4] at h
          refine .cond' (.tmp 15) false [c_ 14, c_ 15] (bF (nF (qT c4))) ?_
          by_cases c5 : (wrap64 ((a0.size : Int) - 3)) ≤ (a0.size : Int)
          · rw [if_pos c5] at h
            obtain ⟨x1, hx1, h⟩ := Option.bind_eq_some_iff.mp h
            by_cases c6 : 0 ≤ (wrap64 ((a0.size : Int) - 2))
            · rw [if_pos c6] at h
              by_cases c7 : (wrap64 ((a0.size : Int) - 2)) ≤ (a0.size : Int)
              · rw [if_pos c7] at h
                obtain ⟨x2, hx2, h⟩ := Option.bind_eq_some_iff.mp h
                refine .reg' [0, 3, 4] [.no, .no, .no, .no, .no, .c ⟨50, [(S (a0.extract (0 : Int).toNat (wrap64 ((a0.size : Int) - 3)).toNat)), (I 4)], [], (I x1), [], [], [], [], (I x1), []⟩, .no, .no, .no, .no, .no, .c ⟨50, [(S (a0.extract (wrap64 ((a0.size : Int) - 2)).toNat (a0.size : Int).toNat)), (I 2)], [], (I x2), [], [], [], [], (I x2), []⟩] ⟨[(0, (S a0)), (3, (I x1)), (4, (I x2))], [], [0 ≤ (0 : Int) ∧ 0 ≤ (wrap64 ((a0.size : Int) - 3)) ∧ (wrap64 ((a0.size : Int) - 3)) ≤ (a0.size : Int), COK (hget []) [(S (a0.extract (0 : Int).toNat (wrap64 ((a0.size : Int) - 3)).toNat)), (I 4)] ⟨50, [(S (a0.extract (0 : Int).toNat (wrap64 ((a0.size : Int) - 3)).toNat)), (I 4)], [], (I x1), [], [], [], [], (I x1), []⟩, 0 ≤ (wrap64 ((a0.size : Int) - 2)) ∧ (wrap64 ((a0.size : Int) - 2)) ≤ (a0.size : Int) ∧ (a0.size : Int) ≤ (a0.size : Int), COK (hget []) [(S (a0.extract (wrap64 ((a0.size : Int) - 2)).toNat (a0.size : Int).toNat)), (I 2)] ⟨50, [(S (a0.extract (wrap64 ((a0.size : Int) - 2)).toNat (a0.size : Int).toNat)), (I 2)], [], (I x2), [], [], [], [], (I x2), []⟩], [⟨50, [(S (a0.extract (0 : Int).toNat (wrap64 ((a0.size : Int) - 3)).toNat)), (I 4)], [], (I x1), [], [], [], [], (I x1), []⟩, ⟨50, [(S (a0.extract (wrap64 ((a0.size : Int) - 2)).toNat (a0.size : Int).toNat)), (I 2)], [], (I x2), [], [], [], [], (I x2), []⟩]⟩ [c_ 60, c_ 61, c_ 31] (alc ⟨(by decide), c2, c5⟩ (alc (cok0 false (a2c (.z .s) (a2c (.z .s) a2n)) (.z .s) (fun h => absurd h (by decide))) (alc ⟨c6, c7, (Int.le_refl _)⟩ (alc (cok0 false (a2c (.z .s) (a2c (.z .s) a2n)) (.z .s) (fun h => absurd h (by decide))) aln)))) (acal (impl_digits.J k (a0.extract (0 : Int).toNat (wrap64 ((a0.size : Int) - 3)).toNat) 4 _ hx1) (acal (impl_digits.J k (a0.extract (wrap64 ((a0.size : Int) - 2)).toNat (a0.size : Int).toNat) 2 _ hx2) nocal)) ?_
                by_cases c8 : x1 < 0
                · rw [if_pos c8] at h
                  refine .reg' [3, 4, 42] [.no, .no, .v (B true)] ⟨[(3, (I x1)), (4, (I x2)), (42, (B true))], [], [(B (decide (x1 < 0)) : V) = B true], []⟩ [c_ 61, c_ 31] (alc (bT (dT c8)) aln) nocal ?_
                  refine .cond' (.tmp 42) true [c_ 244, c_ 245, c_ 31] (rfl) ?_
                  refine .reg' [2] [] ⟨[(2, (I (-1)))], [], [], []⟩ [c_ 245, c_ 31] aln nocal ?_
                  have h := Option.some.inj h
                  subst h
                  exact .fin0 [] (I (-1)) [] aln (.z .s)
                · rw [if_neg c8] at h
                  by_cases c9 : x2 < 0
                  · rw [if_pos c9] at h
                    refine .reg' [3, 4, 42] [.no, .no, .v (B false), .no, .no, .no, .v (B true)] ⟨[(3, (I x1)), (4, (I x2)), (42, (B true))], [], [(B (decide (x1 < 0)) : V) = B false, (B (decide (x2 < 0)) : V) = B true], []⟩ [c_ 61, c_ 31] (alc (bF (dF c8)) (alc (bT (dT c9)) aln)) nocal ?_
                    refine .cond' (.tmp 42) true [c_ 244, c_ 245, c_ 31] (rfl) ?_
                    refine .reg' [2] [] ⟨[(2, (I (-1)))], [], [], []⟩ [c_ 245, c_ 31] aln nocal ?_
                    have h := Option.some.inj h
                    subst h
                    exact .fin0 [] (I (-1)) [] aln (.z .s)
                  · rw [if_neg c9] at h
                    obtain ⟨x3, hx3, h⟩ := Option.bind_eq_some_iff.mp h
                    refine .reg' [3, 4, 42] [.no, .no, .v (B false), .no, .no, .no, .v (B false), .no, .no, .no, .no, .c ⟨36, [(I (wrap64 ((wrap64 (60 * x1)) + x2)))], [], (S x3), [], [], [], [], (S x3), []⟩] ⟨[(3, (I x1)), (4, (I x2)), (42, (B (!(sEq x3 a0))))], [], [(B (decide (x1 < 0)) : V) = B false, (B (decide (x2 < 0)) : V) = B false, COK (hget []) [(I (wrap64 ((wrap64 (60 * x1)) + x2)))] ⟨36, [(I (wrap64 ((wrap64 (60 * x1)) + x2)))], [], (S x3), [], [], [], [], (S x3), []⟩], [⟨36, [(I (wrap64 ((wrap64 (60 * x1)) + x2)))], [], (S x3), [], [], [], [], (S x3), []⟩]⟩ [c_ 61, c_ 31] (alc (bF (dF c8)) (alc (bF (dF c9)) (alc (cok0 false (a2c (.z .s) a2n) (.z .s) (fun h => absurd h (by decide))) aln))) (acal (impl_TimeText.J (wrap64 ((wrap64 (60 * x1)) + x2)) _ hx3) nocal) ?_
                    by_cases c10 : (sEq x3 a0) = true
                    · rw [if_pos c10] at h
                      refine .cond' (.tmp 42) false [c_ 62, c_ 63] (bF (nF c10)) ?_
                      refine .reg' [2] [] ⟨[(2, (I (wrap64 ((wrap64 (60 * x1)) + x2))))], [], [], []⟩ [c_ 63] aln nocal ?_
                      have h := Option.some.inj h
                      subst h
                      exact .fin0 [] (I (wrap64 ((wrap64 (60 * x1)) + x2))) [] aln (.z .s)
                    · rw [if_neg c10] at h
                      refine .cond' (.tmp 42) true [c_ 244, c_ 245, c_ 31] (bT (nT (vF c10))) ?_
                      refine .reg' [2] [] ⟨[(2, (I (-1)))], [], [], []⟩ [c_ 245, c_ 31] aln nocal ?_
                      have h := Option.some.inj h
                      subst h
                      exact .fin0 [] (I (-1)) [] aln (.z .s)
              · rw [if_neg c7] at h
                cases h
            · rw [if_neg c6] at h
              cases h
          · rw [if_neg c5] at h
            cases h
        · rw [if_neg c4] at h
          refine .cond' (.tmp 15) true [c_ 52, c_ 53, c_ 7] (bT (nT (qF c4))) ?_
          refine .reg' [2] [] ⟨[(2, (I (-1)))], [], [], []⟩ [c_ 53, c_ 7] aln nocal ?_
          have h := Option.some.inj h
          subst h
          exact .fin0 [] (I (-1)) [] aln (.z .s)
      · rw [if_neg c3] at h
        cases h
    · rw [if_neg c2] at h
      cases h
/-! impl_ReadTrip: function 20 -/
def impl_ReadTrip.l0 : Nat → ByteArray → (List ByteArray) → (List S48) → Int → Option (S28 × Bool)
 | 0, _, _, _, _ => none
 | k + 1, a0, x1, x2, x3 => (if x3 < (((x1.drop (1 : Int).toNat).take ((x1.length : Int).toNat - (1 : Int).toNat)).length : Int) then (if 0 ≤ x3 then ((strings_Cut.f (at_ ((x1.drop (1 : Int).toNat).take ((x1.length : Int).toNat - (1 : Int).toNat)) x3) (⟨#[64]⟩ : ByteArray)).bind fun x4 => ((strings_Cut.f x4.2.1 (⟨#[45]⟩ : ByteArray)).bind fun x5 => ((impl_digits.f k x4.1 2).bind fun x6 => ((impl_ReadTime.f k x5.1).bind fun x7 => ((impl_ReadTime.f k x5.2.1).bind fun x8 => (if (x2.length + ([(⟨x6, x7, x8⟩ : S48)] : List S48).length) * 24 ≤ 70368744177664 then (impl_ReadTrip.l0 k a0 x1 (x2 ++ ([(⟨x6, x7, x8⟩ : S48)] : List S48)) (wrap64 (x3 + 1))) else none)))))) else none) else ((impl_TripOk.f k (⟨(at_ x1 0), x2⟩ : S28)).bind fun x9 => (if x9 = true then ((impl_TripText.f k (⟨(at_ x1 0), x2⟩ : S28)).bind fun x10 => (if (sEq x10 a0) = true then (some ((⟨(at_ x1 0), x2⟩ : S28), true)) else (some ((⟨ByteArray.empty, ([] : List S48)⟩ : S28), false)))) else (some ((⟨ByteArray.empty, ([] : List S48)⟩ : S28), false)))))
def impl_ReadTrip.f (k : Nat) (a0 : ByteArray) : Option (S28 × Bool) := (if (a0.size : Int) > 300 then (some ((⟨ByteArray.empty, ([] : List S48)⟩ : S28), false)) else ((strings_Split.f a0 (⟨#[32]⟩ : ByteArray)).bind fun x1 => (if 0 < (x1.length : Int) then (if 1 ≤ (x1.length : Int) then (impl_ReadTrip.l0 k a0 x1 ([] : List S48) 0) else none) else none)))
theorem impl_ReadTrip.lab : ∀ k, (∀ (a0 : ByteArray) (x1 : (List ByteArray)) (x2 : (List S48)) (x3 : Int) (r : (S28 × Bool)), impl_ReadTrip.l0 k a0 x1 x2 x3 = some r → J prog (.run 20 [] [l_ 250, b_ 0, c_ 63] [(0, (S a0)), (2, (.pt 256 0 2)), (5, (.pt 1284 0 2)), (25, (.sl false ((x1.drop (1 : Int).toNat).take ((x1.length : Int).toNat - (1 : Int).toNat)).length 1 (((x1.drop (1 : Int).toNat).take ((x1.length : Int).toNat - (1 : Int).toNat)).flatMap encS))), (26, (I (((x1.drop (1 : Int).toNat).take ((x1.length : Int).toNat - (1 : Int).toNat)).length : Int))), (27, (I x3))] [(3020545, (x2.flatMap e48)), (256, [(S ByteArray.empty), nilS]), (1284, [(S (at_ x1 0)), (.rf 3020545 0 x2.length 3 (x2.length * 3))])] (.tp [(.ag [(S r.1.f0), (.rf 3020545 0 r.1.f1.length 3 (r.1.f1.length * 3))]), (B r.2)]) [(3020545, (r.1.f1.flatMap e48))]))
 | 0 => (by intro a0 x1 x2 x3 r h; unfold impl_ReadTrip.l0 at h; cases h)
 | k + 1 => by
  have ih0 := impl_ReadTrip.lab k
  · intro a0 x1 x2 x3 r h
    unfold impl_ReadTrip.l0 at h
    refine .loop' [c_ 1000, c_ 1001, l_ 250, b_ 0, c_ 63] ?_
    refine .reg' [0, 2, 5, 25, 26, 27, 28] [] ⟨[(0, (S a0)), (2, (.pt 256 0 2)), (5, (.pt 1284 0 2)), (25, (.sl false ((x1.drop (1 : Int).toNat).take ((x1.length : Int).toNat - (1 : Int).toNat)).length 1 (((x1.drop (1 : Int).toNat).take ((x1.length : Int).toNat - (1 : Int).toNat)).flatMap encS))), (26, (I (((x1.drop (1 : Int).toNat).take ((x1.length : Int).toNat - (1 : Int).toNat)).length : Int))), (27, (I x3)), (28, (B (decide (x3 < (((x1.drop (1 : Int).toNat).take ((x1.length : Int).toNat - (1 : Int).toNat)).length : Int)))))], [(3020545, (x2.flatMap e48)), (256, [(S ByteArray.empty), nilS]), (1284, [(S (at_ x1 0)), (.rf 3020545 0 x2.length 3 (x2.length * 3))])], [], []⟩ [c_ 2002, c_ 2003, l_ 250, b_ 0, c_ 63] aln nocal ?_
    by_cases c4 : x3 < (((x1.drop (1 : Int).toNat).take ((x1.length : Int).toNat - (1 : Int).toNat)).length : Int)
    · rw [if_pos c4] at h
      refine .cond' (.tmp 28) true [c_ 16024, c_ 16025, b_ 1, c_ 4007, l_ 250, b_ 0, c_ 63] (bT (dT c4)) ?_
      by_cases c5 : 0 ≤ x3
      · rw [if_pos c5] at h
        refine .reg' [0, 2, 5, 7, 25, 26, 27] [.no, .v (S (at_ ((x1.drop (1 : Int).toNat).take ((x1.length : Int).toNat - (1 : Int).toNat)) x3))] ⟨[(0, (S a0)), (2, (.pt 256 0 2)), (5, (.pt 1284 0 2)), (7, (S (at_ ((x1.drop (1 : Int).toNat).take ((x1.length : Int).toNat - (1 : Int).toNat)) x3))), (25, (.sl false ((x1.drop (1 : Int).toNat).take ((x1.length : Int).toNat - (1 : Int).toNat)).length 1 (((x1.drop (1 : Int).toNat).take ((x1.length : Int).toNat - (1 : Int).toNat)).flatMap encS))), (26, (I (((x1.drop (1 : Int).toNat).take ((x1.length : Int).toNat - (1 : Int).toNat)).length : Int))), (27, (I x3))], [(3020545, (x2.flatMap e48)), (256, [(S ByteArray.empty), nilS]), (1284, [(S (at_ x1 0)), (.rf 3020545 0 x2.length 3 (x2.length * 3))])], [(0 : Int) ≤ x3 ∧ x3 < (((x1.drop (1 : Int).toNat).take ((x1.length : Int).toNat - (1 : Int).toNat)).length : Int), rdC prog 9 ((((x1.drop (1 : Int).toNat).take ((x1.length : Int).toNat - (1 : Int).toNat)).flatMap encS).drop (x3.toNat * 1)) = (S (at_ ((x1.drop (1 : Int).toNat).take ((x1.length : Int).toNat - (1 : Int).toNat)) x3)), 1 ≤ ((((x1.drop (1 : Int).toNat).take ((x1.length : Int).toNat - (1 : Int).toNat)).flatMap encS).drop (x3.toNat * 1)).length], []⟩ [c_ 32050, c_ 32051, b_ 1, c_ 4007, l_ 250, b_ 0, c_ 63] (alc ⟨c5, c4⟩ (alc (ldC1 encS_ok rfl c5 c4) (alc (okI encS_ok c5 c4 (by decide)) aln))) nocal ?_
        obtain ⟨x4, hx4, h⟩ := Option.bind_eq_some_iff.mp h
        refine .reg' [0, 2, 5, 8, 9, 25, 26, 27] [.no, .c ⟨49, [(S (at_ ((x1.drop (1 : Int).toNat).take ((x1.length : Int).toNat - (1 : Int).toNat)) x3)), (S (⟨#[64]⟩ : ByteArray))], [], (.tp [(S x4.1), (S x4.2.1), (B x4.2.2)]), [], [], [], [], (.tp [(S x4.1), (S x4.2.1), (B x4.2.2)]), []⟩] ⟨[(0, (S a0)), (2, (.pt 256 0 2)), (5, (.pt 1284 0 2)), (8, (S x4.1)), (9, (S x4.2.1)), (25, (.sl false ((x1.drop (1 : Int).toNat).take ((x1.length : Int).toNat - (1 : Int).toNat)).length 1 (((x1.drop (1 : Int).toNat).take ((x1.length : Int).toNat - (1 : Int).toNat)).flatMap encS))), (26, (I (((x1.drop (1 : Int).toNat).take ((x1.length : Int).toNat - (1 : Int).toNat)).length : Int))), (27, (I x3))], [(3020545, (x2.flatMap e48)), (256, [(S ByteArray.empty), nilS]), (1284, [(S (at_ x1 0)), (.rf 3020545 0 x2.length 3 (x2.length * 3))])], [COK (hget [(3020545, (x2.flatMap e48)), (256, [(S ByteArray.empty), nilS]), (1284, [(S (at_ x1 0)), (.rf 3020545 0 x2.length 3 (x2.length * 3))])]) [(S (at_ ((x1.drop (1 : Int).toNat).take ((x1.length : Int).toNat - (1 : Int).toNat)) x3)), (S (⟨#[64]⟩ : ByteArray))] ⟨49, [(S (at_ ((x1.drop (1 : Int).toNat).take ((x1.length : Int).toNat - (1 : Int).toNat)) x3)), (S (⟨#[64]⟩ : ByteArray))], [], (.tp [(S x4.1), (S x4.2.1), (B x4.2.2)]), [], [], [], [], (.tp [(S x4.1), (S x4.2.1), (B x4.2.2)]), []⟩], [⟨49, [(S (at_ ((x1.drop (1 : Int).toNat).take ((x1.length : Int).toNat - (1 : Int).toNat)) x3)), (S (⟨#[64]⟩ : ByteArray))], [], (.tp [(S x4.1), (S x4.2.1), (B x4.2.2)]), [], [], [], [], (.tp [(S x4.1), (S x4.2.1), (B x4.2.2)]), []⟩]⟩ [c_ 64102, c_ 64103, b_ 1, c_ 4007, l_ 250, b_ 0, c_ 63] (alc (cok0 false (a2c (.z .s) (a2c (.z .s) a2n)) (bck_tp (a2c (.z .s) (a2c (.z .s) (a2c (.z .s) a2n)))) (fun h => absurd h (by decide))) aln) (acal (strings_Cut.J (at_ ((x1.drop (1 : Int).toNat).take ((x1.length : Int).toNat - (1 : Int).toNat)) x3) (⟨#[64]⟩ : ByteArray) _ hx4) nocal) ?_
        obtain ⟨x5, hx5, h⟩ := Option.bind_eq_some_iff.mp h
        refine .reg' [0, 2, 5, 8, 11, 12, 25, 26, 27] [.no, .c ⟨49, [(S x4.2.1), (S (⟨#[45]⟩ : ByteArray))], [], (.tp [(S x5.1), (S x5.2.1), (B x5.2.2)]), [], [], [], [], (.tp [(S x5.1), (S x5.2.1), (B x5.2.2)]), []⟩] ⟨[(0, (S a0)), (2, (.pt 256 0 2)), (5, (.pt 1284 0 2)), (8, (S x4.1)), (11, (S x5.1)), (12, (S x5.2.1)), (25, (.sl false ((x1.drop (1 : Int).toNat).take ((x1.length : Int).toNat - (1 : Int).toNat)).length 1 (((x1.drop (1 : Int).toNat).take ((x1.length : Int).toNat - (1 : Int).toNat)).flatMap encS))), (26, (I (((x1.drop (1 : Int).toNat).take ((x1.length : Int).toNat - (1 : Int).toNat)).length : Int))), (27, (I x3))], [(3020545, (x2.flatMap e48)), (256, [(S ByteArray.empty), nilS]), (1284, [(S (at_ x1 0)), (.rf 3020545 0 x2.length 3 (x2.length * 3))])], [COK (hget [(3020545, (x2.flatMap e48)), (256, [(S ByteArray.empty), nilS]), (1284, [(S (at_ x1 0)), (.rf 3020545 0 x2.length 3 (x2.length * 3))])]) [(S x4.2.1), (S (⟨#[45]⟩ : ByteArray))] ⟨49, [(S x4.2.1), (S (⟨#[45]⟩ : ByteArray))], [], (.tp [(S x5.1), (S x5.2.1), (B x5.2.2)]), [], [], [], [], (.tp [(S x5.1), (S x5.2.1), (B x5.2.2)]), []⟩], [⟨49, [(S x4.2.1), (S (⟨#[45]⟩ : ByteArray))], [], (.tp [(S x5.1), (S x5.2.1), (B x5.2.2)]), [], [], [], [], (.tp [(S x5.1), (S x5.2.1), (B x5.2.2)]), []⟩]⟩ [c_ 64103, b_ 1, c_ 4007, l_ 250, b_ 0, c_ 63] (alc (cok0 false (a2c (.z .s) (a2c (.z .s) a2n)) (bck_tp (a2c (.z .s) (a2c (.z .s) (a2c (.z .s) a2n)))) (fun h => absurd h (by decide))) aln) (acal (strings_Cut.J x4.2.1 (⟨#[45]⟩ : ByteArray) _ hx5) nocal) ?_
        obtain ⟨x6, hx6, h⟩ := Option.bind_eq_some_iff.mp h
        obtain ⟨x7, hx7, h⟩ := Option.bind_eq_some_iff.mp h
        obtain ⟨x8, hx8, h⟩ := Option.bind_eq_some_iff.mp h
        by_cases c6 : (x2.length + ([(⟨x6, x7, x8⟩ : S48)] : List S48).length) * 24 ≤ 70368744177664
        · rw [if_pos c6] at h
          refine .reg' [0, 2, 5, 25, 26, 27] [.no, .no, .no, .c ⟨50, [(S x4.1), (I 2)], [], (I x6), [], [], [], [], (I x6), []⟩, .no, .c ⟨51, [(S x5.1)], [], (I x7), [], [], [], [], (I x7), []⟩, .no, .c ⟨51, [(S x5.2.1)], [], (I x8), [], [], [], [], (I x8), []⟩, .no, .no, .w (.rf 3020545 0 ((x2 ++ ([(⟨x6, x7, x8⟩ : S48)] : List S48)).length) 3 ((x2 ++ ([(⟨x6, x7, x8⟩ : S48)] : List S48)).length * 3)) ((x2 ++ ([(⟨x6, x7, x8⟩ : S48)] : List S48)).flatMap e48)] ⟨[(0, (S a0)), (2, (.pt 256 0 2)), (5, (.pt 1284 0 2)), (25, (.sl false ((x1.drop (1 : Int).toNat).take ((x1.length : Int).toNat - (1 : Int).toNat)).length 1 (((x1.drop (1 : Int).toNat).take ((x1.length : Int).toNat - (1 : Int).toNat)).flatMap encS))), (26, (I (((x1.drop (1 : Int).toNat).take ((x1.length : Int).toNat - (1 : Int).toNat)).length : Int))), (27, (I x3))], [(3020545, ((x2 ++ ([(⟨x6, x7, x8⟩ : S48)] : List S48)).flatMap e48)), (256, [(S ByteArray.empty), nilS]), (1284, [(S (at_ x1 0)), (.rf 3020545 0 ((x2 ++ ([(⟨x6, x7, x8⟩ : S48)] : List S48)).length) 3 ((x2 ++ ([(⟨x6, x7, x8⟩ : S48)] : List S48)).length * 3))]), (2825, (([(⟨x6, x7, x8⟩ : S48)] : List S48).flatMap e48))], [2 = 2 ∧ 1 + 1 ≤ 2, COK (hget [(3020545, (x2.flatMap e48)), (256, [(S ByteArray.empty), nilS]), (1284, [(S (at_ x1 0)), (.rf 3020545 0 x2.length 3 (x2.length * 3))])]) [(S x4.1), (I 2)] ⟨50, [(S x4.1), (I 2)], [], (I x6), [], [], [], [], (I x6), []⟩, COK (hget [(3020545, (x2.flatMap e48)), (256, [(S ByteArray.empty), nilS]), (1284, [(S (at_ x1 0)), (.rf 3020545 0 x2.length 3 (x2.length * 3))])]) [(S x5.1)] ⟨51, [(S x5.1)], [], (I x7), [], [], [], [], (I x7), []⟩, COK (hget [(3020545, (x2.flatMap e48)), (256, [(S ByteArray.empty), nilS]), (1284, [(S (at_ x1 0)), (.rf 3020545 0 x2.length 3 (x2.length * 3))])]) [(S x5.2.1)] ⟨51, [(S x5.2.1)], [], (I x8), [], [], [], [], (I x8), []⟩, V.rf 3020545 0 (x2.length + ([(⟨x6, x7, x8⟩ : S48)] : List S48).length) 3 (x2.length * 3 + ([(⟨x6, x7, x8⟩ : S48)] : List S48).length * 3) = (.rf 3020545 0 ((x2 ++ ([(⟨x6, x7, x8⟩ : S48)] : List S48)).length) 3 ((x2 ++ ([(⟨x6, x7, x8⟩ : S48)] : List S48)).length * 3)), x2.flatMap e48 ++ (((([(⟨x6, x7, x8⟩ : S48)] : List S48).flatMap e48).drop 0).take (([(⟨x6, x7, x8⟩ : S48)] : List S48).length * 3)) = ((x2 ++ ([(⟨x6, x7, x8⟩ : S48)] : List S48)).flatMap e48), (([(⟨x6, x7, x8⟩ : S48)] : List S48).length * 3 = (([(⟨x6, x7, x8⟩ : S48)] : List S48).flatMap e48).length ∧ 0 + ([(⟨x6, x7, x8⟩ : S48)] : List S48).length * 3 ≤ (([(⟨x6, x7, x8⟩ : S48)] : List S48).flatMap e48).length) ∧ x2.length * 3 = (x2.flatMap e48).length ∧ x2.length * 3 = (x2.flatMap e48).length ∧ (x2.length + ([(⟨x6, x7, x8⟩ : S48)] : List S48).length) * 24 ≤ 70368744177664, 2 = 2 ∧ 1 + 1 ≤ 2], [⟨50, [(S x4.1), (I 2)], [], (I x6), [], [], [], [], (I x6), []⟩, ⟨51, [(S x5.1)], [], (I x7), [], [], [], [], (I x7), []⟩, ⟨51, [(S x5.2.1)], [], (I x8), [], [], [], [], (I x8), []⟩]⟩ [c_ 4007, l_ 250, b_ 0, c_ 63] (alc ⟨rfl, by decide⟩ (alc (cok0 false (a2c (.z .s) (a2c (.z .s) a2n)) (.z .s) (fun h => absurd h (by decide))) (alc (cok0 false (a2c (.z .s) a2n) (.z .s) (fun h => absurd h (by decide))) (alc (cok0 false (a2c (.z .s) a2n) (.z .s) (fun h => absurd h (by decide))) (alc (apV rfl) (alc (apR e48_ok rfl) (alc (apO e48_ok rfl c6 rfl) (alc ⟨rfl, by decide⟩ aln)))))))) (acal (impl_digits.J k x4.1 2 _ hx6) (acal (impl_ReadTime.J k x5.1 _ hx7) (acal (impl_ReadTime.J k x5.2.1 _ hx8) nocal))) ?_
          refine .reg' [0, 2, 5, 25, 26, 27] [] ⟨[(0, (S a0)), (2, (.pt 256 0 2)), (5, (.pt 1284 0 2)), (25, (.sl false ((x1.drop (1 : Int).toNat).take ((x1.length : Int).toNat - (1 : Int).toNat)).length 1 (((x1.drop (1 : Int).toNat).take ((x1.length : Int).toNat - (1 : Int).toNat)).flatMap encS))), (26, (I (((x1.drop (1 : Int).toNat).take ((x1.length : Int).toNat - (1 : Int).toNat)).length : Int))), (27, (I (wrap64 (x3 + 1))))], [(3020545, ((x2 ++ ([(⟨x6, x7, x8⟩ : S48)] : List S48)).flatMap e48)), (256, [(S ByteArray.empty), nilS]), (1284, [(S (at_ x1 0)), (.rf 3020545 0 ((x2 ++ ([(⟨x6, x7, x8⟩ : S48)] : List S48)).length) 3 ((x2 ++ ([(⟨x6, x7, x8⟩ : S48)] : List S48)).length * 3))]), (2825, (([(⟨x6, x7, x8⟩ : S48)] : List S48).flatMap e48))], [], []⟩ [l_ 250, b_ 0, c_ 63] aln nocal ?_
          refine .wk' [] [(3020545, 3020545), (256, 256), (1284, 1284)] [(0, (S a0)), (2, (.pt 256 0 2)), (5, (.pt 1284 0 2)), (25, (.sl false ((x1.drop (1 : Int).toNat).take ((x1.length : Int).toNat - (1 : Int).toNat)).length 1 (((x1.drop (1 : Int).toNat).take ((x1.length : Int).toNat - (1 : Int).toNat)).flatMap encS))), (26, (I (((x1.drop (1 : Int).toNat).take ((x1.length : Int).toNat - (1 : Int).toNat)).length : Int))), (27, (I (wrap64 (x3 + 1))))] [(3020545, ((x2 ++ ([(⟨x6, x7, x8⟩ : S48)] : List S48)).flatMap e48)), (256, [(S ByteArray.empty), nilS]), (1284, [(S (at_ x1 0)), (.rf 3020545 0 ((x2 ++ ([(⟨x6, x7, x8⟩ : S48)] : List S48)).length) 3 ((x2 ++ ([(⟨x6, x7, x8⟩ : S48)] : List S48)).length * 3))])] (shc 3020545 (rowF e48_ok _) (shc 256 (a2c (.z .s) (a2c (.z .s) a2n)) (shc 1284 (a2c (.z .s) (a2c (.rf (memP_mem (p := (3020545, 3020545)) rfl)) a2n)) shn))) (enc_ (.z .s) (enc_ (.pt (memP_mem (p := (256, 256)) rfl)) (enc_ (.pt (memP_mem (p := (1284, 1284)) rfl)) (enc_ (.z (frz_sl encS_ok (fun h => h))) (enc_ (.z .s) (enc_ (.z .s) enn)))))) ?_
          exact ih0 a0 x1 (x2 ++ ([(⟨x6, x7, x8⟩ : S48)] : List S48)) (wrap64 (x3 + 1)) _ h
        · rw [if_neg c6] at h
          cases h
      · rw [if_neg c5] at h
        cases h
    · rw [if_neg c4] at h
      refine .cond' (.tmp 28) false [c_ 252, c_ 253, c_ 127] (bF (dF c4)) ?_
      obtain ⟨x9, hx9, h⟩ := Option.bind_eq_some_iff.mp h
      by_cases c7 : x9 = true
      · rw [if_pos c7] at h
        obtain ⟨x10, hx10, h⟩ := Option.bind_eq_some_iff.mp h
        refine .reg' [2, 5, 64] [.no, .c ⟨24, [(.ag [(S (at_ x1 0)), (.sl true x2.length 3 (x2.flatMap e48))])], [], (B x9), [], [3020545], [], [], (B x9), []⟩, .no, .v (B false), .no, .c ⟨11, [(.ag [(S (at_ x1 0)), (.sl true x2.length 3 (x2.flatMap e48))])], [], (S x10), [], [3020545], [], [], (S x10), []⟩] ⟨[(2, (.pt 256 0 2)), (5, (.pt 1284 0 2)), (64, (B (!(sEq x10 a0))))], [(3020545, (x2.flatMap e48)), (256, [(S ByteArray.empty), nilS]), (1284, [(S (at_ x1 0)), (.rf 3020545 0 x2.length 3 (x2.length * 3))])], [2 = 2 ∧ 0 + 2 ≤ 2, COK (hget [(3020545, (x2.flatMap e48)), (256, [(S ByteArray.empty), nilS]), (1284, [(S (at_ x1 0)), (.rf 3020545 0 x2.length 3 (x2.length * 3))])]) [(.ag [(S (at_ x1 0)), (.rf 3020545 0 x2.length 3 (x2.length * 3))])] ⟨24, [(.ag [(S (at_ x1 0)), (.sl true x2.length 3 (x2.flatMap e48))])], [], (B x9), [], [3020545], [], [], (B x9), []⟩, (B (!x9) : V) = B false, 2 = 2 ∧ 0 + 2 ≤ 2, COK (hget [(3020545, (x2.flatMap e48)), (256, [(S ByteArray.empty), nilS]), (1284, [(S (at_ x1 0)), (.rf 3020545 0 x2.length 3 (x2.length * 3))])]) [(.ag [(S (at_ x1 0)), (.rf 3020545 0 x2.length 3 (x2.length * 3))])] ⟨11, [(.ag [(S (at_ x1 0)), (.sl true x2.length 3 (x2.flatMap e48))])], [], (S x10), [], [3020545], [], [], (S x10), []⟩], [⟨24, [(.ag [(S (at_ x1 0)), (.sl true x2.length 3 (x2.flatMap e48))])], [], (B x9), [], [3020545], [], [], (B x9), []⟩, ⟨11, [(.ag [(S (at_ x1 0)), (.sl true x2.length 3 (x2.flatMap e48))])], [], (S x10), [], [3020545], [], [], (S x10), []⟩]⟩ [c_ 253, c_ 127] (alc ⟨rfl, by decide⟩ (alc (cok0 false (a2c (cnv_ag (a2c (.z .s) (a2c (.z (frz_rf (k := 3020545) e48_ok (by simp) rfl rfl (row_len e48_ok _).symm)) a2n))) a2n) (.z .s) (fun h => absurd h (by decide))) (alc (bF (nF c7)) (alc ⟨rfl, by decide⟩ (alc (cok0 false (a2c (cnv_ag (a2c (.z .s) (a2c (.z (frz_rf (k := 3020545) e48_ok (by simp) rfl rfl (row_len e48_ok _).symm)) a2n))) a2n) (.z .s) (fun h => absurd h (by decide))) aln))))) (acal (impl_TripOk.J k (⟨(at_ x1 0), x2⟩ : S28) _ hx9) (acal (impl_TripText.J k (⟨(at_ x1 0), x2⟩ : S28) _ hx10) nocal)) ?_
        by_cases c8 : (sEq x10 a0) = true
        · rw [if_pos c8] at h
          refine .cond' (.tmp 64) false [c_ 254, c_ 255] (bF (nF c8)) ?_
          refine .reg' [2, 3] [] ⟨[(2, (.pt 256 0 2)), (3, (B true))], [(3020545, (x2.flatMap e48)), (256, [(S (at_ x1 0)), (.rf 3020545 0 x2.length 3 (x2.length * 3))]), (1284, [(S (at_ x1 0)), (.rf 3020545 0 x2.length 3 (x2.length * 3))])], [2 = 2 ∧ 0 + 2 ≤ 2, 2 = 2 ∧ 0 + 2 ≤ 2], []⟩ [c_ 255] (alc ⟨rfl, by decide⟩ (alc ⟨rfl, by decide⟩ aln)) nocal ?_
          have h := Option.some.inj h
          subst h
          exact .fin' [] [(3020545, 3020545)] (.tp [(.ag [(S (at_ x1 0)), (.rf 3020545 0 x2.length 3 (x2.length * 3))]), (B true)]) [2 = 2 ∧ 0 + 2 ≤ 2] (alc ⟨rfl, by decide⟩ aln) (shc 3020545 (rowF e48_ok _) shn) (cnv_tp (a2c (cnv_ag (a2c (.z .s) (a2c (.rf (memP_mem (p := (3020545, 3020545)) rfl)) a2n))) (a2c (.z .s) a2n)))
        · rw [if_neg c8] at h
          refine .cond' (.tmp 64) true [c_ 1012, c_ 1013, c_ 127] (bT (nT (vF c8))) ?_
          refine .reg' [2, 3] [] ⟨[(2, (.pt 256 0 2)), (3, (B false))], [(3020545, (x2.flatMap e48)), (256, [(S ByteArray.empty), nilS]), (1284, [(S (at_ x1 0)), (.rf 3020545 0 x2.length 3 (x2.length * 3))])], [2 = 2 ∧ 0 + 2 ≤ 2], []⟩ [c_ 1013, c_ 127] (alc ⟨rfl, by decide⟩ aln) nocal ?_
          have h := Option.some.inj h
          subst h
          refine .nl' 3020546 ?_
          exact .fin' [] [(3020546, 3020545)] (.tp [(.ag [(S ByteArray.empty), nilS]), (B false)]) [2 = 2 ∧ 0 + 2 ≤ 2] (alc ⟨rfl, by decide⟩ aln) (shc 3020546 (rowF e48_ok _) shn) (cnv_tp (a2c (cnv_ag (a2c (.z .s) (a2c (.nl (memP_mem (p := (3020546, 3020545)) rfl) rfl) a2n))) (a2c (.z .s) a2n)))
      · rw [if_neg c7] at h
        refine .reg' [2, 5, 64] [.no, .c ⟨24, [(.ag [(S (at_ x1 0)), (.sl true x2.length 3 (x2.flatMap e48))])], [], (B x9), [], [3020545], [], [], (B x9), []⟩, .no, .v (B true)] ⟨[(2, (.pt 256 0 2)), (5, (.pt 1284 0 2)), (64, (B true))], [(3020545, (x2.flatMap e48)), (256, [(S ByteArray.empty), nilS]), (1284, [(S (at_ x1 0)), (.rf 3020545 0 x2.length 3 (x2.length * 3))])], [2 = 2 ∧ 0 + 2 ≤ 2, COK (hget [(3020545, (x2.flatMap e48)), (256, [(S ByteArray.empty), nilS]), (1284, [(S (at_ x1 0)), (.rf 3020545 0 x2.length 3 (x2.length * 3))])]) [(.ag [(S (at_ x1 0)), (.rf 3020545 0 x2.length 3 (x2.length * 3))])] ⟨24, [(.ag [(S (at_ x1 0)), (.sl true x2.length 3 (x2.flatMap e48))])], [], (B x9), [], [3020545], [], [], (B x9), []⟩, (B (!x9) : V) = B true], [⟨24, [(.ag [(S (at_ x1 0)), (.sl true x2.length 3 (x2.flatMap e48))])], [], (B x9), [], [3020545], [], [], (B x9), []⟩]⟩ [c_ 253, c_ 127] (alc ⟨rfl, by decide⟩ (alc (cok0 false (a2c (cnv_ag (a2c (.z .s) (a2c (.z (frz_rf (k := 3020545) e48_ok (by simp) rfl rfl (row_len e48_ok _).symm)) a2n))) a2n) (.z .s) (fun h => absurd h (by decide))) (alc (bT (nT (vF c7))) aln))) (acal (impl_TripOk.J k (⟨(at_ x1 0), x2⟩ : S28) _ hx9) nocal) ?_
        refine .cond' (.tmp 64) true [c_ 1012, c_ 1013, c_ 127] (rfl) ?_
        refine .reg' [2, 3] [] ⟨[(2, (.pt 256 0 2)), (3, (B false))], [(3020545, (x2.flatMap e48)), (256, [(S ByteArray.empty), nilS]), (1284, [(S (at_ x1 0)), (.rf 3020545 0 x2.length 3 (x2.length * 3))])], [2 = 2 ∧ 0 + 2 ≤ 2], []⟩ [c_ 1013, c_ 127] (alc ⟨rfl, by decide⟩ aln) nocal ?_
        have h := Option.some.inj h
        subst h
        refine .nl' 3020546 ?_
        exact .fin' [] [(3020546, 3020545)] (.tp [(.ag [(S ByteArray.empty), nilS]), (B false)]) [2 = 2 ∧ 0 + 2 ≤ 2] (alc ⟨rfl, by decide⟩ aln) (shc 3020546 (rowF e48_ok _) shn) (cnv_tp (a2c (cnv_ag (a2c (.z .s) (a2c (.nl (memP_mem (p := (3020546, 3020545)) rfl) rfl) a2n))) (a2c (.z .s) a2n)))
theorem impl_ReadTrip.J (k : Nat) (a0 : ByteArray) (r : (S28 × Bool)) (h : impl_ReadTrip.f k a0 = some r) : J prog (.call 20 [(S a0)] [] (.tp [(.ag [(S r.1.f0), (.rf 3020545 0 r.1.f1.length 3 (r.1.f1.length * 3))]), (B r.2)]) [(3020545, (r.1.f1.flatMap e48))]) := by
  unfold impl_ReadTrip.f at h
  have ih0 := impl_ReadTrip.lab k
  refine .call' [c_ 2, c_ 3] ?_
  refine .reg' [0, 2] [] ⟨[(0, (S a0)), (2, (.pt 256 0 2))], [(256, [(S ByteArray.empty), nilS])], [], []⟩ [c_ 12, c_ 13, c_ 7] aln nocal ?_
  refine .reg' [0, 2, 16] [] ⟨[(0, (S a0)), (2, (.pt 256 0 2)), (16, (B (decide ((a0.size : Int) > 300))))], [(256, [(S ByteArray.empty), nilS])], [], []⟩ [c_ 13, c_ 7] aln nocal ?_
  by_cases c1 : (a0.size : Int) > 300
  · rw [if_pos c1] at h
    refine .cond' (.tmp 16) true [c_ 52, c_ 53, c_ 7] (bT (dT c1)) ?_
    refine .reg' [2, 3] [] ⟨[(2, (.pt 256 0 2)), (3, (B false))], [(256, [(S ByteArray.empty), nilS])], [2 = 2 ∧ 0 + 2 ≤ 2], []⟩ [c_ 53, c_ 7] (alc ⟨rfl, by decide⟩ aln) nocal ?_
    have h := Option.some.inj h
    subst h
    refine .nl' 3020545 ?_
    exact .fin' [] [(3020545, 3020545)] (.tp [(.ag [(S ByteArray.empty), nilS]), (B false)]) [2 = 2 ∧ 0 + 2 ≤ 2] (alc ⟨rfl, by decide⟩ aln) (shc 3020545 (rowF e48_ok _) shn) (cnv_tp (a2c (cnv_ag (a2c (.z .s) (a2c (.nl (memP_mem (p := (3020545, 3020545)) rfl) rfl) a2n))) (a2c (.z .s) a2n)))
  · rw [if_neg c1] at h
    refine .cond' (.tmp 16) false [c_ 14, c_ 15] (bF (dF c1)) ?_
    obtain ⟨x1, hx1, h⟩ := Option.bind_eq_some_iff.mp h
    refine .reg' [0, 2, 4] [.no, .c ⟨48, [(S a0), (S (⟨#[32]⟩ : ByteArray))], [], (.sl false x1.length 1 (x1.flatMap encS)), [], [], [], [], (.sl false x1.length 1 (x1.flatMap encS)), []⟩] ⟨[(0, (S a0)), (2, (.pt 256 0 2)), (4, (.sl false x1.length 1 (x1.flatMap encS)))], [(256, [(S ByteArray.empty), nilS])], [COK (hget [(256, [(S ByteArray.empty), nilS])]) [(S a0), (S (⟨#[32]⟩ : ByteArray))] ⟨48, [(S a0), (S (⟨#[32]⟩ : ByteArray))], [], (.sl false x1.length 1 (x1.flatMap encS)), [], [], [], [], (.sl false x1.length 1 (x1.flatMap encS)), []⟩], [⟨48, [(S a0), (S (⟨#[32]⟩ : ByteArray))], [], (.sl false x1.length 1 (x1.flatMap encS)), [], [], [], [], (.sl false x1.length 1 (x1.flatMap encS)), []⟩]⟩ [c_ 30, c_ 31] (alc (cok0 false (a2c (.z .s) (a2c (.z .s) a2n)) (.z (clnS encS_c (fun h => absurd h (by decide)))) (fun h => absurd h (by decide))) aln) (acal (strings_Split.J a0 (⟨#[32]⟩ : ByteArray) _ hx1) nocal) ?_
    by_cases c2 : 0 < (x1.length : Int)
    · rw [if_pos c2] at h
      refine .reg' [0, 2, 4, 5] [.no, .no, .v (S (at_ x1 0))] ⟨[(0, (S a0)), (2, (.pt 256 0 2)), (4, (.sl false x1.length 1 (x1.flatMap encS))), (5, (.pt 1284 0 2))], [(256, [(S ByteArray.empty), nilS]), (1284, [(S (at_ x1 0)), nilS])], [(0 : Int) ≤ 0 ∧ 0 < (x1.length : Int), rdC prog 9 ((x1.flatMap encS).drop ((0 : Int).toNat * 1)) = (S (at_ x1 0)), 1 ≤ ((x1.flatMap encS).drop ((0 : Int).toNat * 1)).length, 2 = 2 ∧ 0 + 2 ≤ 2], []⟩ [c_ 124, c_ 125, c_ 63] (alc ⟨(by decide), c2⟩ (alc (ldC1 encS_ok rfl (by decide) c2) (alc (okI encS_ok (by decide) c2 (by decide)) (alc ⟨rfl, by decide⟩ aln)))) nocal ?_
      by_cases c3 : 1 ≤ (x1.length : Int)
      · rw [if_pos c3] at h
        refine .reg' [0, 2, 5, 25, 26, 27] [.no, .v (.sl false ((x1.drop (1 : Int).toNat).take ((x1.length : Int).toNat - (1 : Int).toNat)).length 1 (((x1.drop (1 : Int).toNat).take ((x1.length : Int).toNat - (1 : Int).toNat)).flatMap encS))] ⟨[(0, (S a0)), (2, (.pt 256 0 2)), (5, (.pt 1284 0 2)), (25, (.sl false ((x1.drop (1 : Int).toNat).take ((x1.length : Int).toNat - (1 : Int).toNat)).length 1 (((x1.drop (1 : Int).toNat).take ((x1.length : Int).toNat - (1 : Int).toNat)).flatMap encS))), (26, (I (((x1.drop (1 : Int).toNat).take ((x1.length : Int).toNat - (1 : Int).toNat)).length : Int))), (27, (I 0))], [(256, [(S ByteArray.empty), nilS]), (1284, [(S (at_ x1 0)), nilS])], [V.sl false ((x1.length : Int).toNat - (1 : Int).toNat) 1 (((x1.flatMap encS).drop ((1 : Int).toNat * 1)).take (((x1.length : Int).toNat - (1 : Int).toNat) * 1)) = (.sl false ((x1.drop (1 : Int).toNat).take ((x1.length : Int).toNat - (1 : Int).toNat)).length 1 (((x1.drop (1 : Int).toNat).take ((x1.length : Int).toNat - (1 : Int).toNat)).flatMap encS)), 0 ≤ (1 : Int) ∧ 1 ≤ (x1.length : Int) ∧ (x1.length : Int) ≤ (x1.length : Int)], []⟩ [l_ 250, b_ 0, c_ 63] (alc (slS encS_ok (by omega) (by omega)) (alc ⟨(by decide), c3, (Int.le_refl _)⟩ aln)) nocal ?_
        refine .nl' 3020545 ?_
        refine .wk' [] [(3020545, 3020545), (256, 256), (1284, 1284)] [(0, (S a0)), (2, (.pt 256 0 2)), (5, (.pt 1284 0 2)), (25, (.sl false ((x1.drop (1 : Int).toNat).take ((x1.length : Int).toNat - (1 : Int).toNat)).length 1 (((x1.drop (1 : Int).toNat).take ((x1.length : Int).toNat - (1 : Int).toNat)).flatMap encS))), (26, (I (((x1.drop (1 : Int).toNat).take ((x1.length : Int).toNat - (1 : Int).toNat)).length : Int))), (27, (I 0))] [(3020545, (([] : List S48).flatMap e48)), (256, [(S ByteArray.empty), nilS]), (1284, [(S (at_ x1 0)), (.rf 3020545 0 (([] : List S48).length) 3 (([] : List S48).length * 3))])] (shc 3020545 (rowF e48_ok _) (shc 256 (a2c (.z .s) (a2c (.z .s) a2n)) (shc 1284 (a2c (.z .s) (a2c (.nl (memP_mem (p := (3020545, 3020545)) rfl) rfl) a2n)) shn))) (enc_ (.z .s) (enc_ (.pt (memP_mem (p := (256, 256)) rfl)) (enc_ (.pt (memP_mem (p := (1284, 1284)) rfl)) (enc_ (.z (frz_sl encS_ok (fun h => h))) (enc_ (.z .s) (enc_ (.z .s) enn)))))) ?_
        exact ih0 a0 x1 ([] : List S48) 0 _ h
      · rw [if_neg c3] at h
        cases h
    · rw [if_neg c2] at h
      cases h
/-! laws_sameTrip: function 25 -/
def laws_sameTrip.l0 : Nat → S28 → S28 → Int → Option Bool
 | 0, _, _, _ => none
 | k + 1, a0, a1, x1 => (if x1 < (a0.f1.length : Int) then (if 0 ≤ x1 then (if x1 < (a1.f1.length : Int) then (if ((at_ a0.f1 x1).f0 == (at_ a1.f1 x1).f0 && ((at_ a0.f1 x1).f1 == (at_ a1.f1 x1).f1 && ((at_ a0.f1 x1).f2 == (at_ a1.f1 x1).f2 && true))) = true then (laws_sameTrip.l0 k a0 a1 (wrap64 (x1 + 1))) else (some false)) else none) else none) else (some true))
def laws_sameTrip.f (k : Nat) (a0 : S28) (a1 : S28) : Option Bool := (if (sEq a0.f0 a1.f0) = true then (if (a0.f1.length : Int) = (a1.f1.length : Int) then (laws_sameTrip.l0 k a0 a1 0) else (some false)) else (some false))
theorem laws_sameTrip.lab : ∀ k, (∀ (a0 : S28) (a1 : S28) (x1 : Int) (r : Bool), laws_sameTrip.l0 k a0 a1 x1 = some r → J prog (.run 25 [] [l_ 58, b_ 0, c_ 15] [(2, (.pt 256 0 2)), (3, (.pt 257 0 2)), (5, (I x1))] [(256, [(S a0.f0), (.sl true a0.f1.length 3 (a0.f1.flatMap e48))]), (257, [(S a1.f0), (.sl true a1.f1.length 3 (a1.f1.flatMap e48))])] (B r) []))
 | 0 => (by intro a0 a1 x1 r h; unfold laws_sameTrip.l0 at h; cases h)
 | k + 1 => by
  have ih0 := laws_sameTrip.lab k
  · intro a0 a1 x1 r h
    unfold laws_sameTrip.l0 at h
    refine .loop' [c_ 464, c_ 465, c_ 233, l_ 58, b_ 0, c_ 15] ?_
    refine .reg' [2, 3, 5, 24] [] ⟨[(2, (.pt 256 0 2)), (3, (.pt 257 0 2)), (5, (I x1)), (24, (B (decide (x1 < (a0.f1.length : Int)))))], [(256, [(S a0.f0), (.sl true a0.f1.length 3 (a0.f1.flatMap e48))]), (257, [(S a1.f0), (.sl true a1.f1.length 3 (a1.f1.flatMap e48))])], [2 = 2 ∧ 1 + 1 ≤ 2], []⟩ [c_ 465, c_ 233, l_ 58, b_ 0, c_ 15] (alc ⟨rfl, by decide⟩ aln) nocal ?_
    by_cases c3 : x1 < (a0.f1.length : Int)
    · rw [if_pos c3] at h
      refine .cond' (.tmp 24) true [c_ 1864, c_ 1865, b_ 1, c_ 467, l_ 58, b_ 0, c_ 15] (bT (dT c3)) ?_
      by_cases c4 : 0 ≤ x1
      · rw [if_pos c4] at h
        by_cases c5 : x1 < (a1.f1.length : Int)
        · rw [if_pos c5] at h
          refine .reg' [2, 3, 5, 37] [.no, .no, .no, .no, .v (.ag [(I (at_ a0.f1 x1).f0), (I (at_ a0.f1 x1).f1), (I (at_ a0.f1 x1).f2)]), .no, .no, .no, .no, .v (.ag [(I (at_ a1.f1 x1).f0), (I (at_ a1.f1 x1).f1), (I (at_ a1.f1 x1).f2)])] ⟨[(2, (.pt 256 0 2)), (3, (.pt 257 0 2)), (5, (I x1)), (37, (B (!((at_ a0.f1 x1).f0 == (at_ a1.f1 x1).f0 && ((at_ a0.f1 x1).f1 == (at_ a1.f1 x1).f1 && ((at_ a0.f1 x1).f2 == (at_ a1.f1 x1).f2 && true))))))], [(256, [(S a0.f0), (.sl true a0.f1.length 3 (a0.f1.flatMap e48))]), (257, [(S a1.f0), (.sl true a1.f1.length 3 (a1.f1.flatMap e48))])], [2 = 2 ∧ 1 + 1 ≤ 2, (0 : Int) ≤ x1 ∧ x1 < (a0.f1.length : Int), rdC prog 49 ((a0.f1.flatMap e48).drop (x1.toNat * 3)) = (.ag [(I (at_ a0.f1 x1).f0), (I (at_ a0.f1 x1).f1), (I (at_ a0.f1 x1).f2)]), 3 ≤ ((a0.f1.flatMap e48).drop (x1.toNat * 3)).length, 2 = 2 ∧ 1 + 1 ≤ 2, (0 : Int) ≤ x1 ∧ x1 < (a1.f1.length : Int), rdC prog 49 ((a1.f1.flatMap e48).drop (x1.toNat * 3)) = (.ag [(I (at_ a1.f1 x1).f0), (I (at_ a1.f1 x1).f1), (I (at_ a1.f1 x1).f2)]), 3 ≤ ((a1.f1.flatMap e48).drop (x1.toNat * 3)).length], []⟩ [c_ 1865, b_ 1, c_ 467, l_ 58, b_ 0, c_ 15] (alc ⟨rfl, by decide⟩ (alc ⟨c4, c3⟩ (alc (ldA e48_ok rfl rfl c4 c3) (alc (okI e48_ok c4 c3 (by decide)) (alc ⟨rfl, by decide⟩ (alc ⟨c4, c5⟩ (alc (ldA e48_ok rfl rfl c4 c5) (alc (okI e48_ok c4 c5 (by decide)) aln)))))))) nocal ?_
          by_cases c6 : ((at_ a0.f1 x1).f0 == (at_ a1.f1 x1).f0 && ((at_ a0.f1 x1).f1 == (at_ a1.f1 x1).f1 && ((at_ a0.f1 x1).f2 == (at_ a1.f1 x1).f2 && true))) = true
          · rw [if_pos c6] at h
            refine .cond' (.tmp 37) false [c_ 467, l_ 58, b_ 0, c_ 15] (bF (nF c6)) ?_
            refine .reg' [2, 3, 5] [] ⟨[(2, (.pt 256 0 2)), (3, (.pt 257 0 2)), (5, (I (wrap64 (x1 + 1))))], [(256, [(S a0.f0), (.sl true a0.f1.length 3 (a0.f1.flatMap e48))]), (257, [(S a1.f0), (.sl true a1.f1.length 3 (a1.f1.flatMap e48))])], [], []⟩ [l_ 58, b_ 0, c_ 15] aln nocal ?_
            exact ih0 a0 a1 (wrap64 (x1 + 1)) _ h
          · rw [if_neg c6] at h
            refine .cond' (.tmp 37) true [c_ 7460, c_ 7461, b_ 1, c_ 467, l_ 58, b_ 0, c_ 15] (bT (nT (vF c6))) ?_
            refine .reg' [4] [] ⟨[(4, (B false))], [(256, [(S a0.f0), (.sl true a0.f1.length 3 (a0.f1.flatMap e48))]), (257, [(S a1.f0), (.sl true a1.f1.length 3 (a1.f1.flatMap e48))])], [], []⟩ [c_ 7461, b_ 1, c_ 467, l_ 58, b_ 0, c_ 15] aln nocal ?_
            have h := Option.some.inj h
            subst h
            exact .fin0 [] (B false) [] aln (.z .s)
        · rw [if_neg c5] at h
          cases h
      · rw [if_neg c4] at h
        cases h
    · rw [if_neg c3] at h
      refine .cond' (.tmp 24) false [c_ 30, c_ 31] (bF (dF c3)) ?_
      refine .reg' [4] [] ⟨[(4, (B true))], [(256, [(S a0.f0), (.sl true a0.f1.length 3 (a0.f1.flatMap e48))]), (257, [(S a1.f0), (.sl true a1.f1.length 3 (a1.f1.flatMap e48))])], [], []⟩ [c_ 31] aln nocal ?_
      have h := Option.some.inj h
      subst h
      exact .fin0 [] (B true) [] aln (.z .s)
theorem laws_sameTrip.J (k : Nat) (a0 : S28) (a1 : S28) (r : Bool) (h : laws_sameTrip.f k a0 a1 = some r) : J prog (.call 25 [(.ag [(S a0.f0), (.sl true a0.f1.length 3 (a0.f1.flatMap e48))]), (.ag [(S a1.f0), (.sl true a1.f1.length 3 (a1.f1.flatMap e48))])] [] (B r) []) := by
  unfold laws_sameTrip.f at h
  have ih0 := laws_sameTrip.lab k
  refine .call' [c_ 2, c_ 3] ?_
  refine .reg' [2, 3] [] ⟨[(2, (.pt 256 0 2)), (3, (.pt 257 0 2))], [(256, [(S a0.f0), (.sl true a0.f1.length 3 (a0.f1.flatMap e48))]), (257, [(S a1.f0), (.sl true a1.f1.length 3 (a1.f1.flatMap e48))])], [], []⟩ [c_ 12, c_ 13, c_ 7] aln nocal ?_
  by_cases c1 : (sEq a0.f0 a1.f0) = true
  · rw [if_pos c1] at h
    refine .reg' [2, 3, 19] [.no, .no, .no, .no, .no, .v (B false)] ⟨[(2, (.pt 256 0 2)), (3, (.pt 257 0 2)), (19, (B (!((a0.f1.length : Int) == (a1.f1.length : Int)))))], [(256, [(S a0.f0), (.sl true a0.f1.length 3 (a0.f1.flatMap e48))]), (257, [(S a1.f0), (.sl true a1.f1.length 3 (a1.f1.flatMap e48))])], [2 = 2 ∧ 0 + 1 ≤ 2, 2 = 2 ∧ 0 + 1 ≤ 2, (B (!(sEq a0.f0 a1.f0)) : V) = B false, 2 = 2 ∧ 1 + 1 ≤ 2, 2 = 2 ∧ 1 + 1 ≤ 2], []⟩ [c_ 13, c_ 7] (alc ⟨rfl, by decide⟩ (alc ⟨rfl, by decide⟩ (alc (bF (nF c1)) (alc ⟨rfl, by decide⟩ (alc ⟨rfl, by decide⟩ aln))))) nocal ?_
    by_cases c2 : (a0.f1.length : Int) = (a1.f1.length : Int)
    · rw [if_pos c2] at h
      refine .cond' (.tmp 19) false [c_ 28, c_ 29, c_ 15] (bF (nF (qT c2))) ?_
      refine .reg' [2, 3, 5] [] ⟨[(2, (.pt 256 0 2)), (3, (.pt 257 0 2)), (5, (I 0))], [(256, [(S a0.f0), (.sl true a0.f1.length 3 (a0.f1.flatMap e48))]), (257, [(S a1.f0), (.sl true a1.f1.length 3 (a1.f1.flatMap e48))])], [], []⟩ [l_ 58, b_ 0, c_ 15] aln nocal ?_
      exact ih0 a0 a1 0 _ h
    · rw [if_neg c2] at h
      refine .cond' (.tmp 19) true [c_ 52, c_ 53, c_ 7] (bT (nT (qF c2))) ?_
      refine .reg' [4] [] ⟨[(4, (B false))], [(256, [(S a0.f0), (.sl true a0.f1.length 3 (a0.f1.flatMap e48))]), (257, [(S a1.f0), (.sl true a1.f1.length 3 (a1.f1.flatMap e48))])], [], []⟩ [c_ 53, c_ 7] aln nocal ?_
      have h := Option.some.inj h
      subst h
      exact .fin0 [] (B false) [] aln (.z .s)
  · rw [if_neg c1] at h
    refine .reg' [2, 3, 19] [.no, .no, .no, .no, .no, .v (B true)] ⟨[(2, (.pt 256 0 2)), (3, (.pt 257 0 2)), (19, (B true))], [(256, [(S a0.f0), (.sl true a0.f1.length 3 (a0.f1.flatMap e48))]), (257, [(S a1.f0), (.sl true a1.f1.length 3 (a1.f1.flatMap e48))])], [2 = 2 ∧ 0 + 1 ≤ 2, 2 = 2 ∧ 0 + 1 ≤ 2, (B (!(sEq a0.f0 a1.f0)) : V) = B true], []⟩ [c_ 13, c_ 7] (alc ⟨rfl, by decide⟩ (alc ⟨rfl, by decide⟩ (alc (bT (nT (vF c1))) aln))) nocal ?_
    refine .cond' (.tmp 19) true [c_ 52, c_ 53, c_ 7] (rfl) ?_
    refine .reg' [4] [] ⟨[(4, (B false))], [(256, [(S a0.f0), (.sl true a0.f1.length 3 (a0.f1.flatMap e48))]), (257, [(S a1.f0), (.sl true a1.f1.length 3 (a1.f1.flatMap e48))])], [], []⟩ [c_ 53, c_ 7] aln nocal ?_
    have h := Option.some.inj h
    subst h
    exact .fin0 [] (B false) [] aln (.z .s)
/-! laws_FnClockface: function 7 -/
def laws_FnClockface.l0 : Nat → S28 → Int → Int → (List S28) → Int → Option Bool
 | 0, _, _, _, _, _ => none
 | k + 1, x2, x3, x4, x5, x7 => (if x7 < (wrap64 (1 + (x4.tmod (9 : Int)))) then (if 0 ≤ x7 then (if x7 < (x5.length : Int) then (if ((at_ x5 x7).f1.length : Int) = (x2.f1.length : Int) then (if 0 < ((at_ x5 x7).f1.length : Int) then (if 0 < (x2.f1.length : Int) then (if (at_ (at_ x5 x7).f1 0).f1 = (wrap64 ((at_ x2.f1 0).f1 + (wrap64 (x7 * (wrap64 (1 + (x3.tmod (120 : Int)))))))) then (if (sEq (at_ x5 x7).f0 x2.f0) = true then (some false) else ((impl_TripText.f k (at_ x5 x7)).bind fun x8 => ((impl_ReadTrip.f k x8).bind fun x9 => (if x9.2 = true then ((laws_sameTrip.f k x9.1 (at_ x5 x7)).bind fun x10 => (if x10 = true then (laws_FnClockface.l0 k x2 x3 x4 x5 (wrap64 (x7 + 1))) else (some false))) else (some false))))) else (some false)) else none) else none) else (some false)) else none) else none) else (some true))
def laws_FnClockface.f (k : Nat) (a0 : (List Int)) : Option Bool := ((laws_big.f a0).bind fun x1 => (if x1 = true then (some true) else ((spec_DrawRightTrip.f k a0).bind fun x2 => ((laws_at.f a0 3).bind fun x3 => ((laws_at.f a0 4).bind fun x4 => ((impl_Clockface.f k x2 (wrap64 (1 + (x3.tmod (120 : Int)))) (wrap64 (1 + (x4.tmod (9 : Int))))).bind fun x5 => (if (x5.length : Int) = (wrap64 (1 + (x4.tmod (9 : Int)))) then ((impl_TableOk.f k x5).bind fun x6 => (if x6 = true then (laws_FnClockface.l0 k x2 x3 x4 x5 0) else (some false))) else (some false))))))))
theorem laws_FnClockface.lab : ∀ k, (∀ (x2 : S28) (x3 : Int) (x4 : Int) (x5 : (List S28)) (x7 : Int) (r : Bool), laws_FnClockface.l0 k x2 x3 x4 x5 x7 = some r → J prog (.run 7 [] [l_ 1018, b_ 0, c_ 255] [(3, (.pt 1026 0 2)), (4, (I (wrap64 (1 + (x3.tmod (120 : Int)))))), (5, (I (wrap64 (1 + (x4.tmod (9 : Int)))))), (6, (.rf 1001539 0 x5.length 2 (x5.length * 2))), (7, (I x7))] [(1001025, (x2.f1.flatMap e48)), (1026, [(S x2.f0), (.rf 1001025 0 x2.f1.length 3 (x2.f1.length * 3))]), (1001539, (x5.flatMap (e28 false)))] (B r) []))
 | 0 => (by intro x2 x3 x4 x5 x7 r h; unfold laws_FnClockface.l0 at h; cases h)
 | k + 1 => by
  have ih0 := laws_FnClockface.lab k
  · intro x2 x3 x4 x5 x7 r h
    unfold laws_FnClockface.l0 at h
    refine .loop' [c_ 8144, c_ 8145, c_ 4073, l_ 1018, b_ 0, c_ 255] ?_
    refine .reg' [3, 4, 5, 6, 7, 37] [] ⟨[(3, (.pt 1026 0 2)), (4, (I (wrap64 (1 + (x3.tmod (120 : Int)))))), (5, (I (wrap64 (1 + (x4.tmod (9 : Int)))))), (6, (.rf 1001539 0 x5.length 2 (x5.length * 2))), (7, (I x7)), (37, (B (decide (x7 < (wrap64 (1 + (x4.tmod (9 : Int))))))))], [(1001025, (x2.f1.flatMap e48)), (1026, [(S x2.f0), (.rf 1001025 0 x2.f1.length 3 (x2.f1.length * 3))]), (1001539, (x5.flatMap (e28 false)))], [], []⟩ [c_ 8145, c_ 4073, l_ 1018, b_ 0, c_ 255] aln nocal ?_
    by_cases c4 : x7 < (wrap64 (1 + (x4.tmod (9 : Int))))
    · rw [if_pos c4] at h
      refine .cond' (.tmp 37) true [c_ 65168, c_ 65169, c_ 32585, b_ 1, c_ 8147, l_ 1018, b_ 0, c_ 255] (bT (dT c4)) ?_
      by_cases c5 : 0 ≤ x7
      · rw [if_pos c5] at h
        by_cases c6 : x7 < (x5.length : Int)
        · rw [if_pos c6] at h
          by_cases c7 : ((at_ x5 x7).f1.length : Int) = (x2.f1.length : Int)
          · rw [if_pos c7] at h
            by_cases c8 : 0 < ((at_ x5 x7).f1.length : Int)
            · rw [if_pos c8] at h
              by_cases c9 : 0 < (x2.f1.length : Int)
              · rw [if_pos c9] at h
                by_cases c10 : (at_ (at_ x5 x7).f1 0).f1 = (wrap64 ((at_ x2.f1 0).f1 + (wrap64 (x7 * (wrap64 (1 + (x3.tmod (120 : Int))))))))
                · rw [if_pos c10] at h
                  refine .reg' [3, 4, 5, 6, 7, 79] [.no, .no, .no, .no, .v (.sl false (at_ x5 x7).f1.length 3 ((at_ x5 x7).f1.flatMap e48)), .no, .no, .no, .no, .no, .v (B false), .no, .no, .no, .no, .v (.sl false (at_ x5 x7).f1.length 3 ((at_ x5 x7).f1.flatMap e48)), .no, .no, .v (I (at_ (at_ x5 x7).f1 0).f1), .no, .no, .no, .no, .v (I (at_ x2.f1 0).f1), .no, .no, .no, .no, .no, .no, .v (B false), .no, .no, .no, .no, .v (S (at_ x5 x7).f0)] ⟨[(3, (.pt 1026 0 2)), (4, (I (wrap64 (1 + (x3.tmod (120 : Int)))))), (5, (I (wrap64 (1 + (x4.tmod (9 : Int)))))), (6, (.rf 1001539 0 x5.length 2 (x5.length * 2))), (7, (I x7)), (79, (B (sEq (at_ x5 x7).f0 x2.f0)))], [(1001025, (x2.f1.flatMap e48)), (1026, [(S x2.f0), (.rf 1001025 0 x2.f1.length 3 (x2.f1.length * 3))]), (1001539, (x5.flatMap (e28 false)))], [(0 : Int) ≤ x7 ∧ x7 < (x5.length : Int), rdC prog 27 ((x5.flatMap (e28 false)).drop (0 + x7.toNat * 2 + 1)) = (.sl false (at_ x5 x7).f1.length 3 ((at_ x5 x7).f1.flatMap e48)), x5.length * 2 = (x5.flatMap (e28 false)).length ∧ 0 + x7.toNat * 2 + 1 + 1 ≤ (x5.flatMap (e28 false)).length, 2 = 2 ∧ 1 + 1 ≤ 2, (B (!(((at_ x5 x7).f1.length : Int) == (x2.f1.length : Int))) : V) = B false, (0 : Int) ≤ x7 ∧ x7 < (x5.length : Int), rdC prog 27 ((x5.flatMap (e28 false)).drop (0 + x7.toNat * 2 + 1)) = (.sl false (at_ x5 x7).f1.length 3 ((at_ x5 x7).f1.flatMap e48)), x5.length * 2 = (x5.flatMap (e28 false)).length ∧ 0 + x7.toNat * 2 + 1 + 1 ≤ (x5.flatMap (e28 false)).length, (0 : Int) ≤ 0 ∧ 0 < ((at_ x5 x7).f1.length : Int), rdC prog 3 ((((at_ x5 x7).f1.flatMap e48).drop ((0 : Int).toNat * 3)).drop 1) = (I (at_ (at_ x5 x7).f1 0).f1), 1 ≤ ((((at_ x5 x7).f1.flatMap e48).drop ((0 : Int).toNat * 3)).drop 1).length, 2 = 2 ∧ 1 + 1 ≤ 2, (0 : Int) ≤ 0 ∧ 0 < (x2.f1.length : Int), rdC prog 3 ((x2.f1.flatMap e48).drop (0 + (0 : Int).toNat * 3 + 1)) = (I (at_ x2.f1 0).f1), x2.f1.length * 3 = (x2.f1.flatMap e48).length ∧ 0 + (0 : Int).toNat * 3 + 1 + 1 ≤ (x2.f1.flatMap e48).length, (B (!((at_ (at_ x5 x7).f1 0).f1 == (wrap64 ((at_ x2.f1 0).f1 + (wrap64 (x7 * (wrap64 (1 + (x3.tmod (120 : Int)))))))))) : V) = B false, (0 : Int) ≤ x7 ∧ x7 < (x5.length : Int), rdC prog 9 ((x5.flatMap (e28 false)).drop (0 + x7.toNat * 2 + 0)) = (S (at_ x5 x7).f0), x5.length * 2 = (x5.flatMap (e28 false)).length ∧ 0 + x7.toNat * 2 + 0 + 1 ≤ (x5.flatMap (e28 false)).length, 2 = 2 ∧ 0 + 1 ≤ 2], []⟩ [c_ 65169, c_ 32585, b_ 1, c_ 8147, l_ 1018, b_ 0, c_ 255] (alc ⟨c5, c6⟩ (alc (ldC0 (e28_ok false) 1 (by decide) rfl c5 c6) (alc (okA (e28_ok false) c5 c6 (by decide)) (alc ⟨rfl, by decide⟩ (alc (bF (nF (qT c7))) (alc ⟨c5, c6⟩ (alc (ldC0 (e28_ok false) 1 (by decide) rfl c5 c6) (alc (okA (e28_ok false) c5 c6 (by decide)) (alc ⟨(by decide), c8⟩ (alc (ldC e48_ok 1 (by decide) rfl (by decide) c8) (alc (okIj e48_ok (by decide) c8 (by decide)) (alc ⟨rfl, by decide⟩ (alc ⟨(by decide), c9⟩ (alc (ldC0 e48_ok 1 (by decide) rfl (by decide) c9) (alc (okA e48_ok (by decide) c9 (by decide)) (alc (bF (nF (qT c10))) (alc ⟨c5, c6⟩ (alc (ldC0 (e28_ok false) 0 (by decide) rfl c5 c6) (alc (okA (e28_ok false) c5 c6 (by decide)) (alc ⟨rfl, by decide⟩ aln)))))))))))))))))))) nocal ?_
                  by_cases c11 : (sEq (at_ x5 x7).f0 x2.f0) = true
                  · rw [if_pos c11] at h
                    refine .cond' (.tmp 79) true [c_ 260676, c_ 260677, c_ 32585, b_ 1, c_ 8147, l_ 1018, b_ 0, c_ 255] (bT c11) ?_
                    refine .reg' [2] [] ⟨[(2, (B false))], [(1001025, (x2.f1.flatMap e48)), (1026, [(S x2.f0), (.rf 1001025 0 x2.f1.length 3 (x2.f1.length * 3))]), (1001539, (x5.flatMap (e28 false)))], [], []⟩ [c_ 260677, c_ 32585, b_ 1, c_ 8147, l_ 1018, b_ 0, c_ 255] aln nocal ?_
                    have h := Option.some.inj h
                    subst h
                    exact .fin0 [] (B false) [] aln (.z .s)
                  · rw [if_neg c11] at h
                    refine .cond' (.tmp 79) false [c_ 65170, c_ 65171, b_ 1, c_ 8147, l_ 1018, b_ 0, c_ 255] (bF (vF c11)) ?_
                    obtain ⟨x8, hx8, h⟩ := Option.bind_eq_some_iff.mp h
                    obtain ⟨x9, hx9, h⟩ := Option.bind_eq_some_iff.mp h
                    refine .reg' [3, 4, 5, 6, 7, 8, 9] [.no, .no, .no, .v (.ag [(S (at_ x5 x7).f0), (.sl false (at_ x5 x7).f1.length 3 ((at_ x5 x7).f1.flatMap e48))]), .c ⟨11, [(.ag [(S (at_ x5 x7).f0), (.sl true (at_ x5 x7).f1.length 3 ((at_ x5 x7).f1.flatMap e48))])], [], (S x8), [], [], [], [], (S x8), []⟩, .c ⟨20, [(S x8)], [], (.tp [(.ag [(S x9.1.f0), (.rf 3020545 0 x9.1.f1.length 3 (x9.1.f1.length * 3))]), (B x9.2)]), [(3020545, (x9.1.f1.flatMap e48))], [], [], [(1003589, 3020545)], (.tp [(.ag [(S x9.1.f0), (.rf 1003589 0 x9.1.f1.length 3 (x9.1.f1.length * 3))]), (B x9.2)]), [(1003589, (x9.1.f1.flatMap e48))]⟩] ⟨[(3, (.pt 1026 0 2)), (4, (I (wrap64 (1 + (x3.tmod (120 : Int)))))), (5, (I (wrap64 (1 + (x4.tmod (9 : Int)))))), (6, (.rf 1001539 0 x5.length 2 (x5.length * 2))), (7, (I x7)), (8, (.pt 3593 0 2)), (9, (B x9.2))], [(1001025, (x2.f1.flatMap e48)), (1026, [(S x2.f0), (.rf 1001025 0 x2.f1.length 3 (x2.f1.length * 3))]), (1001539, (x5.flatMap (e28 false))), (1003589, (x9.1.f1.flatMap e48)), (3593, [(S x9.1.f0), (.rf 1003589 0 x9.1.f1.length 3 (x9.1.f1.length * 3))])], [(0 : Int) ≤ x7 ∧ x7 < (x5.length : Int), rdC prog 29 ((x5.flatMap (e28 false)).drop (0 + x7.toNat * 2)) = (.ag [(S (at_ x5 x7).f0), (.sl false (at_ x5 x7).f1.length 3 ((at_ x5 x7).f1.flatMap e48))]), x5.length * 2 = (x5.flatMap (e28 false)).length ∧ 0 + x7.toNat * 2 + 2 ≤ (x5.flatMap (e28 false)).length, COK (hget [(1001025, (x2.f1.flatMap e48)), (1026, [(S x2.f0), (.rf 1001025 0 x2.f1.length 3 (x2.f1.length * 3))]), (1001539, (x5.flatMap (e28 false)))]) [(.ag [(S (at_ x5 x7).f0), (.sl false (at_ x5 x7).f1.length 3 ((at_ x5 x7).f1.flatMap e48))])] ⟨11, [(.ag [(S (at_ x5 x7).f0), (.sl true (at_ x5 x7).f1.length 3 ((at_ x5 x7).f1.flatMap e48))])], [], (S x8), [], [], [], [], (S x8), []⟩, COK (hget [(1001025, (x2.f1.flatMap e48)), (1026, [(S x2.f0), (.rf 1001025 0 x2.f1.length 3 (x2.f1.length * 3))]), (1001539, (x5.flatMap (e28 false)))]) [(S x8)] ⟨20, [(S x8)], [], (.tp [(.ag [(S x9.1.f0), (.rf 3020545 0 x9.1.f1.length 3 (x9.1.f1.length * 3))]), (B x9.2)]), [(3020545, (x9.1.f1.flatMap e48))], [], [], [(1003589, 3020545)], (.tp [(.ag [(S x9.1.f0), (.rf 1003589 0 x9.1.f1.length 3 (x9.1.f1.length * 3))]), (B x9.2)]), [(1003589, (x9.1.f1.flatMap e48))]⟩, 2 = 2 ∧ 0 + 2 ≤ 2], [⟨11, [(.ag [(S (at_ x5 x7).f0), (.sl true (at_ x5 x7).f1.length 3 ((at_ x5 x7).f1.flatMap e48))])], [], (S x8), [], [], [], [], (S x8), []⟩, ⟨20, [(S x8)], [], (.tp [(.ag [(S x9.1.f0), (.rf 3020545 0 x9.1.f1.length 3 (x9.1.f1.length * 3))]), (B x9.2)]), [(3020545, (x9.1.f1.flatMap e48))], [], [], [(1003589, 3020545)], (.tp [(.ag [(S x9.1.f0), (.rf 1003589 0 x9.1.f1.length 3 (x9.1.f1.length * 3))]), (B x9.2)]), [(1003589, (x9.1.f1.flatMap e48))]⟩]⟩ [c_ 130342, c_ 130343, b_ 1, c_ 8147, l_ 1018, b_ 0, c_ 255] (alc ⟨c5, c6⟩ (alc (ldA0 (e28_ok false) rfl rfl c5 c6) (alc (okA0 (e28_ok false) c5 c6 (by decide)) (alc (cok0 false (a2c (.z (frz_ag (a2c .s (a2c (frz_sl e48_ok (fun h => absurd h (by decide))) a2n)))) a2n) (.z .s) (fun h => absurd h (by decide))) (alc (cokW false (a2c (.z .s) a2n) akn (akc (.inr rfl) akn) (bck_tp (a2c (bck_ag (a2c (.z .s) (a2c (.rf (memP_mem (p := (1003589, 3020545)) rfl)) a2n))) (a2c (.z .s) a2n))) (akc ⟨_, _, rfl, rfl, rowB e48_c _⟩ akn) (fun h => absurd h (by decide))) (alc ⟨rfl, by decide⟩ aln)))))) (acal (impl_TripText.J k (at_ x5 x7) _ hx8) (acal (impl_ReadTrip.J k x8 _ hx9) nocal)) ?_
                    by_cases c12 : x9.2 = true
                    · rw [if_pos c12] at h
                      obtain ⟨x10, hx10, h⟩ := Option.bind_eq_some_iff.mp h
                      refine .reg' [3, 4, 5, 6, 7, 99] [.no, .no, .v (B false), .no, .no, .no, .no, .v (.ag [(S (at_ x5 x7).f0), (.sl false (at_ x5 x7).f1.length 3 ((at_ x5 x7).f1.flatMap e48))]), .c ⟨25, [(.ag [(S x9.1.f0), (.sl true x9.1.f1.length 3 (x9.1.f1.flatMap e48))]), (.ag [(S (at_ x5 x7).f0), (.sl true (at_ x5 x7).f1.length 3 ((at_ x5 x7).f1.flatMap e48))])], [], (B x10), [], [1003589], [], [], (B x10), []⟩] ⟨[(3, (.pt 1026 0 2)), (4, (I (wrap64 (1 + (x3.tmod (120 : Int)))))), (5, (I (wrap64 (1 + (x4.tmod (9 : Int)))))), (6, (.rf 1001539 0 x5.length 2 (x5.length * 2))), (7, (I x7)), (99, (B (!x10)))], [(1001025, (x2.f1.flatMap e48)), (1026, [(S x2.f0), (.rf 1001025 0 x2.f1.length 3 (x2.f1.length * 3))]), (1001539, (x5.flatMap (e28 false))), (1003589, (x9.1.f1.flatMap e48)), (3593, [(S x9.1.f0), (.rf 1003589 0 x9.1.f1.length 3 (x9.1.f1.length * 3))])], [(B (!x9.2) : V) = B false, 2 = 2 ∧ 0 + 2 ≤ 2, (0 : Int) ≤ x7 ∧ x7 < (x5.length : Int), rdC prog 29 ((x5.flatMap (e28 false)).drop (0 + x7.toNat * 2)) = (.ag [(S (at_ x5 x7).f0), (.sl false (at_ x5 x7).f1.length 3 ((at_ x5 x7).f1.flatMap e48))]), x5.length * 2 = (x5.flatMap (e28 false)).length ∧ 0 + x7.toNat * 2 + 2 ≤ (x5.flatMap (e28 false)).length, COK (hget [(1001025, (x2.f1.flatMap e48)), (1026, [(S x2.f0), (.rf 1001025 0 x2.f1.length 3 (x2.f1.length * 3))]), (1001539, (x5.flatMap (e28 false))), (1003589, (x9.1.f1.flatMap e48)), (3593, [(S x9.1.f0), (.rf 1003589 0 x9.1.f1.length 3 (x9.1.f1.length * 3))])]) [(.ag [(S x9.1.f0), (.rf 1003589 0 x9.1.f1.length 3 (x9.1.f1.length * 3))]), (.ag [(S (at_ x5 x7).f0), (.sl false (at_ x5 x7).f1.length 3 ((at_ x5 x7).f1.flatMap e48))])] ⟨25, [(.ag [(S x9.1.f0), (.sl true x9.1.f1.length 3 (x9.1.f1.flatMap e48))]), (.ag [(S (at_ x5 x7).f0), (.sl true (at_ x5 x7).f1.length 3 ((at_ x5 x7).f1.flatMap e48))])], [], (B x10), [], [1003589], [], [], (B x10), []⟩], [⟨25, [(.ag [(S x9.1.f0), (.sl true x9.1.f1.length 3 (x9.1.f1.flatMap e48))]), (.ag [(S (at_ x5 x7).f0), (.sl true (at_ x5 x7).f1.length 3 ((at_ x5 x7).f1.flatMap e48))])], [], (B x10), [], [1003589], [], [], (B x10), []⟩]⟩ [c_ 130343, b_ 1, c_ 8147, l_ 1018, b_ 0, c_ 255] (alc (bF (nF c12)) (alc ⟨rfl, by decide⟩ (alc ⟨c5, c6⟩ (alc (ldA0 (e28_ok false) rfl rfl c5 c6) (alc (okA0 (e28_ok false) c5 c6 (by decide)) (alc (cok0 false (a2c (cnv_ag (a2c (.z .s) (a2c (.z (frz_rf (k := 1003589) e48_ok (by simp) rfl rfl (row_len e48_ok _).symm)) a2n))) (a2c (.z (frz_ag (a2c .s (a2c (frz_sl e48_ok (fun h => absurd h (by decide))) a2n)))) a2n)) (.z .s) (fun h => absurd h (by decide))) aln)))))) (acal (laws_sameTrip.J k x9.1 (at_ x5 x7) _ hx10) nocal) ?_
                      by_cases c13 : x10 = true
                      · rw [if_pos c13] at h
                        refine .cond' (.tmp 99) false [c_ 8147, l_ 1018, b_ 0, c_ 255] (bF (nF c13)) ?_
                        refine .reg' [3, 4, 5, 6, 7] [] ⟨[(3, (.pt 1026 0 2)), (4, (I (wrap64 (1 + (x3.tmod (120 : Int)))))), (5, (I (wrap64 (1 + (x4.tmod (9 : Int)))))), (6, (.rf 1001539 0 x5.length 2 (x5.length * 2))), (7, (I (wrap64 (x7 + 1))))], [(1001025, (x2.f1.flatMap e48)), (1026, [(S x2.f0), (.rf 1001025 0 x2.f1.length 3 (x2.f1.length * 3))]), (1001539, (x5.flatMap (e28 false))), (1003589, (x9.1.f1.flatMap e48)), (3593, [(S x9.1.f0), (.rf 1003589 0 x9.1.f1.length 3 (x9.1.f1.length * 3))])], [], []⟩ [l_ 1018, b_ 0, c_ 255] aln nocal ?_
                        refine .wk' [] [(1001025, 1001025), (1026, 1026), (1001539, 1001539)] [(3, (.pt 1026 0 2)), (4, (I (wrap64 (1 + (x3.tmod (120 : Int)))))), (5, (I (wrap64 (1 + (x4.tmod (9 : Int)))))), (6, (.rf 1001539 0 x5.length 2 (x5.length * 2))), (7, (I (wrap64 (x7 + 1))))] [(1001025, (x2.f1.flatMap e48)), (1026, [(S x2.f0), (.rf 1001025 0 x2.f1.length 3 (x2.f1.length * 3))]), (1001539, (x5.flatMap (e28 false)))] (shc 1001025 (rowF e48_ok _) (shc 1026 (a2c (.z .s) (a2c (.rf (memP_mem (p := (1001025, 1001025)) rfl)) a2n)) (shc 1001539 (rowF (e28_ok false) _) shn))) (enc_ (.pt (memP_mem (p := (1026, 1026)) rfl)) (enc_ (.z .s) (enc_ (.z .s) (enc_ (.rf (memP_mem (p := (1001539, 1001539)) rfl)) (enc_ (.z .s) enn))))) ?_
                        exact ih0 x2 x3 x4 x5 (wrap64 (x7 + 1)) _ h
                      · rw [if_neg c13] at h
                        refine .cond' (.tmp 99) true [c_ 521372, c_ 521373, b_ 1, c_ 8147, l_ 1018, b_ 0, c_ 255] (bT (nT (vF c13))) ?_
                        refine .reg' [2] [] ⟨[(2, (B false))], [(1001025, (x2.f1.flatMap e48)), (1026, [(S x2.f0), (.rf 1001025 0 x2.f1.length 3 (x2.f1.length * 3))]), (1001539, (x5.flatMap (e28 false))), (1003589, (x9.1.f1.flatMap e48)), (3593, [(S x9.1.f0), (.rf 1003589 0 x9.1.f1.length 3 (x9.1.f1.length * 3))])], [], []⟩ [c_ 521373, b_ 1, c_ 8147, l_ 1018, b_ 0, c_ 255] aln nocal ?_
                        have h := Option.some.inj h
                        subst h
                        exact .fin0 [] (B false) [] aln (.z .s)
                    · rw [if_neg c12] at h
                      refine .reg' [3, 4, 5, 6, 7, 99] [.no, .no, .v (B true)] ⟨[(3, (.pt 1026 0 2)), (4, (I (wrap64 (1 + (x3.tmod (120 : Int)))))), (5, (I (wrap64 (1 + (x4.tmod (9 : Int)))))), (6, (.rf 1001539 0 x5.length 2 (x5.length * 2))), (7, (I x7)), (99, (B true))], [(1001025, (x2.f1.flatMap e48)), (1026, [(S x2.f0), (.rf 1001025 0 x2.f1.length 3 (x2.f1.length * 3))]), (1001539, (x5.flatMap (e28 false))), (1003589, (x9.1.f1.flatMap e48)), (3593, [(S x9.1.f0), (.rf 1003589 0 x9.1.f1.length 3 (x9.1.f1.length * 3))])], [(B (!x9.2) : V) = B true], []⟩ [c_ 130343, b_ 1, c_ 8147, l_ 1018, b_ 0, c_ 255] (alc (bT (nT (vF c12))) aln) nocal ?_
                      refine .cond' (.tmp 99) true [c_ 521372, c_ 521373, b_ 1, c_ 8147, l_ 1018, b_ 0, c_ 255] (rfl) ?_
                      refine .reg' [2] [] ⟨[(2, (B false))], [(1001025, (x2.f1.flatMap e48)), (1026, [(S x2.f0), (.rf 1001025 0 x2.f1.length 3 (x2.f1.length * 3))]), (1001539, (x5.flatMap (e28 false))), (1003589, (x9.1.f1.flatMap e48)), (3593, [(S x9.1.f0), (.rf 1003589 0 x9.1.f1.length 3 (x9.1.f1.length * 3))])], [], []⟩ [c_ 521373, b_ 1, c_ 8147, l_ 1018, b_ 0, c_ 255] aln nocal ?_
                      have h := Option.some.inj h
                      subst h
                      exact .fin0 [] (B false) [] aln (.z .s)
                · rw [if_neg c10] at h
                  refine .reg' [3, 4, 5, 6, 7, 79] [.no, .no, .no, .no, .v (.sl false (at_ x5 x7).f1.length 3 ((at_ x5 x7).f1.flatMap e48)), .no, .no, .no, .no, .no, .v (B false), .no, .no, .no, .no, .v (.sl false (at_ x5 x7).f1.length 3 ((at_ x5 x7).f1.flatMap e48)), .no, .no, .v (I (at_ (at_ x5 x7).f1 0).f1), .no, .no, .no, .no, .v (I (at_ x2.f1 0).f1), .no, .no, .no, .no, .no, .no, .v (B true)] ⟨[(3, (.pt 1026 0 2)), (4, (I (wrap64 (1 + (x3.tmod (120 : Int)))))), (5, (I (wrap64 (1 + (x4.tmod (9 : Int)))))), (6, (.rf 1001539 0 x5.length 2 (x5.length * 2))), (7, (I x7)), (79, (B true))], [(1001025, (x2.f1.flatMap e48)), (1026, [(S x2.f0), (.rf 1001025 0 x2.f1.length 3 (x2.f1.length * 3))]), (1001539, (x5.flatMap (e28 false)))], [(0 : Int) ≤ x7 ∧ x7 < (x5.length : Int), rdC prog 27 ((x5.flatMap (e28 false)).drop (0 + x7.toNat * 2 + 1)) = (.sl false (at_ x5 x7).f1.length 3 ((at_ x5 x7).f1.flatMap e48)), x5.length * 2 = (x5.flatMap (e28 false)).length ∧ 0 + x7.toNat * 2 + 1 + 1 ≤ (x5.flatMap (e28 false)).length, 2 = 2 ∧ 1 + 1 ≤ 2, (B (!(((at_ x5 x7).f1.length : Int) == (x2.f1.length : Int))) : V) = B false, (0 : Int) ≤ x7 ∧ x7 < (x5.length : Int), rdC prog 27 ((x5.flatMap (e28 false)).drop (0 + x7.toNat * 2 + 1)) = (.sl false (at_ x5 x7).f1.length 3 ((at_ x5 x7).f1.flatMap e48)), x5.length * 2 = (x5.flatMap (e28 false)).length ∧ 0 + x7.toNat * 2 + 1 + 1 ≤ (x5.flatMap (e28 false)).length, (0 : Int) ≤ 0 ∧ 0 < ((at_ x5 x7).f1.length : Int), rdC prog 3 ((((at_ x5 x7).f1.flatMap e48).drop ((0 : Int).toNat * 3)).drop 1) = (I (at_ (at_ x5 x7).f1 0).f1), 1 ≤ ((((at_ x5 x7).f1.flatMap e48).drop ((0 : Int).toNat * 3)).drop 1).length, 2 = 2 ∧ 1 + 1 ≤ 2, (0 : Int) ≤ 0 ∧ 0 < (x2.f1.length : Int), rdC prog 3 ((x2.f1.flatMap e48).drop (0 + (0 : Int).toNat * 3 + 1)) = (I (at_ x2.f1 0).f1), x2.f1.length * 3 = (x2.f1.flatMap e48).length ∧ 0 + (0 : Int).toNat * 3 + 1 + 1 ≤ (x2.f1.flatMap e48).length, (B (!((at_ (at_ x5 x7).f1 0).f1 == (wrap64 ((at_ x2.f1 0).f1 + (wrap64 (x7 * (wrap64 (1 + (x3.tmod (120 : Int)))))))))) : V) = B true], []⟩ [c_ 65169, c_ 32585, b_ 1, c_ 8147, l_ 1018, b_ 0, c_ 255] (alc ⟨c5, c6⟩ (alc (ldC0 (e28_ok false) 1 (by decide) rfl c5 c6) (alc (okA (e28_ok false) c5 c6 (by decide)) (alc ⟨rfl, by decide⟩ (alc (bF (nF (qT c7))) (alc ⟨c5, c6⟩ (alc (ldC0 (e28_ok false) 1 (by decide) rfl c5 c6) (alc (okA (e28_ok false) c5 c6 (by decide)) (alc ⟨(by decide), c8⟩ (alc (ldC e48_ok 1 (by decide) rfl (by decide) c8) (alc (okIj e48_ok (by decide) c8 (by decide)) (alc ⟨rfl, by decide⟩ (alc ⟨(by decide), c9⟩ (alc (ldC0 e48_ok 1 (by decide) rfl (by decide) c9) (alc (okA e48_ok (by decide) c9 (by decide)) (alc (bT (nT (qF c10))) aln)))))))))))))))) nocal ?_
                  refine .cond' (.tmp 79) true [c_ 260676, c_ 260677, c_ 32585, b_ 1, c_ 8147, l_ 1018, b_ 0, c_ 255] (rfl) ?_
                  refine .reg' [2] [] ⟨[(2, (B false))], [(1001025, (x2.f1.flatMap e48)), (1026, [(S x2.f0), (.rf 1001025 0 x2.f1.length 3 (x2.f1.length * 3))]), (1001539, (x5.flatMap (e28 false)))], [], []⟩ [c_ 260677, c_ 32585, b_ 1, c_ 8147, l_ 1018, b_ 0, c_ 255] aln nocal ?_
                  have h := Option.some.inj h
                  subst h
                  exact .fin0 [] (B false) [] aln (.z .s)
              · rw [if_neg c9] at h
                cases h
            · rw [if_neg c8] at h
              cases h
          · rw [if_neg c7] at h
            refine .reg' [3, 4, 5, 6, 7, 79] [.no, .no, .no, .no, .v (.sl false (at_ x5 x7).f1.length 3 ((at_ x5 x7).f1.flatMap e48)), .no, .no, .no, .no, .no, .v (B true)] ⟨[(3, (.pt 1026 0 2)), (4, (I (wrap64 (1 + (x3.tmod (120 : Int)))))), (5, (I (wrap64 (1 + (x4.tmod (9 : Int)))))), (6, (.rf 1001539 0 x5.length 2 (x5.length * 2))), (7, (I x7)), (79, (B true))], [(1001025, (x2.f1.flatMap e48)), (1026, [(S x2.f0), (.rf 1001025 0 x2.f1.length 3 (x2.f1.length * 3))]), (1001539, (x5.flatMap (e28 false)))], [(0 : Int) ≤ x7 ∧ x7 < (x5.length : Int), rdC prog 27 ((x5.flatMap (e28 false)).drop (0 + x7.toNat * 2 + 1)) = (.sl false (at_ x5 x7).f1.length 3 ((at_ x5 x7).f1.flatMap e48)), x5.length * 2 = (x5.flatMap (e28 false)).length ∧ 0 + x7.toNat * 2 + 1 + 1 ≤ (x5.flatMap (e28 false)).length, 2 = 2 ∧ 1 + 1 ≤ 2, (B (!(((at_ x5 x7).f1.length : Int) == (x2.f1.length : Int))) : V) = B true], []⟩ [c_ 65169, c_ 32585, b_ 1, c_ 8147, l_ 1018, b_ 0, c_ 255] (alc ⟨c5, c6⟩ (alc (ldC0 (e28_ok false) 1 (by decide) rfl c5 c6) (alc (okA (e28_ok false) c5 c6 (by decide)) (alc ⟨rfl, by decide⟩ (alc (bT (nT (qF c7))) aln))))) nocal ?_
            refine .cond' (.tmp 79) true [c_ 260676, c_ 260677, c_ 32585, b_ 1, c_ 8147, l_ 1018, b_ 0, c_ 255] (rfl) ?_
            refine .reg' [2] [] ⟨[(2, (B false))], [(1001025, (x2.f1.flatMap e48)), (1026, [(S x2.f0), (.rf 1001025 0 x2.f1.length 3 (x2.f1.length * 3))]), (1001539, (x5.flatMap (e28 false)))], [], []⟩ [c_ 260677, c_ 32585, b_ 1, c_ 8147, l_ 1018, b_ 0, c_ 255] aln nocal ?_
            have h := Option.some.inj h
            subst h
            exact .fin0 [] (B false) [] aln (.z .s)
        · rw [if_neg c6] at h
          cases h
      · rw [if_neg c5] at h
        cases h
    · rw [if_neg c4] at h
      refine .cond' (.tmp 37) false [c_ 510, c_ 511] (bF (dF c4)) ?_
      refine .reg' [2] [] ⟨[(2, (B true))], [(1001025, (x2.f1.flatMap e48)), (1026, [(S x2.f0), (.rf 1001025 0 x2.f1.length 3 (x2.f1.length * 3))]), (1001539, (x5.flatMap (e28 false)))], [], []⟩ [c_ 511] aln nocal ?_
      have h := Option.some.inj h
      subst h
      exact .fin0 [] (B true) [] aln (.z .s)
theorem laws_FnClockface.J (k : Nat) (a0 : (List Int)) (r : Bool) (h : laws_FnClockface.f k a0 = some r) : J prog (.call 7 [(.sl false a0.length 1 (a0.flatMap encU))] [] (B r) []) := by
  unfold laws_FnClockface.f at h
  have ih0 := laws_FnClockface.lab k
  refine .call' [c_ 2, c_ 3] ?_
  refine .reg' [0] [] ⟨[(0, (.sl false a0.length 1 (a0.flatMap encU)))], [], [], []⟩ [c_ 12, c_ 13, c_ 7] aln nocal ?_
  obtain ⟨x1, hx1, h⟩ := Option.bind_eq_some_iff.mp h
  refine .reg' [0, 11] [.no, .c ⟨22, [(.sl true a0.length 1 (a0.flatMap encU))], [], (B x1), [], [], [], [], (B x1), []⟩] ⟨[(0, (.sl false a0.length 1 (a0.flatMap encU))), (11, (B x1))], [], [COK (hget []) [(.sl false a0.length 1 (a0.flatMap encU))] ⟨22, [(.sl true a0.length 1 (a0.flatMap encU))], [], (B x1), [], [], [], [], (B x1), []⟩], [⟨22, [(.sl true a0.length 1 (a0.flatMap encU))], [], (B x1), [], [], [], [], (B x1), []⟩]⟩ [c_ 13, c_ 7] (alc (cok0 false (a2c (.z (frz_sl encU_ok (fun h => absurd h (by decide)))) a2n) (.z .s) (fun h => absurd h (by decide))) aln) (acal (laws_big.J a0 _ hx1) nocal) ?_
  by_cases c1 : x1 = true
  · rw [if_pos c1] at h
    refine .cond' (.tmp 11) true [c_ 52, c_ 53, c_ 7] (bT c1) ?_
    refine .reg' [2] [] ⟨[(2, (B true))], [], [], []⟩ [c_ 53, c_ 7] aln nocal ?_
    have h := Option.some.inj h
    subst h
    exact .fin0 [] (B true) [] aln (.z .s)
  · rw [if_neg c1] at h
    refine .cond' (.tmp 11) false [c_ 14, c_ 15] (bF (vF c1)) ?_
    obtain ⟨x2, hx2, h⟩ := Option.bind_eq_some_iff.mp h
    refine .reg' [0, 3] [.no, .c ⟨23, [(.sl false a0.length 1 (a0.flatMap encU))], [], (.ag [(S x2.f0), (.rf 1000770 0 x2.f1.length 3 (x2.f1.length * 3))]), [(1000770, (x2.f1.flatMap e48))], [], [], [(1001025, 1000770)], (.ag [(S x2.f0), (.rf 1001025 0 x2.f1.length 3 (x2.f1.length * 3))]), [(1001025, (x2.f1.flatMap e48))]⟩] ⟨[(0, (.sl false a0.length 1 (a0.flatMap encU))), (3, (.pt 1026 0 2))], [(1001025, (x2.f1.flatMap e48)), (1026, [(S x2.f0), (.rf 1001025 0 x2.f1.length 3 (x2.f1.length * 3))])], [COK (hget []) [(.sl false a0.length 1 (a0.flatMap encU))] ⟨23, [(.sl false a0.length 1 (a0.flatMap encU))], [], (.ag [(S x2.f0), (.rf 1000770 0 x2.f1.length 3 (x2.f1.length * 3))]), [(1000770, (x2.f1.flatMap e48))], [], [], [(1001025, 1000770)], (.ag [(S x2.f0), (.rf 1001025 0 x2.f1.length 3 (x2.f1.length * 3))]), [(1001025, (x2.f1.flatMap e48))]⟩, 2 = 2 ∧ 0 + 2 ≤ 2], [⟨23, [(.sl false a0.length 1 (a0.flatMap encU))], [], (.ag [(S x2.f0), (.rf 1000770 0 x2.f1.length 3 (x2.f1.length * 3))]), [(1000770, (x2.f1.flatMap e48))], [], [], [(1001025, 1000770)], (.ag [(S x2.f0), (.rf 1001025 0 x2.f1.length 3 (x2.f1.length * 3))]), [(1001025, (x2.f1.flatMap e48))]⟩]⟩ [c_ 30, c_ 31] (alc (cokW false (a2c (.z (frz_sl encU_ok (fun h => h))) a2n) akn (akc (.inr rfl) akn) (bck_ag (a2c (.z .s) (a2c (.rf (memP_mem (p := (1001025, 1000770)) rfl)) a2n))) (akc ⟨_, _, rfl, rfl, rowB e48_c _⟩ akn) (fun h => absurd h (by decide))) (alc ⟨rfl, by decide⟩ aln)) (acal (spec_DrawRightTrip.J k a0 _ hx2) nocal) ?_
    obtain ⟨x3, hx3, h⟩ := Option.bind_eq_some_iff.mp h
    obtain ⟨x4, hx4, h⟩ := Option.bind_eq_some_iff.mp h
    refine .reg' [3, 4, 5] [.no, .c ⟨26, [(.sl true a0.length 1 (a0.flatMap encU)), (I 3)], [], (I x3), [], [], [], [], (I x3), []⟩, .no, .no, .no, .c ⟨26, [(.sl true a0.length 1 (a0.flatMap encU)), (I 4)], [], (I x4), [], [], [], [], (I x4), []⟩] ⟨[(3, (.pt 1026 0 2)), (4, (I (wrap64 (1 + (x3.tmod (120 : Int)))))), (5, (I (wrap64 (1 + (x4.tmod (9 : Int))))))], [(1001025, (x2.f1.flatMap e48)), (1026, [(S x2.f0), (.rf 1001025 0 x2.f1.length 3 (x2.f1.length * 3))])], [COK (hget [(1001025, (x2.f1.flatMap e48)), (1026, [(S x2.f0), (.rf 1001025 0 x2.f1.length 3 (x2.f1.length * 3))])]) [(.sl false a0.length 1 (a0.flatMap encU)), (I 3)] ⟨26, [(.sl true a0.length 1 (a0.flatMap encU)), (I 3)], [], (I x3), [], [], [], [], (I x3), []⟩, (120 : Int) ≠ 0, COK (hget [(1001025, (x2.f1.flatMap e48)), (1026, [(S x2.f0), (.rf 1001025 0 x2.f1.length 3 (x2.f1.length * 3))])]) [(.sl false a0.length 1 (a0.flatMap encU)), (I 4)] ⟨26, [(.sl true a0.length 1 (a0.flatMap encU)), (I 4)], [], (I x4), [], [], [], [], (I x4), []⟩, (9 : Int) ≠ 0], [⟨26, [(.sl true a0.length 1 (a0.flatMap encU)), (I 3)], [], (I x3), [], [], [], [], (I x3), []⟩, ⟨26, [(.sl true a0.length 1 (a0.flatMap encU)), (I 4)], [], (I x4), [], [], [], [], (I x4), []⟩]⟩ [c_ 62, c_ 63] (alc (cok0 false (a2c (.z (frz_sl encU_ok (fun h => absurd h (by decide)))) (a2c (.z .s) a2n)) (.z .s) (fun h => absurd h (by decide))) (alc (by decide) (alc (cok0 false (a2c (.z (frz_sl encU_ok (fun h => absurd h (by decide)))) (a2c (.z .s) a2n)) (.z .s) (fun h => absurd h (by decide))) (alc (by decide) aln)))) (acal (laws_at.J a0 3 _ hx3) (acal (laws_at.J a0 4 _ hx4) nocal)) ?_
    obtain ⟨x5, hx5, h⟩ := Option.bind_eq_some_iff.mp h
    refine .reg' [3, 4, 5, 6] [.no, .no, .no, .c ⟨14, [(.ag [(S x2.f0), (.sl true x2.f1.length 3 (x2.f1.flatMap e48))]), (I (wrap64 (1 + (x3.tmod (120 : Int))))), (I (wrap64 (1 + (x4.tmod (9 : Int)))))], [], (.rf 1025 0 x5.length 2 (x5.length * 2)), [(1025, (x5.flatMap (e28 false)))], [1001025], [], [(1001539, 1025)], (.rf 1001539 0 x5.length 2 (x5.length * 2)), [(1001539, (x5.flatMap (e28 false)))]⟩] ⟨[(3, (.pt 1026 0 2)), (4, (I (wrap64 (1 + (x3.tmod (120 : Int)))))), (5, (I (wrap64 (1 + (x4.tmod (9 : Int)))))), (6, (.rf 1001539 0 x5.length 2 (x5.length * 2)))], [(1001025, (x2.f1.flatMap e48)), (1026, [(S x2.f0), (.rf 1001025 0 x2.f1.length 3 (x2.f1.length * 3))]), (1001539, (x5.flatMap (e28 false)))], [2 = 2 ∧ 0 + 2 ≤ 2, COK (hget [(1001025, (x2.f1.flatMap e48)), (1026, [(S x2.f0), (.rf 1001025 0 x2.f1.length 3 (x2.f1.length * 3))])]) [(.ag [(S x2.f0), (.rf 1001025 0 x2.f1.length 3 (x2.f1.length * 3))]), (I (wrap64 (1 + (x3.tmod (120 : Int))))), (I (wrap64 (1 + (x4.tmod (9 : Int)))))] ⟨14, [(.ag [(S x2.f0), (.sl true x2.f1.length 3 (x2.f1.flatMap e48))]), (I (wrap64 (1 + (x3.tmod (120 : Int))))), (I (wrap64 (1 + (x4.tmod (9 : Int)))))], [], (.rf 1025 0 x5.length 2 (x5.length * 2)), [(1025, (x5.flatMap (e28 false)))], [1001025], [], [(1001539, 1025)], (.rf 1001539 0 x5.length 2 (x5.length * 2)), [(1001539, (x5.flatMap (e28 false)))]⟩], [⟨14, [(.ag [(S x2.f0), (.sl true x2.f1.length 3 (x2.f1.flatMap e48))]), (I (wrap64 (1 + (x3.tmod (120 : Int))))), (I (wrap64 (1 + (x4.tmod (9 : Int)))))], [], (.rf 1025 0 x5.length 2 (x5.length * 2)), [(1025, (x5.flatMap (e28 false)))], [1001025], [], [(1001539, 1025)], (.rf 1001539 0 x5.length 2 (x5.length * 2)), [(1001539, (x5.flatMap (e28 false)))]⟩]⟩ [c_ 252, c_ 253, c_ 127] (alc ⟨rfl, by decide⟩ (alc (cokW false (a2c (cnv_ag (a2c (.z .s) (a2c (.z (frz_rf (k := 1001025) e48_ok (by simp) rfl rfl (row_len e48_ok _).symm)) a2n))) (a2c (.z .s) (a2c (.z .s) a2n))) akn (akc (.inr rfl) akn) (.rf (memP_mem (p := (1001539, 1025)) rfl)) (akc ⟨_, _, rfl, rfl, rowB e28_c0 _⟩ akn) (fun h => absurd h (by decide))) aln)) (acal (impl_Clockface.J k x2 (wrap64 (1 + (x3.tmod (120 : Int)))) (wrap64 (1 + (x4.tmod (9 : Int)))) _ hx5) nocal) ?_
    by_cases c2 : (x5.length : Int) = (wrap64 (1 + (x4.tmod (9 : Int))))
    · rw [if_pos c2] at h
      obtain ⟨x6, hx6, h⟩ := Option.bind_eq_some_iff.mp h
      refine .reg' [3, 4, 5, 6, 34] [.no, .no, .no, .no, .v (B false), .no, .c ⟨29, [(.sl true x5.length 2 (x5.flatMap (e28 true)))], [], (B x6), [], [1001539], [], [], (B x6), []⟩] ⟨[(3, (.pt 1026 0 2)), (4, (I (wrap64 (1 + (x3.tmod (120 : Int)))))), (5, (I (wrap64 (1 + (x4.tmod (9 : Int)))))), (6, (.rf 1001539 0 x5.length 2 (x5.length * 2))), (34, (B (!x6)))], [(1001025, (x2.f1.flatMap e48)), (1026, [(S x2.f0), (.rf 1001025 0 x2.f1.length 3 (x2.f1.length * 3))]), (1001539, (x5.flatMap (e28 false)))], [(B (!((x5.length : Int) == (wrap64 (1 + (x4.tmod (9 : Int)))))) : V) = B false, COK (hget [(1001025, (x2.f1.flatMap e48)), (1026, [(S x2.f0), (.rf 1001025 0 x2.f1.length 3 (x2.f1.length * 3))]), (1001539, (x5.flatMap (e28 false)))]) [(.rf 1001539 0 x5.length 2 (x5.length * 2))] ⟨29, [(.sl true x5.length 2 (x5.flatMap (e28 true)))], [], (B x6), [], [1001539], [], [], (B x6), []⟩], [⟨29, [(.sl true x5.length 2 (x5.flatMap (e28 true)))], [], (B x6), [], [1001539], [], [], (B x6), []⟩]⟩ [c_ 253, c_ 127] (alc (bF (nF (qT c2))) (alc (cok0 false (a2c (.z (frz_rfT (k := 1001539) (fun x => e28_to x) (e28_ok false) (by simp) rfl rfl (row_len (e28_ok false) _).symm)) a2n) (.z .s) (fun h => absurd h (by decide))) aln)) (acal (impl_TableOk.J k x5 _ hx6) nocal) ?_
      by_cases c3 : x6 = true
      · rw [if_pos c3] at h
        refine .cond' (.tmp 34) false [c_ 508, c_ 509, c_ 255] (bF (nF c3)) ?_
        refine .reg' [3, 4, 5, 6, 7] [] ⟨[(3, (.pt 1026 0 2)), (4, (I (wrap64 (1 + (x3.tmod (120 : Int)))))), (5, (I (wrap64 (1 + (x4.tmod (9 : Int)))))), (6, (.rf 1001539 0 x5.length 2 (x5.length * 2))), (7, (I 0))], [(1001025, (x2.f1.flatMap e48)), (1026, [(S x2.f0), (.rf 1001025 0 x2.f1.length 3 (x2.f1.length * 3))]), (1001539, (x5.flatMap (e28 false)))], [], []⟩ [l_ 1018, b_ 0, c_ 255] aln nocal ?_
        exact ih0 x2 x3 x4 x5 0 _ h
      · rw [if_neg c3] at h
        refine .cond' (.tmp 34) true [c_ 1012, c_ 1013, c_ 127] (bT (nT (vF c3))) ?_
        refine .reg' [2] [] ⟨[(2, (B false))], [(1001025, (x2.f1.flatMap e48)), (1026, [(S x2.f0), (.rf 1001025 0 x2.f1.length 3 (x2.f1.length * 3))]), (1001539, (x5.flatMap (e28 false)))], [], []⟩ [c_ 1013, c_ 127] aln nocal ?_
        have h := Option.some.inj h
        subst h
        exact .fin0 [] (B false) [] aln (.z .s)
    · rw [if_neg c2] at h
      refine .reg' [3, 4, 5, 6, 34] [.no, .no, .no, .no, .v (B true)] ⟨[(3, (.pt 1026 0 2)), (4, (I (wrap64 (1 + (x3.tmod (120 : Int)))))), (5, (I (wrap64 (1 + (x4.tmod (9 : Int)))))), (6, (.rf 1001539 0 x5.length 2 (x5.length * 2))), (34, (B true))], [(1001025, (x2.f1.flatMap e48)), (1026, [(S x2.f0), (.rf 1001025 0 x2.f1.length 3 (x2.f1.length * 3))]), (1001539, (x5.flatMap (e28 false)))], [(B (!((x5.length : Int) == (wrap64 (1 + (x4.tmod (9 : Int)))))) : V) = B true], []⟩ [c_ 253, c_ 127] (alc (bT (nT (qF c2))) aln) nocal ?_
      refine .cond' (.tmp 34) true [c_ 1012, c_ 1013, c_ 127] (rfl) ?_
      refine .reg' [2] [] ⟨[(2, (B false))], [(1001025, (x2.f1.flatMap e48)), (1026, [(S x2.f0), (.rf 1001025 0 x2.f1.length 3 (x2.f1.length * 3))]), (1001539, (x5.flatMap (e28 false)))], [], []⟩ [c_ 1013, c_ 127] aln nocal ?_
      have h := Option.some.inj h
      subst h
      exact .fin0 [] (B false) [] aln (.z .s)
end Go.Proofs.YtjlickinmkafbaaDoor.Fns
