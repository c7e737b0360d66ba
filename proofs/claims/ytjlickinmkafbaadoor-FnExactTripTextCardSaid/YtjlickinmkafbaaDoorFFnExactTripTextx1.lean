/- The functions that the law FnExactTripText reaches, by the engine. Printed by a program of this seat. -/
import Derived.Test.YtjlickinmkafbaaDoorE5
import Derived.Test.YtjlickinmkafbaaDoorProg
import Derived.Test.YtjlickinmkafbaaDoorFFnExactTripTextx0
namespace Go.Proofs.YtjlickinmkafbaaDoor.Fns
open Go.Proofs.Tryd Go.Proofs.YtjlickinmkafbaaDoor.Eng Go.RowKit
set_option maxRecDepth 100000
set_option linter.unusedVariables false
set_option linter.unusedSimpArgs false
theorem impl_nameOk.lab : ∀ k, (∀ (a0 : ByteArray) (x1 : Int) (r : Bool), impl_nameOk.l0 k a0 x1 = some r → J prog (.run 54 [] [l_ 58, b_ 0, c_ 15] [(0, (S a0)), (3, (I x1))] [] (B r) []))
 | 0 => (by intro a0 x1 r h; unfold impl_nameOk.l0 at h; cases h)
 | k + 1 => by
  have ih0 := impl_nameOk.lab k
  · intro a0 x1 r h
    unfold impl_nameOk.l0 at h
    refine .loop' [c_ 464, c_ 465, c_ 233, l_ 58, b_ 0, c_ 15] ?_
    refine .reg' [0, 3, 15] [] ⟨[(0, (S a0)), (3, (I x1)), (15, (B (decide (x1 < (a0.size : Int)))))], [], [], []⟩ [c_ 465, c_ 233, l_ 58, b_ 0, c_ 15] aln nocal ?_
    by_cases c3 : x1 < (a0.size : Int)
    · rw [if_pos c3] at h
      refine .cond' (.tmp 15) true [c_ 1864, c_ 1865, b_ 1, c_ 467, l_ 58, b_ 0, c_ 15] (bT (dT c3)) ?_
      by_cases c4 : 0 ≤ x1
      · rw [if_pos c4] at h
        by_cases c5 : (bt a0 x1) < 97
        · rw [if_pos c5] at h
          by_cases c6 : (bt a0 x1) < 48
          · rw [if_pos c6] at h
            refine .reg' [0, 3, 39] [.no, .no, .no, .no, .v (B true), .no, .no, .no, .no, .no, .no, .no, .no, .no, .no, .v (B true)] ⟨[(0, (S a0)), (3, (I x1)), (39, (B true))], [], [(0 : Int) ≤ x1 ∧ x1 < (a0.size : Int), (B (decide ((bt a0 x1) < 97)) : V) = B true, (0 : Int) ≤ x1 ∧ x1 < (a0.size : Int), (B (decide ((bt a0 x1) < 48)) : V) = B true], []⟩ [c_ 1865, b_ 1, c_ 467, l_ 58, b_ 0, c_ 15] (alc ⟨c4, c3⟩ (alc (bT (dT c5)) (alc ⟨c4, c3⟩ (alc (bT (dT c6)) aln)))) nocal ?_
            refine .cond' (.tmp 39) true [c_ 7460, c_ 7461, b_ 1, c_ 467, l_ 58, b_ 0, c_ 15] (rfl) ?_
            refine .reg' [2] [] ⟨[(2, (B false))], [], [], []⟩ [c_ 7461, b_ 1, c_ 467, l_ 58, b_ 0, c_ 15] aln nocal ?_
            have h := Option.some.inj h
            subst h
            exact .fin0 [] (B false) [] aln (.z .s)
          · rw [if_neg c6] at h
            refine .reg' [0, 3, 39] [.no, .no, .no, .no, .v (B true), .no, .no, .no, .no, .no, .no, .no, .no, .no, .no, .v (B false)] ⟨[(0, (S a0)), (3, (I x1)), (39, (B (decide ((bt a0 x1) > 57))))], [], [(0 : Int) ≤ x1 ∧ x1 < (a0.size : Int), (B (decide ((bt a0 x1) < 97)) : V) = B true, (0 : Int) ≤ x1 ∧ x1 < (a0.size : Int), (B (decide ((bt a0 x1) < 48)) : V) = B false, (0 : Int) ≤ x1 ∧ x1 < (a0.size : Int)], []⟩ [c_ 1865, b_ 1, c_ 467, l_ 58, b_ 0, c_ 15] (alc ⟨c4, c3⟩ (alc (bT (dT c5)) (alc ⟨c4, c3⟩ (alc (bF (dF c6)) (alc ⟨c4, c3⟩ aln))))) nocal ?_
            by_cases c7 : (bt a0 x1) > 57
            · rw [if_pos c7] at h
              refine .cond' (.tmp 39) true [c_ 7460, c_ 7461, b_ 1, c_ 467, l_ 58, b_ 0, c_ 15] (bT (dT c7)) ?_
              refine .reg' [2] [] ⟨[(2, (B false))], [], [], []⟩ [c_ 7461, b_ 1, c_ 467, l_ 58, b_ 0, c_ 15] aln nocal ?_
              have h := Option.some.inj h
              subst h
              exact .fin0 [] (B false) [] aln (.z .s)
            · rw [if_neg c7] at h
              refine .cond' (.tmp 39) false [c_ 467, l_ 58, b_ 0, c_ 15] (bF (dF c7)) ?_
              refine .reg' [0, 3] [] ⟨[(0, (S a0)), (3, (I (wrap64 (x1 + 1))))], [], [], []⟩ [l_ 58, b_ 0, c_ 15] aln nocal ?_
              exact ih0 a0 (wrap64 (x1 + 1)) _ h
        · rw [if_neg c5] at h
          by_cases c8 : (bt a0 x1) > 122
          · rw [if_pos c8] at h
            by_cases c9 : (bt a0 x1) < 48
            · rw [if_pos c9] at h
              refine .reg' [0, 3, 39] [.no, .no, .no, .no, .v (B false), .no, .no, .no, .no, .no, .v (B true), .no, .no, .no, .no, .v (B true)] ⟨[(0, (S a0)), (3, (I x1)), (39, (B true))], [], [(0 : Int) ≤ x1 ∧ x1 < (a0.size : Int), (B (decide ((bt a0 x1) < 97)) : V) = B false, (0 : Int) ≤ x1 ∧ x1 < (a0.size : Int), (B (decide ((bt a0 x1) > 122)) : V) = B true, (0 : Int) ≤ x1 ∧ x1 < (a0.size : Int), (B (decide ((bt a0 x1) < 48)) : V) = B true], []⟩ [c_ 1865, b_ 1, c_ 467, l_ 58, b_ 0, c_ 15] (alc ⟨c4, c3⟩ (alc (bF (dF c5)) (alc ⟨c4, c3⟩ (alc (bT (dT c8)) (alc ⟨c4, c3⟩ (alc (bT (dT c9)) aln)))))) nocal ?_
              refine .cond' (.tmp 39) true [c_ 7460, c_ 7461, b_ 1, c_ 467, l_ 58, b_ 0, c_ 15] (rfl) ?_
              refine .reg' [2] [] ⟨[(2, (B false))], [], [], []⟩ [c_ 7461, b_ 1, c_ 467, l_ 58, b_ 0, c_ 15] aln nocal ?_
              have h := Option.some.inj h
              subst h
              exact .fin0 [] (B false) [] aln (.z .s)
            · rw [if_neg c9] at h
              refine .reg' [0, 3, 39] [.no, .no, .no, .no, .v (B false), .no, .no, .no, .no, .no, .v (B true), .no, .no, .no, .no, .v (B false)] ⟨[(0, (S a0)), (3, (I x1)), (39, (B (decide ((bt a0 x1) > 57))))], [], [(0 : Int) ≤ x1 ∧ x1 < (a0.size : Int), (B (decide ((bt a0 x1) < 97)) : V) = B false, (0 : Int) ≤ x1 ∧ x1 < (a0.size : Int), (B (decide ((bt a0 x1) > 122)) : V) = B true, (0 : Int) ≤ x1 ∧ x1 < (a0.size : Int), (B (decide ((bt a0 x1) < 48)) : V) = B false, (0 : Int) ≤ x1 ∧ x1 < (a0.size : Int)], []⟩ [c_ 1865, b_ 1, c_ 467, l_ 58, b_ 0, c_ 15] (alc ⟨c4, c3⟩ (alc (bF (dF c5)) (alc ⟨c4, c3⟩ (alc (bT (dT c8)) (alc ⟨c4, c3⟩ (alc (bF (dF c9)) (alc ⟨c4, c3⟩ aln))))))) nocal ?_
              by_cases c10 : (bt a0 x1) > 57
              · rw [if_pos c10] at h
                refine .cond' (.tmp 39) true [c_ 7460, c_ 7461, b_ 1, c_ 467, l_ 58, b_ 0, c_ 15] (bT (dT c10)) ?_
                refine .reg' [2] [] ⟨[(2, (B false))], [], [], []⟩ [c_ 7461, b_ 1, c_ 467, l_ 58, b_ 0, c_ 15] aln nocal ?_
                have h := Option.some.inj h
                subst h
                exact .fin0 [] (B false) [] aln (.z .s)
              · rw [if_neg c10] at h
                refine .cond' (.tmp 39) false [c_ 467, l_ 58, b_ 0, c_ 15] (bF (dF c10)) ?_
                refine .reg' [0, 3] [] ⟨[(0, (S a0)), (3, (I (wrap64 (x1 + 1))))], [], [], []⟩ [l_ 58, b_ 0, c_ 15] aln nocal ?_
                exact ih0 a0 (wrap64 (x1 + 1)) _ h
          · rw [if_neg c8] at h
            refine .reg' [0, 3, 39] [.no, .no, .no, .no, .v (B false), .no, .no, .no, .no, .no, .v (B false)] ⟨[(0, (S a0)), (3, (I x1)), (39, (B false))], [], [(0 : Int) ≤ x1 ∧ x1 < (a0.size : Int), (B (decide ((bt a0 x1) < 97)) : V) = B false, (0 : Int) ≤ x1 ∧ x1 < (a0.size : Int), (B (decide ((bt a0 x1) > 122)) : V) = B false], []⟩ [c_ 1865, b_ 1, c_ 467, l_ 58, b_ 0, c_ 15] (alc ⟨c4, c3⟩ (alc (bF (dF c5)) (alc ⟨c4, c3⟩ (alc (bF (dF c8)) aln)))) nocal ?_
            refine .cond' (.tmp 39) false [c_ 467, l_ 58, b_ 0, c_ 15] (rfl) ?_
            refine .reg' [0, 3] [] ⟨[(0, (S a0)), (3, (I (wrap64 (x1 + 1))))], [], [], []⟩ [l_ 58, b_ 0, c_ 15] aln nocal ?_
            exact ih0 a0 (wrap64 (x1 + 1)) _ h
      · rw [if_neg c4] at h
        cases h
    · rw [if_neg c3] at h
      refine .cond' (.tmp 15) false [c_ 30, c_ 31] (bF (dF c3)) ?_
      refine .reg' [2] [] ⟨[(2, (B true))], [], [], []⟩ [c_ 31] aln nocal ?_
      have h := Option.some.inj h
      subst h
      exact .fin0 [] (B true) [] aln (.z .s)
theorem impl_nameOk.J (k : Nat) (a0 : ByteArray) (r : Bool) (h : impl_nameOk.f k a0 = some r) : J prog (.call 54 [(S a0)] [] (B r) []) := by
  unfold impl_nameOk.f at h
  have ih0 := impl_nameOk.lab k
  refine .call' [c_ 2, c_ 3] ?_
  refine .reg' [0] [] ⟨[(0, (S a0))], [], [], []⟩ [c_ 12, c_ 13, c_ 7] aln nocal ?_
  by_cases c1 : (a0.size : Int) < 1
  · rw [if_pos c1] at h
    refine .reg' [0, 11] [.no, .no, .no, .v (B true)] ⟨[(0, (S a0)), (11, (B true))], [], [(B (decide ((a0.size : Int) < 1)) : V) = B true], []⟩ [c_ 13, c_ 7] (alc (bT (dT c1)) aln) nocal ?_
    refine .cond' (.tmp 11) true [c_ 52, c_ 53, c_ 7] (rfl) ?_
    refine .reg' [2] [] ⟨[(2, (B false))], [], [], []⟩ [c_ 53, c_ 7] aln nocal ?_
    have h := Option.some.inj h
    subst h
    exact .fin0 [] (B false) [] aln (.z .s)
  · rw [if_neg c1] at h
    refine .reg' [0, 11] [.no, .no, .no, .v (B false)] ⟨[(0, (S a0)), (11, (B (decide ((a0.size : Int) > 12))))], [], [(B (decide ((a0.size : Int) < 1)) : V) = B false], []⟩ [c_ 13, c_ 7] (alc (bF (dF c1)) aln) nocal ?_
    by_cases c2 : (a0.size : Int) > 12
    · rw [if_pos c2] at h
      refine .cond' (.tmp 11) true [c_ 52, c_ 53, c_ 7] (bT (dT c2)) ?_
      refine .reg' [2] [] ⟨[(2, (B false))], [], [], []⟩ [c_ 53, c_ 7] aln nocal ?_
      have h := Option.some.inj h
      subst h
      exact .fin0 [] (B false) [] aln (.z .s)
    · rw [if_neg c2] at h
      refine .cond' (.tmp 11) false [c_ 28, c_ 29, c_ 15] (bF (dF c2)) ?_
      refine .reg' [0, 3] [] ⟨[(0, (S a0)), (3, (I 0))], [], [], []⟩ [l_ 58, b_ 0, c_ 15] aln nocal ?_
      exact ih0 a0 0 _ h
/-! impl_between: function 41 -/
def impl_between.f (a0 : Int) (a1 : Int) (a2 : Int) : Option Bool := (if a0 ≥ a1 then (some (decide (a0 ≤ a2))) else (some false))
theorem impl_between.J (a0 : Int) (a1 : Int) (a2 : Int) (r : Bool) (h : impl_between.f a0 a1 a2 = some r) : J prog (.call 41 [(I a0), (I a1), (I a2)] [] (B r) []) := by
  unfold impl_between.f at h
  refine .call' [c_ 2, c_ 3] ?_
  refine .reg' [0, 1, 2] [] ⟨[(0, (I a0)), (1, (I a1)), (2, (I a2))], [], [], []⟩ [c_ 6, c_ 7] aln nocal ?_
  by_cases c1 : a0 ≥ a1
  · rw [if_pos c1] at h
    refine .reg' [6] [.no, .no, .no, .v (B true)] ⟨[(6, (B (decide (a0 ≤ a2))))], [], [(B (decide (a0 ≥ a1)) : V) = B true], []⟩ [c_ 7] (alc (bT (dT c1)) aln) nocal ?_
    have h := Option.some.inj h
    subst h
    exact .fin0 [] (B (decide (a0 ≤ a2))) [] aln (.z .s)
  · rw [if_neg c1] at h
    refine .reg' [6] [.no, .no, .no, .v (B false)] ⟨[(6, (B false))], [], [(B (decide (a0 ≥ a1)) : V) = B false], []⟩ [c_ 7] (alc (bF (dF c1)) aln) nocal ?_
    have h := Option.some.inj h
    subst h
    exact .fin0 [] (B false) [] aln (.z .s)
/-! impl_isMinute: function 55 -/
def impl_isMinute.f (a0 : Int) : Option Bool := ((impl_between.f a0 0 100000).bind fun x1 => (some x1))
theorem impl_isMinute.J (a0 : Int) (r : Bool) (h : impl_isMinute.f a0 = some r) : J prog (.call 55 [(I a0)] [] (B r) []) := by
  unfold impl_isMinute.f at h
  refine .call' [c_ 2, c_ 3] ?_
  refine .reg' [0] [] ⟨[(0, (I a0))], [], [], []⟩ [c_ 6, c_ 7] aln nocal ?_
  obtain ⟨x1, hx1, h⟩ := Option.bind_eq_some_iff.mp h
  refine .reg' [2] [.no, .c ⟨41, [(I a0), (I 0), (I 100000)], [], (B x1), [], [], [], [], (B x1), []⟩] ⟨[(2, (B x1))], [], [COK (hget []) [(I a0), (I 0), (I 100000)] ⟨41, [(I a0), (I 0), (I 100000)], [], (B x1), [], [], [], [], (B x1), []⟩], [⟨41, [(I a0), (I 0), (I 100000)], [], (B x1), [], [], [], [], (B x1), []⟩]⟩ [c_ 7] (alc (cok0 false (a2c (.z .s) (a2c (.z .s) (a2c (.z .s) a2n))) (.z .s) (fun h => absurd h (by decide))) aln) (acal (impl_between.J a0 0 100000 _ hx1) nocal) ?_
  have h := Option.some.inj h
  subst h
  exact .fin0 [] (B x1) [] aln (.z .s)
/-! impl_TripOk: function 24 -/
def impl_TripOk.l0 : Nat → S28 → Int → Option Bool
 | 0, _, _ => none
 | k + 1, a0, x3 => (if x3 < (a0.f1.length : Int) then (if 0 ≤ x3 then ((impl_between.f ((at_ a0.f1 x3).f0) 0 29).bind fun x4 => (if x4 = true then ((impl_isMinute.f ((at_ a0.f1 x3).f1)).bind fun x5 => (if x5 = true then ((impl_isMinute.f ((at_ a0.f1 x3).f2)).bind fun x6 => (if x6 = true then (if (at_ a0.f1 x3).f1 > (at_ a0.f1 x3).f2 then (some false) else (if x3 > 0 then (if 0 ≤ (wrap64 (x3 - 1)) then (if (wrap64 (x3 - 1)) < (a0.f1.length : Int) then (if (at_ a0.f1 x3).f1 ≤ (at_ a0.f1 (wrap64 (x3 - 1))).f2 then (some false) else (if (at_ a0.f1 x3).f0 = (at_ a0.f1 (wrap64 (x3 - 1))).f0 then (some false) else (impl_TripOk.l0 k a0 (wrap64 (x3 + 1))))) else none) else none) else (impl_TripOk.l0 k a0 (wrap64 (x3 + 1))))) else (some false))) else (some false))) else (some false))) else none) else (some true))
def impl_TripOk.f (k : Nat) (a0 : S28) : Option Bool := ((impl_nameOk.f k a0.f0).bind fun x1 => (if x1 = true then ((impl_between.f (a0.f1.length : Int) 2 12).bind fun x2 => (if x2 = true then (impl_TripOk.l0 k a0 0) else (some false))) else (some false)))
theorem impl_TripOk.lab : ∀ k, (∀ (a0 : S28) (x3 : Int) (r : Bool), impl_TripOk.l0 k a0 x3 = some r → J prog (.run 24 [] [l_ 58, b_ 0, c_ 15] [(1, (.pt 256 0 2)), (17, (.sl true a0.f1.length 3 (a0.f1.flatMap e48))), (18, (I (a0.f1.length : Int))), (19, (I x3))] [(256, [(S a0.f0), (.sl true a0.f1.length 3 (a0.f1.flatMap e48))])] (B r) []))
 | 0 => (by intro a0 x3 r h; unfold impl_TripOk.l0 at h; cases h)
 | k + 1 => by
  have ih0 := impl_TripOk.lab k
  · intro a0 x3 r h
    unfold impl_TripOk.l0 at h
    refine .loop' [c_ 232, c_ 233, l_ 58, b_ 0, c_ 15] ?_
    refine .reg' [1, 17, 18, 19, 20] [] ⟨[(1, (.pt 256 0 2)), (17, (.sl true a0.f1.length 3 (a0.f1.flatMap e48))), (18, (I (a0.f1.length : Int))), (19, (I x3)), (20, (B (decide (x3 < (a0.f1.length : Int)))))], [(256, [(S a0.f0), (.sl true a0.f1.length 3 (a0.f1.flatMap e48))])], [], []⟩ [c_ 466, c_ 467, l_ 58, b_ 0, c_ 15] aln nocal ?_
    by_cases c3 : x3 < (a0.f1.length : Int)
    · rw [if_pos c3] at h
      refine .cond' (.tmp 20) true [c_ 3736, c_ 3737, b_ 1, c_ 935, l_ 58, b_ 0, c_ 15] (bT (dT c3)) ?_
      by_cases c4 : 0 ≤ x3
      · rw [if_pos c4] at h
        refine .reg' [1, 3, 4, 17, 18, 19] [.no, .no, .v (.ag [(I (at_ a0.f1 x3).f0), (I (at_ a0.f1 x3).f1), (I (at_ a0.f1 x3).f2)])] ⟨[(1, (.pt 256 0 2)), (3, (I x3)), (4, (.pt 1539 0 3)), (17, (.sl true a0.f1.length 3 (a0.f1.flatMap e48))), (18, (I (a0.f1.length : Int))), (19, (I x3))], [(256, [(S a0.f0), (.sl true a0.f1.length 3 (a0.f1.flatMap e48))]), (1539, [(I (at_ a0.f1 x3).f0), (I (at_ a0.f1 x3).f1), (I (at_ a0.f1 x3).f2)])], [(0 : Int) ≤ x3 ∧ x3 < (a0.f1.length : Int), rdC prog 49 ((a0.f1.flatMap e48).drop (x3.toNat * 3)) = (.ag [(I (at_ a0.f1 x3).f0), (I (at_ a0.f1 x3).f1), (I (at_ a0.f1 x3).f2)]), 3 ≤ ((a0.f1.flatMap e48).drop (x3.toNat * 3)).length, 3 = 3 ∧ 0 + 3 ≤ 3], []⟩ [c_ 14948, c_ 14949, c_ 7475, b_ 1, c_ 935, l_ 58, b_ 0, c_ 15] (alc ⟨c4, c3⟩ (alc (ldA e48_ok rfl rfl c4 c3) (alc (okI e48_ok c4 c3 (by decide)) (alc ⟨rfl, by decide⟩ aln)))) nocal ?_
        obtain ⟨x4, hx4, h⟩ := Option.bind_eq_some_iff.mp h
        by_cases c5 : x4 = true
        · rw [if_pos c5] at h
          obtain ⟨x5, hx5, h⟩ := Option.bind_eq_some_iff.mp h
          by_cases c6 : x5 = true
          · rw [if_pos c6] at h
            obtain ⟨x6, hx6, h⟩ := Option.bind_eq_some_iff.mp h
            by_cases c7 : x6 = true
            · rw [if_pos c7] at h
              refine .reg' [1, 3, 4, 17, 18, 19, 46] [.no, .no, .c ⟨41, [(I (at_ a0.f1 x3).f0), (I 0), (I 29)], [], (B x4), [], [], [], [], (B x4), []⟩, .no, .v (B false), .no, .no, .c ⟨55, [(I (at_ a0.f1 x3).f1)], [], (B x5), [], [], [], [], (B x5), []⟩, .no, .no, .v (B false), .no, .no, .c ⟨55, [(I (at_ a0.f1 x3).f2)], [], (B x6), [], [], [], [], (B x6), []⟩, .no, .no, .v (B false)] ⟨[(1, (.pt 256 0 2)), (3, (I x3)), (4, (.pt 1539 0 3)), (17, (.sl true a0.f1.length 3 (a0.f1.flatMap e48))), (18, (I (a0.f1.length : Int))), (19, (I x3)), (46, (B (decide ((at_ a0.f1 x3).f1 > (at_ a0.f1 x3).f2))))], [(256, [(S a0.f0), (.sl true a0.f1.length 3 (a0.f1.flatMap e48))]), (1539, [(I (at_ a0.f1 x3).f0), (I (at_ a0.f1 x3).f1), (I (at_ a0.f1 x3).f2)])], [3 = 3 ∧ 0 + 1 ≤ 3, COK (hget [(256, [(S a0.f0), (.sl true a0.f1.length 3 (a0.f1.flatMap e48))]), (1539, [(I (at_ a0.f1 x3).f0), (I (at_ a0.f1 x3).f1), (I (at_ a0.f1 x3).f2)])]) [(I (at_ a0.f1 x3).f0), (I 0), (I 29)] ⟨41, [(I (at_ a0.f1 x3).f0), (I 0), (I 29)], [], (B x4), [], [], [], [], (B x4), []⟩, (B (!x4) : V) = B false, 3 = 3 ∧ 1 + 1 ≤ 3, COK (hget [(256, [(S a0.f0), (.sl true a0.f1.length 3 (a0.f1.flatMap e48))]), (1539, [(I (at_ a0.f1 x3).f0), (I (at_ a0.f1 x3).f1), (I (at_ a0.f1 x3).f2)])]) [(I (at_ a0.f1 x3).f1)] ⟨55, [(I (at_ a0.f1 x3).f1)], [], (B x5), [], [], [], [], (B x5), []⟩, (B (!x5) : V) = B false, 3 = 3 ∧ 2 + 1 ≤ 3, COK (hget [(256, [(S a0.f0), (.sl true a0.f1.length 3 (a0.f1.flatMap e48))]), (1539, [(I (at_ a0.f1 x3).f0), (I (at_ a0.f1 x3).f1), (I (at_ a0.f1 x3).f2)])]) [(I (at_ a0.f1 x3).f2)] ⟨55, [(I (at_ a0.f1 x3).f2)], [], (B x6), [], [], [], [], (B x6), []⟩, (B (!x6) : V) = B false, 3 = 3 ∧ 1 + 1 ≤ 3, 3 = 3 ∧ 2 + 1 ≤ 3], [⟨41, [(I (at_ a0.f1 x3).f0), (I 0), (I 29)], [], (B x4), [], [], [], [], (B x4), []⟩, ⟨55, [(I (at_ a0.f1 x3).f1)], [], (B x5), [], [], [], [], (B x5), []⟩, ⟨55, [(I (at_ a0.f1 x3).f2)], [], (B x6), [], [], [], [], (B x6), []⟩]⟩ [c_ 14949, c_ 7475, b_ 1, c_ 935, l_ 58, b_ 0, c_ 15] (alc ⟨rfl, by decide⟩ (alc (cok0 false (a2c (.z .s) (a2c (.z .s) (a2c (.z .s) a2n))) (.z .s) (fun h => absurd h (by decide))) (alc (bF (nF c5)) (alc ⟨rfl, by decide⟩ (alc (cok0 false (a2c (.z .s) a2n) (.z .s) (fun h => absurd h (by decide))) (alc (bF (nF c6)) (alc ⟨rfl, by decide⟩ (alc (cok0 false (a2c (.z .s) a2n) (.z .s) (fun h => absurd h (by decide))) (alc (bF (nF c7)) (alc ⟨rfl, by decide⟩ (alc ⟨rfl, by decide⟩ aln))))))))))) (acal (impl_between.J ((at_ a0.f1 x3).f0) 0 29 _ hx4) (acal (impl_isMinute.J ((at_ a0.f1 x3).f1) _ hx5) (acal (impl_isMinute.J ((at_ a0.f1 x3).f2) _ hx6) nocal))) ?_
              by_cases c8 : (at_ a0.f1 x3).f1 > (at_ a0.f1 x3).f2
              · rw [if_pos c8] at h
                refine .cond' (.tmp 46) true [c_ 59796, c_ 59797, c_ 7475, b_ 1, c_ 935, l_ 58, b_ 0, c_ 15] (bT (dT c8)) ?_
                refine .reg' [2] [] ⟨[(2, (B false))], [(256, [(S a0.f0), (.sl true a0.f1.length 3 (a0.f1.flatMap e48))]), (1539, [(I (at_ a0.f1 x3).f0), (I (at_ a0.f1 x3).f1), (I (at_ a0.f1 x3).f2)])], [], []⟩ [c_ 59797, c_ 7475, b_ 1, c_ 935, l_ 58, b_ 0, c_ 15] aln nocal ?_
                have h := Option.some.inj h
                subst h
                exact .fin0 [] (B false) [] aln (.z .s)
              · rw [if_neg c8] at h
                refine .cond' (.tmp 46) false [c_ 14950, c_ 14951, b_ 1, c_ 935, l_ 58, b_ 0, c_ 15] (bF (dF c8)) ?_
                by_cases c9 : x3 > 0
                · rw [if_pos c9] at h
                  by_cases c10 : 0 ≤ (wrap64 (x3 - 1))
                  · rw [if_pos c10] at h
                    by_cases c11 : (wrap64 (x3 - 1)) < (a0.f1.length : Int)
                    · rw [if_pos c11] at h
                      by_cases c12 : (at_ a0.f1 x3).f1 ≤ (at_ a0.f1 (wrap64 (x3 - 1))).f2
                      · rw [if_pos c12] at h
                        refine .reg' [1, 17, 18, 19, 72] [.no, .no, .v (B true), .no, .no, .no, .no, .no, .no, .no, .no, .v (I (at_ a0.f1 (wrap64 (x3 - 1))).f2), .no, .v (B true)] ⟨[(1, (.pt 256 0 2)), (17, (.sl true a0.f1.length 3 (a0.f1.flatMap e48))), (18, (I (a0.f1.length : Int))), (19, (I x3)), (72, (B true))], [(256, [(S a0.f0), (.sl true a0.f1.length 3 (a0.f1.flatMap e48))]), (1539, [(I (at_ a0.f1 x3).f0), (I (at_ a0.f1 x3).f1), (I (at_ a0.f1 x3).f2)])], [(B (decide (x3 > 0)) : V) = B true, 3 = 3 ∧ 1 + 1 ≤ 3, 2 = 2 ∧ 1 + 1 ≤ 2, (0 : Int) ≤ (wrap64 (x3 - 1)) ∧ (wrap64 (x3 - 1)) < (a0.f1.length : Int), rdC prog 3 (((a0.f1.flatMap e48).drop ((wrap64 (x3 - 1)).toNat * 3)).drop 2) = (I (at_ a0.f1 (wrap64 (x3 - 1))).f2), 1 ≤ (((a0.f1.flatMap e48).drop ((wrap64 (x3 - 1)).toNat * 3)).drop 2).length, (B (decide ((at_ a0.f1 x3).f1 ≤ (at_ a0.f1 (wrap64 (x3 - 1))).f2)) : V) = B true], []⟩ [c_ 14951, b_ 1, c_ 935, l_ 58, b_ 0, c_ 15] (alc (bT (dT c9)) (alc ⟨rfl, by decide⟩ (alc ⟨rfl, by decide⟩ (alc ⟨c10, c11⟩ (alc (ldC e48_ok 2 (by decide) rfl c10 c11) (alc (okIj e48_ok c10 c11 (by decide)) (alc (bT (dT c12)) aln))))))) nocal ?_
                        refine .cond' (.tmp 72) true [c_ 59804, c_ 59805, b_ 1, c_ 935, l_ 58, b_ 0, c_ 15] (rfl) ?_
                        refine .reg' [2] [] ⟨[(2, (B false))], [(256, [(S a0.f0), (.sl true a0.f1.length 3 (a0.f1.flatMap e48))]), (1539, [(I (at_ a0.f1 x3).f0), (I (at_ a0.f1 x3).f1), (I (at_ a0.f1 x3).f2)])], [], []⟩ [c_ 59805, b_ 1, c_ 935, l_ 58, b_ 0, c_ 15] aln nocal ?_
                        have h := Option.some.inj h
                        subst h
                        exact .fin0 [] (B false) [] aln (.z .s)
                      · rw [if_neg c12] at h
                        refine .reg' [1, 17, 18, 19, 72] [.no, .no, .v (B true), .no, .no, .no, .no, .no, .no, .no, .no, .v (I (at_ a0.f1 (wrap64 (x3 - 1))).f2), .no, .v (B false), .no, .no, .no, .no, .no, .no, .no, .no, .v (I (at_ a0.f1 (wrap64 (x3 - 1))).f0)] ⟨[(1, (.pt 256 0 2)), (17, (.sl true a0.f1.length 3 (a0.f1.flatMap e48))), (18, (I (a0.f1.length : Int))), (19, (I x3)), (72, (B ((at_ a0.f1 x3).f0 == (at_ a0.f1 (wrap64 (x3 - 1))).f0)))], [(256, [(S a0.f0), (.sl true a0.f1.length 3 (a0.f1.flatMap e48))]), (1539, [(I (at_ a0.f1 x3).f0), (I (at_ a0.f1 x3).f1), (I (at_ a0.f1 x3).f2)])], [(B (decide (x3 > 0)) : V) = B true, 3 = 3 ∧ 1 + 1 ≤ 3, 2 = 2 ∧ 1 + 1 ≤ 2, (0 : Int) ≤ (wrap64 (x3 - 1)) ∧ (wrap64 (x3 - 1)) < (a0.f1.length : Int), rdC prog 3 (((a0.f1.flatMap e48).drop ((wrap64 (x3 - 1)).toNat * 3)).drop 2) = (I (at_ a0.f1 (wrap64 (x3 - 1))).f2), 1 ≤ (((a0.f1.flatMap e48).drop ((wrap64 (x3 - 1)).toNat * 3)).drop 2).length, (B (decide ((at_ a0.f1 x3).f1 ≤ (at_ a0.f1 (wrap64 (x3 - 1))).f2)) : V) = B false, 3 = 3 ∧ 0 + 1 ≤ 3, 2 = 2 ∧ 1 + 1 ≤ 2, (0 : Int) ≤ (wrap64 (x3 - 1)) ∧ (wrap64 (x3 - 1)) < (a0.f1.length : Int), rdC prog 3 (((a0.f1.flatMap e48).drop ((wrap64 (x3 - 1)).toNat * 3)).drop 0) = (I (at_ a0.f1 (wrap64 (x3 - 1))).f0), 1 ≤ (((a0.f1.flatMap e48).drop ((wrap64 (x3 - 1)).toNat * 3)).drop 0).length], []⟩ [c_ 14951, b_ 1, c_ 935, l_ 58, b_ 0, c_ 15] (alc (bT (dT c9)) (alc ⟨rfl, by decide⟩ (alc ⟨rfl, by decide⟩ (alc ⟨c10, c11⟩ (alc (ldC e48_ok 2 (by decide) rfl c10 c11) (alc (okIj e48_ok c10 c11 (by decide)) (alc (bF (dF c12)) (alc ⟨rfl, by decide⟩ (alc ⟨rfl, by decide⟩ (alc ⟨c10, c11⟩ (alc (ldC e48_ok 0 (by decide) rfl c10 c11) (alc (okIj e48_ok c10 c11 (by decide)) aln)))))))))))) nocal ?_
                        by_cases c13 : (at_ a0.f1 x3).f0 = (at_ a0.f1 (wrap64 (x3 - 1))).f0
                        · rw [if_pos c13] at h
                          refine .cond' (.tmp 72) true [c_ 59804, c_ 59805, b_ 1, c_ 935, l_ 58, b_ 0, c_ 15] (bT (qT c13)) ?_
                          refine .reg' [2] [] ⟨[(2, (B false))], [(256, [(S a0.f0), (.sl true a0.f1.length 3 (a0.f1.flatMap e48))]), (1539, [(I (at_ a0.f1 x3).f0), (I (at_ a0.f1 x3).f1), (I (at_ a0.f1 x3).f2)])], [], []⟩ [c_ 59805, b_ 1, c_ 935, l_ 58, b_ 0, c_ 15] aln nocal ?_
                          have h := Option.some.inj h
                          subst h
                          exact .fin0 [] (B false) [] aln (.z .s)
                        · rw [if_neg c13] at h
                          refine .cond' (.tmp 72) false [c_ 935, l_ 58, b_ 0, c_ 15] (bF (qF c13)) ?_
                          refine .reg' [1, 17, 18, 19] [] ⟨[(1, (.pt 256 0 2)), (17, (.sl true a0.f1.length 3 (a0.f1.flatMap e48))), (18, (I (a0.f1.length : Int))), (19, (I (wrap64 (x3 + 1))))], [(256, [(S a0.f0), (.sl true a0.f1.length 3 (a0.f1.flatMap e48))]), (1539, [(I (at_ a0.f1 x3).f0), (I (at_ a0.f1 x3).f1), (I (at_ a0.f1 x3).f2)])], [], []⟩ [l_ 58, b_ 0, c_ 15] aln nocal ?_
                          refine .wk' [] [(256, 256)] [(1, (.pt 256 0 2)), (17, (.sl true a0.f1.length 3 (a0.f1.flatMap e48))), (18, (I (a0.f1.length : Int))), (19, (I (wrap64 (x3 + 1))))] [(256, [(S a0.f0), (.sl true a0.f1.length 3 (a0.f1.flatMap e48))])] (shc 256 (a2c (.z .s) (a2c (.z (frz_sl e48_ok (fun h => h))) a2n)) shn) (enc_ (.pt (memP_mem (p := (256, 256)) rfl)) (enc_ (.z (frz_sl e48_ok (fun h => h))) (enc_ (.z .s) (enc_ (.z .s) enn)))) ?_
                          exact ih0 a0 (wrap64 (x3 + 1)) _ h
                    · rw [if_neg c11] at h
                      cases h
                  · rw [if_neg c10] at h
                    cases h
                · rw [if_neg c9] at h
                  refine .reg' [1, 17, 18, 19, 72] [.no, .no, .v (B false)] ⟨[(1, (.pt 256 0 2)), (17, (.sl true a0.f1.length 3 (a0.f1.flatMap e48))), (18, (I (a0.f1.length : Int))), (19, (I x3)), (72, (B false))], [(256, [(S a0.f0), (.sl true a0.f1.length 3 (a0.f1.flatMap e48))]), (1539, [(I (at_ a0.f1 x3).f0), (I (at_ a0.f1 x3).f1), (I (at_ a0.f1 x3).f2)])], [(B (decide (x3 > 0)) : V) = B false], []⟩ [c_ 14951, b_ 1, c_ 935, l_ 58, b_ 0, c_ 15] (alc (bF (dF c9)) aln) nocal ?_
                  refine .cond' (.tmp 72) false [c_ 935, l_ 58, b_ 0, c_ 15] (rfl) ?_
                  refine .reg' [1, 17, 18, 19] [] ⟨[(1, (.pt 256 0 2)), (17, (.sl true a0.f1.length 3 (a0.f1.flatMap e48))), (18, (I (a0.f1.length : Int))), (19, (I (wrap64 (x3 + 1))))], [(256, [(S a0.f0), (.sl true a0.f1.length 3 (a0.f1.flatMap e48))]), (1539, [(I (at_ a0.f1 x3).f0), (I (at_ a0.f1 x3).f1), (I (at_ a0.f1 x3).f2)])], [], []⟩ [l_ 58, b_ 0, c_ 15] aln nocal ?_
                  refine .wk' [] [(256, 256)] [(1, (.pt 256 0 2)), (17, (.sl true a0.f1.length 3 (a0.f1.flatMap e48))), (18, (I (a0.f1.length : Int))), (19, (I (wrap64 (x3 + 1))))] [(256, [(S a0.f0), (.sl true a0.f1.length 3 (a0.f1.flatMap e48))])] (shc 256 (a2c (.z .s) (a2c (.z (frz_sl e48_ok (fun h => h))) a2n)) shn) (enc_ (.pt (memP_mem (p := (256, 256)) rfl)) (enc_ (.z (frz_sl e48_ok (fun h => h))) (enc_ (.z .s) (enc_ (.z .s) enn)))) ?_
                  exact ih0 a0 (wrap64 (x3 + 1)) _ h
            · rw [if_neg c7] at h
              refine .reg' [1, 3, 4, 17, 18, 19, 46] [.no, .no, .c ⟨41, [(I (at_ a0.f1 x3).f0), (I 0), (I 29)], [], (B x4), [], [], [], [], (B x4), []⟩, .no, .v (B false), .no, .no, .c ⟨55, [(I (at_ a0.f1 x3).f1)], [], (B x5), [], [], [], [], (B x5), []⟩, .no, .no, .v (B false), .no, .no, .c ⟨55, [(I (at_ a0.f1 x3).f2)], [], (B x6), [], [], [], [], (B x6), []⟩, .no, .no, .v (B true)] ⟨[(1, (.pt 256 0 2)), (3, (I x3)), (4, (.pt 1539 0 3)), (17, (.sl true a0.f1.length 3 (a0.f1.flatMap e48))), (18, (I (a0.f1.length : Int))), (19, (I x3)), (46, (B true))], [(256, [(S a0.f0), (.sl true a0.f1.length 3 (a0.f1.flatMap e48))]), (1539, [(I (at_ a0.f1 x3).f0), (I (at_ a0.f1 x3).f1), (I (at_ a0.f1 x3).f2)])], [3 = 3 ∧ 0 + 1 ≤ 3, COK (hget [(256, [(S a0.f0), (.sl true a0.f1.length 3 (a0.f1.flatMap e48))]), (1539, [(I (at_ a0.f1 x3).f0), (I (at_ a0.f1 x3).f1), (I (at_ a0.f1 x3).f2)])]) [(I (at_ a0.f1 x3).f0), (I 0), (I 29)] ⟨41, [(I (at_ a0.f1 x3).f0), (I 0), (I 29)], [], (B x4), [], [], [], [], (B x4), []⟩, (B (!x4) : V) = B false, 3 = 3 ∧ 1 + 1 ≤ 3, COK (hget [(256, [(S a0.f0), (.sl true a0.f1.length 3 (a0.f1.flatMap e48))]), (1539, [(I (at_ a0.f1 x3).f0), (I (at_ a0.f1 x3).f1), (I (at_ a0.f1 x3).f2)])]) [(I (at_ a0.f1 x3).f1)] ⟨55, [(I (at_ a0.f1 x3).f1)], [], (B x5), [], [], [], [], (B x5), []⟩, (B (!x5) : V) = B false, 3 = 3 ∧ 2 + 1 ≤ 3, COK (hget [(256, [(S a0.f0), (.sl true a0.f1.length 3 (a0.f1.flatMap e48))]), (1539, [(I (at_ a0.f1 x3).f0), (I (at_ a0.f1 x3).f1), (I (at_ a0.f1 x3).f2)])]) [(I (at_ a0.f1 x3).f2)] ⟨55, [(I (at_ a0.f1 x3).f2)], [], (B x6), [], [], [], [], (B x6), []⟩, (B (!x6) : V) = B true], [⟨41, [(I (at_ a0.f1 x3).f0), (I 0), (I 29)], [], (B x4), [], [], [], [], (B x4), []⟩, ⟨55, [(I (at_ a0.f1 x3).f1)], [], (B x5), [], [], [], [], (B x5), []⟩, ⟨55, [(I (at_ a0.f1 x3).f2)], [], (B x6), [], [], [], [], (B x6), []⟩]⟩ [c_ 14949, c_ 7475, b_ 1, c_ 935, l_ 58, b_ 0, c_ 15] (alc ⟨rfl, by decide⟩ (alc (cok0 false (a2c (.z .s) (a2c (.z .s) (a2c (.z .s) a2n))) (.z .s) (fun h => absurd h (by decide))) (alc (bF (nF c5)) (alc ⟨rfl, by decide⟩ (alc (cok0 false (a2c (.z .s) a2n) (.z .s) (fun h => absurd h (by decide))) (alc (bF (nF c6)) (alc ⟨rfl, by decide⟩ (alc (cok0 false (a2c (.z .s) a2n) (.z .s) (fun h => absurd h (by decide))) (alc (bT (nT (vF c7))) aln))))))))) (acal (impl_between.J ((at_ a0.f1 x3).f0) 0 29 _ hx4) (acal (impl_isMinute.J ((at_ a0.f1 x3).f1) _ hx5) (acal (impl_isMinute.J ((at_ a0.f1 x3).f2) _ hx6) nocal))) ?_
              refine .cond' (.tmp 46) true [c_ 59796, c_ 59797, c_ 7475, b_ 1, c_ 935, l_ 58, b_ 0, c_ 15] (rfl) ?_
              refine .reg' [2] [] ⟨[(2, (B false))], [(256, [(S a0.f0), (.sl true a0.f1.length 3 (a0.f1.flatMap e48))]), (1539, [(I (at_ a0.f1 x3).f0), (I (at_ a0.f1 x3).f1), (I (at_ a0.f1 x3).f2)])], [], []⟩ [c_ 59797, c_ 7475, b_ 1, c_ 935, l_ 58, b_ 0, c_ 15] aln nocal ?_
              have h := Option.some.inj h
              subst h
              exact .fin0 [] (B false) [] aln (.z .s)
          · rw [if_neg c6] at h
            refine .reg' [1, 3, 4, 17, 18, 19, 46] [.no, .no, .c ⟨41, [(I (at_ a0.f1 x3).f0), (I 0), (I 29)], [], (B x4), [], [], [], [], (B x4), []⟩, .no, .v (B false), .no, .no, .c ⟨55, [(I (at_ a0.f1 x3).f1)], [], (B x5), [], [], [], [], (B x5), []⟩, .no, .no, .v (B true)] ⟨[(1, (.pt 256 0 2)), (3, (I x3)), (4, (.pt 1539 0 3)), (17, (.sl true a0.f1.length 3 (a0.f1.flatMap e48))), (18, (I (a0.f1.length : Int))), (19, (I x3)), (46, (B true))], [(256, [(S a0.f0), (.sl true a0.f1.length 3 (a0.f1.flatMap e48))]), (1539, [(I (at_ a0.f1 x3).f0), (I (at_ a0.f1 x3).f1), (I (at_ a0.f1 x3).f2)])], [3 = 3 ∧ 0 + 1 ≤ 3, COK (hget [(256, [(S a0.f0), (.sl true a0.f1.length 3 (a0.f1.flatMap e48))]), (1539, [(I (at_ a0.f1 x3).f0), (I (at_ a0.f1 x3).f1), (I (at_ a0.f1 x3).f2)])]) [(I (at_ a0.f1 x3).f0), (I 0), (I 29)] ⟨41, [(I (at_ a0.f1 x3).f0), (I 0), (I 29)], [], (B x4), [], [], [], [], (B x4), []⟩, (B (!x4) : V) = B false, 3 = 3 ∧ 1 + 1 ≤ 3, COK (hget [(256, [(S a0.f0), (.sl true a0.f1.length 3 (a0.f1.flatMap e48))]), (1539, [(I (at_ a0.f1 x3).f0), (I (at_ a0.f1 x3).f1), (I (at_ a0.f1 x3).f2)])]) [(I (at_ a0.f1 x3).f1)] ⟨55, [(I (at_ a0.f1 x3).f1)], [], (B x5), [], [], [], [], (B x5), []⟩, (B (!x5) : V) = B true], [⟨41, [(I (at_ a0.f1 x3).f0), (I 0), (I 29)], [], (B x4), [], [], [], [], (B x4), []⟩, ⟨55, [(I (at_ a0.f1 x3).f1)], [], (B x5), [], [], [], [], (B x5), []⟩]⟩ [c_ 14949, c_ 7475, b_ 1, c_ 935, l_ 58, b_ 0, c_ 15] (alc ⟨rfl, by decide⟩ (alc (cok0 false (a2c (.z .s) (a2c (.z .s) (a2c (.z .s) a2n))) (.z .s) (fun h => absurd h (by decide))) (alc (bF (nF c5)) (alc ⟨rfl, by decide⟩ (alc (cok0 false (a2c (.z .s) a2n) (.z .s) (fun h => absurd h (by decide))) (alc (bT (nT (vF c6))) aln)))))) (acal (impl_between.J ((at_ a0.f1 x3).f0) 0 29 _ hx4) (acal (impl_isMinute.J ((at_ a0.f1 x3).f1) _ hx5) nocal)) ?_
            refine .cond' (.tmp 46) true [c_ 59796, c_ 59797, c_ 7475, b_ 1, c_ 935, l_ 58, b_ 0, c_ 15] (rfl) ?_
            refine .reg' [2] [] ⟨[(2, (B false))], [(256, [(S a0.f0), (.sl true a0.f1.length 3 (a0.f1.flatMap e48))]), (1539, [(I (at_ a0.f1 x3).f0), (I (at_ a0.f1 x3).f1), (I (at_ a0.f1 x3).f2)])], [], []⟩ [c_ 59797, c_ 7475, b_ 1, c_ 935, l_ 58, b_ 0, c_ 15] aln nocal ?_
            have h := Option.some.inj h
            subst h
            exact .fin0 [] (B false) [] aln (.z .s)
        · rw [if_neg c5] at h
          refine .reg' [1, 3, 4, 17, 18, 19, 46] [.no, .no, .c ⟨41, [(I (at_ a0.f1 x3).f0), (I 0), (I 29)], [], (B x4), [], [], [], [], (B x4), []⟩, .no, .v (B true)] ⟨[(1, (.pt 256 0 2)), (3, (I x3)), (4, (.pt 1539 0 3)), (17, (.sl true a0.f1.length 3 (a0.f1.flatMap e48))), (18, (I (a0.f1.length : Int))), (19, (I x3)), (46, (B true))], [(256, [(S a0.f0), (.sl true a0.f1.length 3 (a0.f1.flatMap e48))]), (1539, [(I (at_ a0.f1 x3).f0), (I (at_ a0.f1 x3).f1), (I (at_ a0.f1 x3).f2)])], [3 = 3 ∧ 0 + 1 ≤ 3, COK (hget [(256, [(S a0.f0), (.sl true a0.f1.length 3 (a0.f1.flatMap e48))]), (1539, [(I (at_ a0.f1 x3).f0), (I (at_ a0.f1 x3).f1), (I (at_ a0.f1 x3).f2)])]) [(I (at_ a0.f1 x3).f0), (I 0), (I 29)] ⟨41, [(I (at_ a0.f1 x3).f0), (I 0), (I 29)], [], (B x4), [], [], [], [], (B x4), []⟩, (B (!x4) : V) = B true], [⟨41, [(I (at_ a0.f1 x3).f0), (I 0), (I 29)], [], (B x4), [], [], [], [], (B x4), []⟩]⟩ [c_ 14949, c_ 7475, b_ 1, c_ 935, l_ 58, b_ 0, c_ 15] (alc ⟨rfl, by decide⟩ (alc (cok0 false (a2c (.z .s) (a2c (.z .s) (a2c (.z .s) a2n))) (.z .s) (fun h => absurd h (by decide))) (alc (bT (nT (vF c5))) aln))) (acal (impl_between.J ((at_ a0.f1 x3).f0) 0 29 _ hx4) nocal) ?_
          refine .cond' (.tmp 46) true [c_ 59796, c_ 59797, c_ 7475, b_ 1, c_ 935, l_ 58, b_ 0, c_ 15] (rfl) ?_
          refine .reg' [2] [] ⟨[(2, (B false))], [(256, [(S a0.f0), (.sl true a0.f1.length 3 (a0.f1.flatMap e48))]), (1539, [(I (at_ a0.f1 x3).f0), (I (at_ a0.f1 x3).f1), (I (at_ a0.f1 x3).f2)])], [], []⟩ [c_ 59797, c_ 7475, b_ 1, c_ 935, l_ 58, b_ 0, c_ 15] aln nocal ?_
          have h := Option.some.inj h
          subst h
          exact .fin0 [] (B false) [] aln (.z .s)
      · rw [if_neg c4] at h
        cases h
    · rw [if_neg c3] at h
      refine .cond' (.tmp 20) false [c_ 30, c_ 31] (bF (dF c3)) ?_
      refine .reg' [2] [] ⟨[(2, (B true))], [(256, [(S a0.f0), (.sl true a0.f1.length 3 (a0.f1.flatMap e48))])], [], []⟩ [c_ 31] aln nocal ?_
      have h := Option.some.inj h
      subst h
      exact .fin0 [] (B true) [] aln (.z .s)
theorem impl_TripOk.J (k : Nat) (a0 : S28) (r : Bool) (h : impl_TripOk.f k a0 = some r) : J prog (.call 24 [(.ag [(S a0.f0), (.sl true a0.f1.length 3 (a0.f1.flatMap e48))])] [] (B r) []) := by
  unfold impl_TripOk.f at h
  have ih0 := impl_TripOk.lab k
  refine .call' [c_ 2, c_ 3] ?_
  refine .reg' [1] [] ⟨[(1, (.pt 256 0 2))], [(256, [(S a0.f0), (.sl true a0.f1.length 3 (a0.f1.flatMap e48))])], [], []⟩ [c_ 12, c_ 13, c_ 7] aln nocal ?_
  obtain ⟨x1, hx1, h⟩ := Option.bind_eq_some_iff.mp h
  by_cases c1 : x1 = true
  · rw [if_pos c1] at h
    obtain ⟨x2, hx2, h⟩ := Option.bind_eq_some_iff.mp h
    refine .reg' [1, 15] [.no, .no, .c ⟨54, [(S a0.f0)], [], (B x1), [], [], [], [], (B x1), []⟩, .no, .v (B false), .no, .no, .no, .c ⟨41, [(I (a0.f1.length : Int)), (I 2), (I 12)], [], (B x2), [], [], [], [], (B x2), []⟩] ⟨[(1, (.pt 256 0 2)), (15, (B (!x2)))], [(256, [(S a0.f0), (.sl true a0.f1.length 3 (a0.f1.flatMap e48))])], [2 = 2 ∧ 0 + 1 ≤ 2, COK (hget [(256, [(S a0.f0), (.sl true a0.f1.length 3 (a0.f1.flatMap e48))])]) [(S a0.f0)] ⟨54, [(S a0.f0)], [], (B x1), [], [], [], [], (B x1), []⟩, (B (!x1) : V) = B false, 2 = 2 ∧ 1 + 1 ≤ 2, COK (hget [(256, [(S a0.f0), (.sl true a0.f1.length 3 (a0.f1.flatMap e48))])]) [(I (a0.f1.length : Int)), (I 2), (I 12)] ⟨41, [(I (a0.f1.length : Int)), (I 2), (I 12)], [], (B x2), [], [], [], [], (B x2), []⟩], [⟨54, [(S a0.f0)], [], (B x1), [], [], [], [], (B x1), []⟩, ⟨41, [(I (a0.f1.length : Int)), (I 2), (I 12)], [], (B x2), [], [], [], [], (B x2), []⟩]⟩ [c_ 13, c_ 7] (alc ⟨rfl, by decide⟩ (alc (cok0 false (a2c (.z .s) a2n) (.z .s) (fun h => absurd h (by decide))) (alc (bF (nF c1)) (alc ⟨rfl, by decide⟩ (alc (cok0 false (a2c (.z .s) (a2c (.z .s) (a2c (.z .s) a2n))) (.z .s) (fun h => absurd h (by decide))) aln))))) (acal (impl_nameOk.J k a0.f0 _ hx1) (acal (impl_between.J (a0.f1.length : Int) 2 12 _ hx2) nocal)) ?_
    by_cases c2 : x2 = true
    · rw [if_pos c2] at h
      refine .cond' (.tmp 15) false [c_ 28, c_ 29, c_ 15] (bF (nF c2)) ?_
      refine .reg' [1, 17, 18, 19] [] ⟨[(1, (.pt 256 0 2)), (17, (.sl true a0.f1.length 3 (a0.f1.flatMap e48))), (18, (I (a0.f1.length : Int))), (19, (I 0))], [(256, [(S a0.f0), (.sl true a0.f1.length 3 (a0.f1.flatMap e48))])], [2 = 2 ∧ 1 + 1 ≤ 2], []⟩ [l_ 58, b_ 0, c_ 15] (alc ⟨rfl, by decide⟩ aln) nocal ?_
      exact ih0 a0 0 _ h
    · rw [if_neg c2] at h
      refine .cond' (.tmp 15) true [c_ 52, c_ 53, c_ 7] (bT (nT (vF c2))) ?_
      refine .reg' [2] [] ⟨[(2, (B false))], [(256, [(S a0.f0), (.sl true a0.f1.length 3 (a0.f1.flatMap e48))])], [], []⟩ [c_ 53, c_ 7] aln nocal ?_
      have h := Option.some.inj h
      subst h
      exact .fin0 [] (B false) [] aln (.z .s)
  · rw [if_neg c1] at h
    refine .reg' [1, 15] [.no, .no, .c ⟨54, [(S a0.f0)], [], (B x1), [], [], [], [], (B x1), []⟩, .no, .v (B true)] ⟨[(1, (.pt 256 0 2)), (15, (B true))], [(256, [(S a0.f0), (.sl true a0.f1.length 3 (a0.f1.flatMap e48))])], [2 = 2 ∧ 0 + 1 ≤ 2, COK (hget [(256, [(S a0.f0), (.sl true a0.f1.length 3 (a0.f1.flatMap e48))])]) [(S a0.f0)] ⟨54, [(S a0.f0)], [], (B x1), [], [], [], [], (B x1), []⟩, (B (!x1) : V) = B true], [⟨54, [(S a0.f0)], [], (B x1), [], [], [], [], (B x1), []⟩]⟩ [c_ 13, c_ 7] (alc ⟨rfl, by decide⟩ (alc (cok0 false (a2c (.z .s) a2n) (.z .s) (fun h => absurd h (by decide))) (alc (bT (nT (vF c1))) aln))) (acal (impl_nameOk.J k a0.f0 _ hx1) nocal) ?_
    refine .cond' (.tmp 15) true [c_ 52, c_ 53, c_ 7] (rfl) ?_
    refine .reg' [2] [] ⟨[(2, (B false))], [(256, [(S a0.f0), (.sl true a0.f1.length 3 (a0.f1.flatMap e48))])], [], []⟩ [c_ 53, c_ 7] aln nocal ?_
    have h := Option.some.inj h
    subst h
    exact .fin0 [] (B false) [] aln (.z .s)
def lays171_ren : Go.Shelf.Ren := ⟨fun | 171 => 35 | 243 => 60 | 246 => 71 | 283 => 78 | 284 => 79 | 285 => 80 | 286 => 81 | 129 => 90 | 317 => 89 | 318 => 91 | 319 => 92 | 320 => 93 | 337 => 97 | 338 => 98 | n => n, fun | 3 => 3 | 9 => 9 | 2 => 2 | 4 => 4 | 171 => 92 | 0 => 0 | 53 => 93 | 37 => 42 | 5 => 5 | 173 => 96 | 212 => 104 | 51 => 105 | 20 => 20 | 213 => 106 | 46 => 102 | 232 => 115 | 233 => 116 | n => n, fun | 17 => 1 | 18 => 4 | 19 => 5 | n => n⟩
theorem lays171 : Go.Proofs.LaysM.n171 Tryd.prog lays171_ren where
  mixed := by kernel_rfl
  f129 := Tryd.func90.trans (congrArg some (by kernel_rfl))
  f171 := Tryd.func35.trans (congrArg some (by kernel_rfl))
  f243 := Tryd.func60.trans (congrArg some (by kernel_rfl))
  f246 := Tryd.func71.trans (congrArg some (by kernel_rfl))
  f283 := Tryd.func78.trans (congrArg some (by kernel_rfl))
  f284 := Tryd.func79.trans (congrArg some (by kernel_rfl))
  f285 := Tryd.func80.trans (congrArg some (by kernel_rfl))
  f286 := Tryd.func81.trans (congrArg some (by kernel_rfl))
  f317 := Tryd.func89.trans (congrArg some (by kernel_rfl))
  f318 := Tryd.func91.trans (congrArg some (by kernel_rfl))
  f319 := Tryd.func92.trans (congrArg some (by kernel_rfl))
  f320 := Tryd.func93.trans (congrArg some (by kernel_rfl))
  f337 := Tryd.func97.trans (congrArg some (by kernel_rfl))
  f338 := Tryd.func98.trans (congrArg some (by kernel_rfl))
  t0 := Tryd.underlying0
  a0 := Tryd.isAgg0
  z0 := Tryd.sizeOf0
  v0 := Tryd.zeroValue0
  t2 := Tryd.underlying2
  a2 := Tryd.isAgg2
  z2 := Tryd.sizeOf2
  v2 := Tryd.zeroValue2
  t3 := Tryd.underlying3
  a3 := Tryd.isAgg3
  z3 := Tryd.sizeOf3
  v3 := Tryd.zeroValue3
  t4 := Tryd.underlying4
  a4 := Tryd.isAgg4
  z4 := Tryd.sizeOf4
  v4 := Tryd.zeroValue4
  t5 := Tryd.underlying5
  a5 := Tryd.isAgg5
  z5 := Tryd.sizeOf5
  v5 := Tryd.zeroValue5
  t9 := Tryd.underlying9
  a9 := Tryd.isAgg9
  z9 := Tryd.sizeOf9
  v9 := Tryd.zeroValue9
  t20 := Tryd.underlying20
  a20 := Tryd.isAgg20
  z20 := Tryd.sizeOf20
  v20 := Tryd.zeroValue20
  t37 := Tryd.underlying42
  a37 := Tryd.isAgg42
  z37 := Tryd.sizeOf42
  v37 := Tryd.zeroValue42
  t46 := Tryd.underlying102
  a46 := Tryd.isAgg102
  z46 := Tryd.sizeOf102
  v46 := Tryd.zeroValue102
  t51 := Tryd.underlying105
  a51 := Tryd.isAgg105
  z51 := Tryd.sizeOf105
  v51 := Tryd.zeroValue105
  t53 := Tryd.underlying93
  a53 := Tryd.isAgg93
  z53 := Tryd.sizeOf93
  v53 := Tryd.zeroValue93
  t171 := Tryd.underlying92
  a171 := Tryd.isAgg92
  z171 := Tryd.sizeOf92
  v171 := Tryd.zeroValue92
  t173 := Tryd.underlying96
  a173 := Tryd.isAgg96
  z173 := Tryd.sizeOf96
  v173 := Tryd.zeroValue96
  t212 := Tryd.underlying104
  a212 := Tryd.isAgg104
  z212 := Tryd.sizeOf104
  v212 := Tryd.zeroValue104
  t213 := Tryd.underlying106
  a213 := Tryd.isAgg106
  z213 := Tryd.sizeOf106
  t232 := Tryd.underlying115
  a232 := Tryd.isAgg115
  z232 := Tryd.sizeOf115
  v232 := Tryd.zeroValue115
  t233 := Tryd.underlying116
  a233 := Tryd.isAgg116
  z233 := Tryd.sizeOf116
  v233 := Tryd.zeroValue116
  g17 := by kernel_rfl
  g18 := by kernel_rfl
  g19 := by kernel_rfl
  i0 := by kernel_rfl
  i2 := by kernel_rfl
  i3 := by kernel_rfl
  i4 := by kernel_rfl
  i5 := by kernel_rfl
  i9 := by kernel_rfl
  i20 := by kernel_rfl
  i37 := by kernel_rfl
  i46 := by kernel_rfl
  i51 := by kernel_rfl
  i53 := by kernel_rfl
  i171 := by kernel_rfl
  i173 := by kernel_rfl
  i212 := by kernel_rfl
  i232 := by kernel_rfl
  i233 := by kernel_rfl
  m17 := by kernel_rfl
  m18 := by kernel_rfl
  m19 := by kernel_rfl
/-! strconv_Itoa: function 35 (the shelf's contract) -/
def strconv_Itoa.f (a0 : Int) : Option ByteArray := (if -9223372036854775808 ≤ a0 then (if a0 ≤ 9223372036854775807 then (some (⟨(Go.Lib.itoa a0).toArray⟩ : ByteArray)) else none) else none)
theorem strconv_Itoa.J (a0 : Int) (r : ByteArray) (h : strconv_Itoa.f a0 = some r) : J prog (.call 35 [(I a0)] [] (S r) []) := by
  unfold strconv_Itoa.f at h
  by_cases h0 : -9223372036854775808 ≤ a0
  · rw [if_pos h0] at h
    by_cases h1 : a0 ≤ 9223372036854775807
    · rw [if_pos h1] at h
      have h := Option.some.inj h
      subst h
      refine lib_below1 rfl fun w hg => (Go.Proofs.Any.strconv_Itoa lays171 a0 h0 h1 w hg.1).mono ?_
      rintro e w2 ⟨rfl, k, os, rfl⟩
      exact ⟨rfl, Go.Lib.below_grow _ _ (Nat.le_refl _) _ _⟩
    · rw [if_neg h1] at h
      cases h
  · rw [if_neg h0] at h
    cases h
/-! impl_twoDigits: function 61 -/
def impl_twoDigits.f (a0 : Int) : Option ByteArray := (if a0 < 10 then ((strconv_Itoa.f a0).bind fun x1 => (if (⟨#[48]⟩ : ByteArray).size + x1.size ≤ 9223372036854775807 then (some ((⟨#[48]⟩ : ByteArray) ++ x1)) else none)) else ((strconv_Itoa.f a0).bind fun x2 => (some x2)))
theorem impl_twoDigits.J (a0 : Int) (r : ByteArray) (h : impl_twoDigits.f a0 = some r) : J prog (.call 61 [(I a0)] [] (S r) []) := by
  unfold impl_twoDigits.f at h
  refine .call' [c_ 2, c_ 3] ?_
  refine .reg' [0] [] ⟨[(0, (I a0))], [], [], []⟩ [c_ 12, c_ 13, c_ 7] aln nocal ?_
  refine .reg' [0, 4] [] ⟨[(0, (I a0)), (4, (B (decide (a0 < 10))))], [], [], []⟩ [c_ 13, c_ 7] aln nocal ?_
  by_cases c1 : a0 < 10
  · rw [if_pos c1] at h
    refine .cond' (.tmp 4) true [c_ 52, c_ 53, c_ 7] (bT (dT c1)) ?_
    obtain ⟨x1, hx1, h⟩ := Option.bind_eq_some_iff.mp h
    by_cases c2 : (⟨#[48]⟩ : ByteArray).size + x1.size ≤ 9223372036854775807
    · rw [if_pos c2] at h
      refine .reg' [2] [.no, .c ⟨35, [(I a0)], [], (S x1), [], [], [], [], (S x1), []⟩] ⟨[(2, (S ((⟨#[48]⟩ : ByteArray) ++ x1)))], [], [COK (hget []) [(I a0)] ⟨35, [(I a0)], [], (S x1), [], [], [], [], (S x1), []⟩, (⟨#[48]⟩ : ByteArray).size + x1.size ≤ 9223372036854775807], [⟨35, [(I a0)], [], (S x1), [], [], [], [], (S x1), []⟩]⟩ [c_ 53, c_ 7] (alc (cok0 false (a2c (.z .s) a2n) (.z .s) (fun h => absurd h (by decide))) (alc c2 aln)) (acal (strconv_Itoa.J a0 _ hx1) nocal) ?_
      have h := Option.some.inj h
      subst h
      exact .fin0 [] (S ((⟨#[48]⟩ : ByteArray) ++ x1)) [] aln (.z .s)
    · rw [if_neg c2] at h
      cases h
  · rw [if_neg c1] at h
    refine .cond' (.tmp 4) false [c_ 14, c_ 15] (bF (dF c1)) ?_
    obtain ⟨x2, hx2, h⟩ := Option.bind_eq_some_iff.mp h
    refine .reg' [2] [.no, .c ⟨35, [(I a0)], [], (S x2), [], [], [], [], (S x2), []⟩] ⟨[(2, (S x2))], [], [COK (hget []) [(I a0)] ⟨35, [(I a0)], [], (S x2), [], [], [], [], (S x2), []⟩], [⟨35, [(I a0)], [], (S x2), [], [], [], [], (S x2), []⟩]⟩ [c_ 15] (alc (cok0 false (a2c (.z .s) a2n) (.z .s) (fun h => absurd h (by decide))) aln) (acal (strconv_Itoa.J a0 _ hx2) nocal) ?_
    have h := Option.some.inj h
    subst h
    exact .fin0 [] (S x2) [] aln (.z .s)
/-! impl_TimeText: function 36 -/
def impl_TimeText.f (a0 : Int) : Option ByteArray := ((impl_isMinute.f a0).bind fun x1 => (if x1 = true then ((impl_twoDigits.f (wrap64 (a0.tdiv (60 : Int)))).bind fun x2 => (if x2.size + (⟨#[58]⟩ : ByteArray).size ≤ 9223372036854775807 then ((impl_twoDigits.f (a0.tmod (60 : Int))).bind fun x3 => (if (x2 ++ (⟨#[58]⟩ : ByteArray)).size + x3.size ≤ 9223372036854775807 then (some ((x2 ++ (⟨#[58]⟩ : ByteArray)) ++ x3)) else none)) else none)) else (some (⟨#[]⟩ : ByteArray))))
theorem impl_TimeText.J (a0 : Int) (r : ByteArray) (h : impl_TimeText.f a0 = some r) : J prog (.call 36 [(I a0)] [] (S r) []) := by
  unfold impl_TimeText.f at h
  refine .call' [c_ 2, c_ 3] ?_
  refine .reg' [0] [] ⟨[(0, (I a0))], [], [], []⟩ [c_ 12, c_ 13, c_ 7] aln nocal ?_
  obtain ⟨x1, hx1, h⟩ := Option.bind_eq_some_iff.mp h
  refine .reg' [0, 5] [.no, .c ⟨55, [(I a0)], [], (B x1), [], [], [], [], (B x1), []⟩] ⟨[(0, (I a0)), (5, (B (!x1)))], [], [COK (hget []) [(I a0)] ⟨55, [(I a0)], [], (B x1), [], [], [], [], (B x1), []⟩], [⟨55, [(I a0)], [], (B x1), [], [], [], [], (B x1), []⟩]⟩ [c_ 13, c_ 7] (alc (cok0 false (a2c (.z .s) a2n) (.z .s) (fun h => absurd h (by decide))) aln) (acal (impl_isMinute.J a0 _ hx1) nocal) ?_
  by_cases c1 : x1 = true
  · rw [if_pos c1] at h
    refine .cond' (.tmp 5) false [c_ 14, c_ 15] (bF (nF c1)) ?_
    obtain ⟨x2, hx2, h⟩ := Option.bind_eq_some_iff.mp h
    by_cases c2 : x2.size + (⟨#[58]⟩ : ByteArray).size ≤ 9223372036854775807
    · rw [if_pos c2] at h
      obtain ⟨x3, hx3, h⟩ := Option.bind_eq_some_iff.mp h
      by_cases c3 : (x2 ++ (⟨#[58]⟩ : ByteArray)).size + x3.size ≤ 9223372036854775807
      · rw [if_pos c3] at h
        refine .reg' [2] [.no, .no, .c ⟨61, [(I (wrap64 (a0.tdiv (60 : Int))))], [], (S x2), [], [], [], [], (S x2), []⟩, .no, .no, .no, .c ⟨61, [(I (a0.tmod (60 : Int)))], [], (S x3), [], [], [], [], (S x3), []⟩] ⟨[(2, (S ((x2 ++ (⟨#[58]⟩ : ByteArray)) ++ x3)))], [], [(60 : Int) ≠ 0, COK (hget []) [(I (wrap64 (a0.tdiv (60 : Int))))] ⟨61, [(I (wrap64 (a0.tdiv (60 : Int))))], [], (S x2), [], [], [], [], (S x2), []⟩, x2.size + (⟨#[58]⟩ : ByteArray).size ≤ 9223372036854775807, (60 : Int) ≠ 0, COK (hget []) [(I (a0.tmod (60 : Int)))] ⟨61, [(I (a0.tmod (60 : Int)))], [], (S x3), [], [], [], [], (S x3), []⟩, (x2 ++ (⟨#[58]⟩ : ByteArray)).size + x3.size ≤ 9223372036854775807], [⟨61, [(I (wrap64 (a0.tdiv (60 : Int))))], [], (S x2), [], [], [], [], (S x2), []⟩, ⟨61, [(I (a0.tmod (60 : Int)))], [], (S x3), [], [], [], [], (S x3), []⟩]⟩ [c_ 15] (alc (by decide) (alc (cok0 false (a2c (.z .s) a2n) (.z .s) (fun h => absurd h (by decide))) (alc c2 (alc (by decide) (alc (cok0 false (a2c (.z .s) a2n) (.z .s) (fun h => absurd h (by decide))) (alc c3 aln)))))) (acal (impl_twoDigits.J (wrap64 (a0.tdiv (60 : Int))) _ hx2) (acal (impl_twoDigits.J (a0.tmod (60 : Int)) _ hx3) nocal)) ?_
        have h := Option.some.inj h
        subst h
        exact .fin0 [] (S ((x2 ++ (⟨#[58]⟩ : ByteArray)) ++ x3)) [] aln (.z .s)
      · rw [if_neg c3] at h
        cases h
    · rw [if_neg c2] at h
      cases h
  · rw [if_neg c1] at h
    refine .cond' (.tmp 5) true [c_ 52, c_ 53, c_ 7] (bT (nT (vF c1))) ?_
    refine .reg' [2] [] ⟨[(2, (S (⟨#[]⟩ : ByteArray)))], [], [], []⟩ [c_ 53, c_ 7] aln nocal ?_
    have h := Option.some.inj h
    subst h
    exact .fin0 [] (S (⟨#[]⟩ : ByteArray)) [] aln (.z .s)
/-! impl_TripText: function 11 -/
def impl_TripText.l0 : Nat → S28 → ByteArray → Int → Option ByteArray
 | 0, _, _, _ => none
 | k + 1, a0, x2, x3 => (if x3 < (a0.f1.length : Int) then (if 0 ≤ x3 then ((strconv_Itoa.f ((at_ a0.f1 x3).f0)).bind fun x4 => (if (⟨#[32]⟩ : ByteArray).size + x4.size ≤ 9223372036854775807 then (if ((⟨#[32]⟩ : ByteArray) ++ x4).size + (⟨#[64]⟩ : ByteArray).size ≤ 9223372036854775807 then ((impl_TimeText.f ((at_ a0.f1 x3).f1)).bind fun x5 => (if (((⟨#[32]⟩ : ByteArray) ++ x4) ++ (⟨#[64]⟩ : ByteArray)).size + x5.size ≤ 9223372036854775807 then (if ((((⟨#[32]⟩ : ByteArray) ++ x4) ++ (⟨#[64]⟩ : ByteArray)) ++ x5).size + (⟨#[45]⟩ : ByteArray).size ≤ 9223372036854775807 then ((impl_TimeText.f ((at_ a0.f1 x3).f2)).bind fun x6 => (if (((((⟨#[32]⟩ : ByteArray) ++ x4) ++ (⟨#[64]⟩ : ByteArray)) ++ x5) ++ (⟨#[45]⟩ : ByteArray)).size + x6.size ≤ 9223372036854775807 then (if x2.size + ((((((⟨#[32]⟩ : ByteArray) ++ x4) ++ (⟨#[64]⟩ : ByteArray)) ++ x5) ++ (⟨#[45]⟩ : ByteArray)) ++ x6).size ≤ 9223372036854775807 then (impl_TripText.l0 k a0 (x2 ++ ((((((⟨#[32]⟩ : ByteArray) ++ x4) ++ (⟨#[64]⟩ : ByteArray)) ++ x5) ++ (⟨#[45]⟩ : ByteArray)) ++ x6)) (wrap64 (x3 + 1))) else none) else none)) else none) else none)) else none) else none)) else none) else (some x2))
def impl_TripText.f (k : Nat) (a0 : S28) : Option ByteArray := ((impl_TripOk.f k a0).bind fun x1 => (if x1 = true then (impl_TripText.l0 k a0 a0.f0 0) else (some (⟨#[]⟩ : ByteArray))))
theorem impl_TripText.lab : ∀ k, (∀ (a0 : S28) (x2 : ByteArray) (x3 : Int) (r : ByteArray), impl_TripText.l0 k a0 x2 x3 = some r → J prog (.run 11 [] [l_ 122, b_ 0, c_ 31] [(3, (S x2)), (12, (.sl true a0.f1.length 3 (a0.f1.flatMap e48))), (13, (I (a0.f1.length : Int))), (14, (I x3))] [] (S r) []))
 | 0 => (by intro a0 x2 x3 r h; unfold impl_TripText.l0 at h; cases h)
 | k + 1 => by
  have ih0 := impl_TripText.lab k
  · intro a0 x2 x3 r h
    unfold impl_TripText.l0 at h
    refine .loop' [c_ 488, c_ 489, l_ 122, b_ 0, c_ 31] ?_
    refine .reg' [3, 12, 13, 14, 15] [] ⟨[(3, (S x2)), (12, (.sl true a0.f1.length 3 (a0.f1.flatMap e48))), (13, (I (a0.f1.length : Int))), (14, (I x3)), (15, (B (decide (x3 < (a0.f1.length : Int)))))], [], [], []⟩ [c_ 978, c_ 979, l_ 122, b_ 0, c_ 31] aln nocal ?_
    by_cases c2 : x3 < (a0.f1.length : Int)
    · rw [if_pos c2] at h
      refine .cond' (.tmp 15) true [c_ 7832, c_ 7833, b_ 1, c_ 1959, l_ 122, b_ 0, c_ 31] (bT (dT c2)) ?_
      by_cases c3 : 0 ≤ x3
      · rw [if_pos c3] at h
        refine .reg' [3, 5, 12, 13, 14] [.no, .v (.ag [(I (at_ a0.f1 x3).f0), (I (at_ a0.f1 x3).f1), (I (at_ a0.f1 x3).f2)])] ⟨[(3, (S x2)), (5, (.pt 1794 0 3)), (12, (.sl true a0.f1.length 3 (a0.f1.flatMap e48))), (13, (I (a0.f1.length : Int))), (14, (I x3))], [(1794, [(I (at_ a0.f1 x3).f0), (I (at_ a0.f1 x3).f1), (I (at_ a0.f1 x3).f2)])], [(0 : Int) ≤ x3 ∧ x3 < (a0.f1.length : Int), rdC prog 49 ((a0.f1.flatMap e48).drop (x3.toNat * 3)) = (.ag [(I (at_ a0.f1 x3).f0), (I (at_ a0.f1 x3).f1), (I (at_ a0.f1 x3).f2)]), 3 ≤ ((a0.f1.flatMap e48).drop (x3.toNat * 3)).length, 3 = 3 ∧ 0 + 3 ≤ 3], []⟩ [c_ 7833, b_ 1, c_ 1959, l_ 122, b_ 0, c_ 31] (alc ⟨c3, c2⟩ (alc (ldA e48_ok rfl rfl c3 c2) (alc (okI e48_ok c3 c2 (by decide)) (alc ⟨rfl, by decide⟩ aln)))) nocal ?_
        obtain ⟨x4, hx4, h⟩ := Option.bind_eq_some_iff.mp h
        by_cases c4 : (⟨#[32]⟩ : ByteArray).size + x4.size ≤ 9223372036854775807
        · rw [if_pos c4] at h
          by_cases c5 : ((⟨#[32]⟩ : ByteArray) ++ x4).size + (⟨#[64]⟩ : ByteArray).size ≤ 9223372036854775807
          · rw [if_pos c5] at h
            obtain ⟨x5, hx5, h⟩ := Option.bind_eq_some_iff.mp h
            by_cases c6 : (((⟨#[32]⟩ : ByteArray) ++ x4) ++ (⟨#[64]⟩ : ByteArray)).size + x5.size ≤ 9223372036854775807
            · rw [if_pos c6] at h
              by_cases c7 : ((((⟨#[32]⟩ : ByteArray) ++ x4) ++ (⟨#[64]⟩ : ByteArray)) ++ x5).size + (⟨#[45]⟩ : ByteArray).size ≤ 9223372036854775807
              · rw [if_pos c7] at h
                obtain ⟨x6, hx6, h⟩ := Option.bind_eq_some_iff.mp h
                by_cases c8 : (((((⟨#[32]⟩ : ByteArray) ++ x4) ++ (⟨#[64]⟩ : ByteArray)) ++ x5) ++ (⟨#[45]⟩ : ByteArray)).size + x6.size ≤ 9223372036854775807
                · rw [if_pos c8] at h
                  by_cases c9 : x2.size + ((((((⟨#[32]⟩ : ByteArray) ++ x4) ++ (⟨#[64]⟩ : ByteArray)) ++ x5) ++ (⟨#[45]⟩ : ByteArray)) ++ x6).size ≤ 9223372036854775807
                  · rw [if_pos c9] at h
                    refine .reg' [3, 12, 13, 14] [.no, .no, .no, .c ⟨35, [(I (at_ a0.f1 x3).f0)], [], (S x4), [], [], [], [], (S x4), []⟩, .no, .no, .no, .no, .c ⟨36, [(I (at_ a0.f1 x3).f1)], [], (S x5), [], [], [], [], (S x5), []⟩, .no, .no, .no, .no, .c ⟨36, [(I (at_ a0.f1 x3).f2)], [], (S x6), [], [], [], [], (S x6), []⟩] ⟨[(3, (S (x2 ++ ((((((⟨#[32]⟩ : ByteArray) ++ x4) ++ (⟨#[64]⟩ : ByteArray)) ++ x5) ++ (⟨#[45]⟩ : ByteArray)) ++ x6)))), (12, (.sl true a0.f1.length 3 (a0.f1.flatMap e48))), (13, (I (a0.f1.length : Int))), (14, (I x3))], [(1794, [(I (at_ a0.f1 x3).f0), (I (at_ a0.f1 x3).f1), (I (at_ a0.f1 x3).f2)])], [3 = 3 ∧ 0 + 1 ≤ 3, COK (hget [(1794, [(I (at_ a0.f1 x3).f0), (I (at_ a0.f1 x3).f1), (I (at_ a0.f1 x3).f2)])]) [(I (at_ a0.f1 x3).f0)] ⟨35, [(I (at_ a0.f1 x3).f0)], [], (S x4), [], [], [], [], (S x4), []⟩, (⟨#[32]⟩ : ByteArray).size + x4.size ≤ 9223372036854775807, ((⟨#[32]⟩ : ByteArray) ++ x4).size + (⟨#[64]⟩ : ByteArray).size ≤ 9223372036854775807, 3 = 3 ∧ 1 + 1 ≤ 3, COK (hget [(1794, [(I (at_ a0.f1 x3).f0), (I (at_ a0.f1 x3).f1), (I (at_ a0.f1 x3).f2)])]) [(I (at_ a0.f1 x3).f1)] ⟨36, [(I (at_ a0.f1 x3).f1)], [], (S x5), [], [], [], [], (S x5), []⟩, (((⟨#[32]⟩ : ByteArray) ++ x4) ++ (⟨#[64]⟩ : ByteArray)).size + x5.size ≤ 9223372036854775807, ((((⟨#[32]⟩ : ByteArray) ++ x4) ++ (⟨#[64]⟩ : ByteArray)) ++ x5).size + (⟨#[45]⟩ : ByteArray).size ≤ 9223372036854775807, 3 = 3 ∧ 2 + 1 ≤ 3, COK (hget [(1794, [(I (at_ a0.f1 x3).f0), (I (at_ a0.f1 x3).f1), (I (at_ a0.f1 x3).f2)])]) [(I (at_ a0.f1 x3).f2)] ⟨36, [(I (at_ a0.f1 x3).f2)], [], (S x6), [], [], [], [], (S x6), []⟩, (((((⟨#[32]⟩ : ByteArray) ++ x4) ++ (⟨#[64]⟩ : ByteArray)) ++ x5) ++ (⟨#[45]⟩ : ByteArray)).size + x6.size ≤ 9223372036854775807, x2.size + ((((((⟨#[32]⟩ : ByteArray) ++ x4) ++ (⟨#[64]⟩ : ByteArray)) ++ x5) ++ (⟨#[45]⟩ : ByteArray)) ++ x6).size ≤ 9223372036854775807], [⟨35, [(I (at_ a0.f1 x3).f0)], [], (S x4), [], [], [], [], (S x4), []⟩, ⟨36, [(I (at_ a0.f1 x3).f1)], [], (S x5), [], [], [], [], (S x5), []⟩, ⟨36, [(I (at_ a0.f1 x3).f2)], [], (S x6), [], [], [], [], (S x6), []⟩]⟩ [c_ 1959, l_ 122, b_ 0, c_ 31] (alc ⟨rfl, by decide⟩ (alc (cok0 false (a2c (.z .s) a2n) (.z .s) (fun h => absurd h (by decide))) (alc c4 (alc c5 (alc ⟨rfl, by decide⟩ (alc (cok0 false (a2c (.z .s) a2n) (.z .s) (fun h => absurd h (by decide))) (alc c6 (alc c7 (alc ⟨rfl, by decide⟩ (alc (cok0 false (a2c (.z .s) a2n) (.z .s) (fun h => absurd h (by decide))) (alc c8 (alc c9 aln)))))))))))) (acal (strconv_Itoa.J ((at_ a0.f1 x3).f0) _ hx4) (acal (impl_TimeText.J ((at_ a0.f1 x3).f1) _ hx5) (acal (impl_TimeText.J ((at_ a0.f1 x3).f2) _ hx6) nocal))) ?_
                    refine .reg' [3, 12, 13, 14] [] ⟨[(3, (S (x2 ++ ((((((⟨#[32]⟩ : ByteArray) ++ x4) ++ (⟨#[64]⟩ : ByteArray)) ++ x5) ++ (⟨#[45]⟩ : ByteArray)) ++ x6)))), (12, (.sl true a0.f1.length 3 (a0.f1.flatMap e48))), (13, (I (a0.f1.length : Int))), (14, (I (wrap64 (x3 + 1))))], [(1794, [(I (at_ a0.f1 x3).f0), (I (at_ a0.f1 x3).f1), (I (at_ a0.f1 x3).f2)])], [], []⟩ [l_ 122, b_ 0, c_ 31] aln nocal ?_
                    refine .wk' [] [] [(3, (S (x2 ++ ((((((⟨#[32]⟩ : ByteArray) ++ x4) ++ (⟨#[64]⟩ : ByteArray)) ++ x5) ++ (⟨#[45]⟩ : ByteArray)) ++ x6)))), (12, (.sl true a0.f1.length 3 (a0.f1.flatMap e48))), (13, (I (a0.f1.length : Int))), (14, (I (wrap64 (x3 + 1))))] [] shn (enc_ (.z .s) (enc_ (.z (frz_sl e48_ok (fun h => h))) (enc_ (.z .s) (enc_ (.z .s) enn)))) ?_
                    exact ih0 a0 (x2 ++ ((((((⟨#[32]⟩ : ByteArray) ++ x4) ++ (⟨#[64]⟩ : ByteArray)) ++ x5) ++ (⟨#[45]⟩ : ByteArray)) ++ x6)) (wrap64 (x3 + 1)) _ h
                  · rw [if_neg c9] at h
                    cases h
                · rw [if_neg c8] at h
                  cases h
              · rw [if_neg c7] at h
                cases h
            · rw [if_neg c6] at h
              cases h
          · rw [if_neg c5] at h
            cases h
        · rw [if_neg c4] at h
          cases h
      · rw [if_neg c3] at h
        cases h
    · rw [if_neg c2] at h
      refine .cond' (.tmp 15) false [c_ 62, c_ 63] (bF (dF c2)) ?_
      refine .reg' [2] [] ⟨[(2, (S x2))], [], [], []⟩ [c_ 63] aln nocal ?_
      have h := Option.some.inj h
      subst h
      exact .fin0 [] (S x2) [] aln (.z .s)
theorem impl_TripText.J (k : Nat) (a0 : S28) (r : ByteArray) (h : impl_TripText.f k a0 = some r) : J prog (.call 11 [(.ag [(S a0.f0), (.sl true a0.f1.length 3 (a0.f1.flatMap e48))])] [] (S r) []) := by
  unfold impl_TripText.f at h
  have ih0 := impl_TripText.lab k
  refine .call' [c_ 2, c_ 3] ?_
  refine .reg' [1] [] ⟨[(1, (.pt 256 0 2))], [(256, [(S a0.f0), (.sl true a0.f1.length 3 (a0.f1.flatMap e48))])], [], []⟩ [c_ 12, c_ 13, c_ 7] aln nocal ?_
  obtain ⟨x1, hx1, h⟩ := Option.bind_eq_some_iff.mp h
  refine .reg' [1, 8] [.no, .c ⟨24, [(.ag [(S a0.f0), (.sl true a0.f1.length 3 (a0.f1.flatMap e48))])], [], (B x1), [], [], [], [], (B x1), []⟩] ⟨[(1, (.pt 256 0 2)), (8, (B (!x1)))], [(256, [(S a0.f0), (.sl true a0.f1.length 3 (a0.f1.flatMap e48))])], [2 = 2 ∧ 0 + 2 ≤ 2, COK (hget [(256, [(S a0.f0), (.sl true a0.f1.length 3 (a0.f1.flatMap e48))])]) [(.ag [(S a0.f0), (.sl true a0.f1.length 3 (a0.f1.flatMap e48))])] ⟨24, [(.ag [(S a0.f0), (.sl true a0.f1.length 3 (a0.f1.flatMap e48))])], [], (B x1), [], [], [], [], (B x1), []⟩], [⟨24, [(.ag [(S a0.f0), (.sl true a0.f1.length 3 (a0.f1.flatMap e48))])], [], (B x1), [], [], [], [], (B x1), []⟩]⟩ [c_ 13, c_ 7] (alc ⟨rfl, by decide⟩ (alc (cok0 false (a2c (.z (frz_ag (a2c .s (a2c (frz_sl e48_ok (fun h => h)) a2n)))) a2n) (.z .s) (fun h => absurd h (by decide))) aln)) (acal (impl_TripOk.J k a0 _ hx1) nocal) ?_
  by_cases c1 : x1 = true
  · rw [if_pos c1] at h
    refine .cond' (.tmp 8) false [c_ 14, c_ 15] (bF (nF c1)) ?_
    refine .reg' [1, 3] [] ⟨[(1, (.pt 256 0 2)), (3, (S a0.f0))], [(256, [(S a0.f0), (.sl true a0.f1.length 3 (a0.f1.flatMap e48))])], [2 = 2 ∧ 0 + 1 ≤ 2], []⟩ [c_ 60, c_ 61, c_ 31] (alc ⟨rfl, by decide⟩ aln) nocal ?_
    refine .reg' [3, 12, 13, 14] [] ⟨[(3, (S a0.f0)), (12, (.sl true a0.f1.length 3 (a0.f1.flatMap e48))), (13, (I (a0.f1.length : Int))), (14, (I 0))], [(256, [(S a0.f0), (.sl true a0.f1.length 3 (a0.f1.flatMap e48))])], [2 = 2 ∧ 1 + 1 ≤ 2], []⟩ [l_ 122, b_ 0, c_ 31] (alc ⟨rfl, by decide⟩ aln) nocal ?_
    refine .wk' [] [] [(3, (S a0.f0)), (12, (.sl true a0.f1.length 3 (a0.f1.flatMap e48))), (13, (I (a0.f1.length : Int))), (14, (I 0))] [] shn (enc_ (.z .s) (enc_ (.z (frz_sl e48_ok (fun h => h))) (enc_ (.z .s) (enc_ (.z .s) enn)))) ?_
    exact ih0 a0 a0.f0 0 _ h
  · rw [if_neg c1] at h
    refine .cond' (.tmp 8) true [c_ 52, c_ 53, c_ 7] (bT (nT (vF c1))) ?_
    refine .reg' [2] [] ⟨[(2, (S (⟨#[]⟩ : ByteArray)))], [(256, [(S a0.f0), (.sl true a0.f1.length 3 (a0.f1.flatMap e48))])], [], []⟩ [c_ 53, c_ 7] aln nocal ?_
    have h := Option.some.inj h
    subst h
    exact .fin0 [] (S (⟨#[]⟩ : ByteArray)) [] aln (.z .s)
/-! laws_eqCall: function 62 -/
def laws_eqCall.f (a0 : S48) (a1 : S48) : Option Bool := (if a0.f0 = a1.f0 then (if a0.f1 = a1.f1 then (if a0.f2 = a1.f2 then (some true) else (some false)) else (some false)) else (some false))
theorem laws_eqCall.J (a0 : S48) (a1 : S48) (r : Bool) (h : laws_eqCall.f a0 a1 = some r) : J prog (.call 62 [(.ag [(I a0.f0), (I a0.f1), (I a0.f2)]), (.ag [(I a1.f0), (I a1.f1), (I a1.f2)])] [] (B r) []) := by
  unfold laws_eqCall.f at h
  refine .call' [c_ 2, c_ 3] ?_
  refine .reg' [2, 3] [] ⟨[(2, (.pt 256 0 3)), (3, (.pt 257 0 3))], [(256, [(I a0.f0), (I a0.f1), (I a0.f2)]), (257, [(I a1.f0), (I a1.f1), (I a1.f2)])], [], []⟩ [c_ 12, c_ 13, c_ 7] aln nocal ?_
  refine .reg' [2, 3, 9] [] ⟨[(2, (.pt 256 0 3)), (3, (.pt 257 0 3)), (9, (B (!(a0.f0 == a1.f0))))], [(256, [(I a0.f0), (I a0.f1), (I a0.f2)]), (257, [(I a1.f0), (I a1.f1), (I a1.f2)])], [3 = 3 ∧ 0 + 1 ≤ 3, 3 = 3 ∧ 0 + 1 ≤ 3], []⟩ [c_ 13, c_ 7] (alc ⟨rfl, by decide⟩ (alc ⟨rfl, by decide⟩ aln)) nocal ?_
  by_cases c1 : a0.f0 = a1.f0
  · rw [if_pos c1] at h
    refine .cond' (.tmp 9) false [c_ 28, c_ 29, c_ 15] (bF (nF (qT c1))) ?_
    refine .reg' [2, 3, 14] [] ⟨[(2, (.pt 256 0 3)), (3, (.pt 257 0 3)), (14, (B (!(a0.f1 == a1.f1))))], [(256, [(I a0.f0), (I a0.f1), (I a0.f2)]), (257, [(I a1.f0), (I a1.f1), (I a1.f2)])], [3 = 3 ∧ 1 + 1 ≤ 3, 3 = 3 ∧ 1 + 1 ≤ 3], []⟩ [c_ 29, c_ 15] (alc ⟨rfl, by decide⟩ (alc ⟨rfl, by decide⟩ aln)) nocal ?_
    by_cases c2 : a0.f1 = a1.f1
    · rw [if_pos c2] at h
      refine .cond' (.tmp 14) false [c_ 60, c_ 61, c_ 31] (bF (nF (qT c2))) ?_
      refine .reg' [19] [] ⟨[(19, (B (!(a0.f2 == a1.f2))))], [(256, [(I a0.f0), (I a0.f1), (I a0.f2)]), (257, [(I a1.f0), (I a1.f1), (I a1.f2)])], [3 = 3 ∧ 2 + 1 ≤ 3, 3 = 3 ∧ 2 + 1 ≤ 3], []⟩ [c_ 61, c_ 31] (alc ⟨rfl, by decide⟩ (alc ⟨rfl, by decide⟩ aln)) nocal ?_
      by_cases c3 : a0.f2 = a1.f2
      · rw [if_pos c3] at h
        refine .cond' (.tmp 19) false [c_ 62, c_ 63] (bF (nF (qT c3))) ?_
        refine .reg' [4] [] ⟨[(4, (B true))], [(256, [(I a0.f0), (I a0.f1), (I a0.f2)]), (257, [(I a1.f0), (I a1.f1), (I a1.f2)])], [], []⟩ [c_ 63] aln nocal ?_
        have h := Option.some.inj h
        subst h
        exact .fin0 [] (B true) [] aln (.z .s)
      · rw [if_neg c3] at h
        refine .cond' (.tmp 19) true [c_ 244, c_ 245, c_ 31] (bT (nT (qF c3))) ?_
        refine .reg' [4] [] ⟨[(4, (B false))], [(256, [(I a0.f0), (I a0.f1), (I a0.f2)]), (257, [(I a1.f0), (I a1.f1), (I a1.f2)])], [], []⟩ [c_ 245, c_ 31] aln nocal ?_
        have h := Option.some.inj h
        subst h
        exact .fin0 [] (B false) [] aln (.z .s)
    · rw [if_neg c2] at h
      refine .cond' (.tmp 14) true [c_ 116, c_ 117, c_ 15] (bT (nT (qF c2))) ?_
      refine .reg' [4] [] ⟨[(4, (B false))], [(256, [(I a0.f0), (I a0.f1), (I a0.f2)]), (257, [(I a1.f0), (I a1.f1), (I a1.f2)])], [], []⟩ [c_ 117, c_ 15] aln nocal ?_
      have h := Option.some.inj h
      subst h
      exact .fin0 [] (B false) [] aln (.z .s)
  · rw [if_neg c1] at h
    refine .cond' (.tmp 9) true [c_ 52, c_ 53, c_ 7] (bT (nT (qF c1))) ?_
    refine .reg' [4] [] ⟨[(4, (B false))], [(256, [(I a0.f0), (I a0.f1), (I a0.f2)]), (257, [(I a1.f0), (I a1.f1), (I a1.f2)])], [], []⟩ [c_ 53, c_ 7] aln nocal ?_
    have h := Option.some.inj h
    subst h
    exact .fin0 [] (B false) [] aln (.z .s)
/-! laws_eqCallS: function 37 -/
def laws_eqCallS.l0 : Nat → (List S48) → (List S48) → Int → Option Bool
 | 0, _, _, _ => none
 | k + 1, a0, a1, x1 => (if x1 < (a0.length : Int) then (if 0 ≤ x1 then (if x1 < (a1.length : Int) then ((laws_eqCall.f (at_ a0 x1) (at_ a1 x1)).bind fun x2 => (if x2 = true then (laws_eqCallS.l0 k a0 a1 (wrap64 (x1 + 1))) else (some false))) else none) else none) else (some true))
def laws_eqCallS.f (k : Nat) (a0 : (List S48)) (a1 : (List S48)) : Option Bool := (if (a0.length : Int) = (a1.length : Int) then (laws_eqCallS.l0 k a0 a1 0) else (some false))
theorem laws_eqCallS.lab : ∀ k, (∀ (a0 : (List S48)) (a1 : (List S48)) (x1 : Int) (r : Bool), laws_eqCallS.l0 k a0 a1 x1 = some r → J prog (.run 37 [] [l_ 58, b_ 0, c_ 15] [(0, (.sl true a0.length 3 (a0.flatMap e48))), (1, (.sl true a1.length 3 (a1.flatMap e48))), (5, (I x1))] [] (B r) []))
 | 0 => (by intro a0 a1 x1 r h; unfold laws_eqCallS.l0 at h; cases h)
 | k + 1 => by
  have ih0 := laws_eqCallS.lab k
  · intro a0 a1 x1 r h
    unfold laws_eqCallS.l0 at h
    refine .loop' [c_ 464, c_ 465, c_ 233, l_ 58, b_ 0, c_ 15] ?_
    refine .reg' [0, 1, 5, 14] [] ⟨[(0, (.sl true a0.length 3 (a0.flatMap e48))), (1, (.sl true a1.length 3 (a1.flatMap e48))), (5, (I x1)), (14, (B (decide (x1 < (a0.length : Int)))))], [], [], []⟩ [c_ 465, c_ 233, l_ 58, b_ 0, c_ 15] aln nocal ?_
    by_cases c2 : x1 < (a0.length : Int)
    · rw [if_pos c2] at h
      refine .cond' (.tmp 14) true [c_ 1864, c_ 1865, b_ 1, c_ 467, l_ 58, b_ 0, c_ 15] (bT (dT c2)) ?_
      by_cases c3 : 0 ≤ x1
      · rw [if_pos c3] at h
        by_cases c4 : x1 < (a1.length : Int)
        · rw [if_pos c4] at h
          obtain ⟨x2, hx2, h⟩ := Option.bind_eq_some_iff.mp h
          refine .reg' [0, 1, 5, 26] [.no, .no, .no, .v (.ag [(I (at_ a0 x1).f0), (I (at_ a0 x1).f1), (I (at_ a0 x1).f2)]), .no, .no, .no, .v (.ag [(I (at_ a1 x1).f0), (I (at_ a1 x1).f1), (I (at_ a1 x1).f2)]), .c ⟨62, [(.ag [(I (at_ a0 x1).f0), (I (at_ a0 x1).f1), (I (at_ a0 x1).f2)]), (.ag [(I (at_ a1 x1).f0), (I (at_ a1 x1).f1), (I (at_ a1 x1).f2)])], [], (B x2), [], [], [], [], (B x2), []⟩] ⟨[(0, (.sl true a0.length 3 (a0.flatMap e48))), (1, (.sl true a1.length 3 (a1.flatMap e48))), (5, (I x1)), (26, (B (!x2)))], [], [(0 : Int) ≤ x1 ∧ x1 < (a0.length : Int), rdC prog 49 ((a0.flatMap e48).drop (x1.toNat * 3)) = (.ag [(I (at_ a0 x1).f0), (I (at_ a0 x1).f1), (I (at_ a0 x1).f2)]), 3 ≤ ((a0.flatMap e48).drop (x1.toNat * 3)).length, (0 : Int) ≤ x1 ∧ x1 < (a1.length : Int), rdC prog 49 ((a1.flatMap e48).drop (x1.toNat * 3)) = (.ag [(I (at_ a1 x1).f0), (I (at_ a1 x1).f1), (I (at_ a1 x1).f2)]), 3 ≤ ((a1.flatMap e48).drop (x1.toNat * 3)).length, COK (hget []) [(.ag [(I (at_ a0 x1).f0), (I (at_ a0 x1).f1), (I (at_ a0 x1).f2)]), (.ag [(I (at_ a1 x1).f0), (I (at_ a1 x1).f1), (I (at_ a1 x1).f2)])] ⟨62, [(.ag [(I (at_ a0 x1).f0), (I (at_ a0 x1).f1), (I (at_ a0 x1).f2)]), (.ag [(I (at_ a1 x1).f0), (I (at_ a1 x1).f1), (I (at_ a1 x1).f2)])], [], (B x2), [], [], [], [], (B x2), []⟩], [⟨62, [(.ag [(I (at_ a0 x1).f0), (I (at_ a0 x1).f1), (I (at_ a0 x1).f2)]), (.ag [(I (at_ a1 x1).f0), (I (at_ a1 x1).f1), (I (at_ a1 x1).f2)])], [], (B x2), [], [], [], [], (B x2), []⟩]⟩ [c_ 1865, b_ 1, c_ 467, l_ 58, b_ 0, c_ 15] (alc ⟨c3, c2⟩ (alc (ldA e48_ok rfl rfl c3 c2) (alc (okI e48_ok c3 c2 (by decide)) (alc ⟨c3, c4⟩ (alc (ldA e48_ok rfl rfl c3 c4) (alc (okI e48_ok c3 c4 (by decide)) (alc (cok0 false (a2c (.z (frz_ag (a2c .s (a2c .s (a2c .s a2n))))) (a2c (.z (frz_ag (a2c .s (a2c .s (a2c .s a2n))))) a2n)) (.z .s) (fun h => absurd h (by decide))) aln))))))) (acal (laws_eqCall.J (at_ a0 x1) (at_ a1 x1) _ hx2) nocal) ?_
          by_cases c5 : x2 = true
          · rw [if_pos c5] at h
            refine .cond' (.tmp 26) false [c_ 467, l_ 58, b_ 0, c_ 15] (bF (nF c5)) ?_
            refine .reg' [0, 1, 5] [] ⟨[(0, (.sl true a0.length 3 (a0.flatMap e48))), (1, (.sl true a1.length 3 (a1.flatMap e48))), (5, (I (wrap64 (x1 + 1))))], [], [], []⟩ [l_ 58, b_ 0, c_ 15] aln nocal ?_
            exact ih0 a0 a1 (wrap64 (x1 + 1)) _ h
          · rw [if_neg c5] at h
            refine .cond' (.tmp 26) true [c_ 7460, c_ 7461, b_ 1, c_ 467, l_ 58, b_ 0, c_ 15] (bT (nT (vF c5))) ?_
            refine .reg' [4] [] ⟨[(4, (B false))], [], [], []⟩ [c_ 7461, b_ 1, c_ 467, l_ 58, b_ 0, c_ 15] aln nocal ?_
            have h := Option.some.inj h
            subst h
            exact .fin0 [] (B false) [] aln (.z .s)
        · rw [if_neg c4] at h
          cases h
      · rw [if_neg c3] at h
        cases h
    · rw [if_neg c2] at h
      refine .cond' (.tmp 14) false [c_ 30, c_ 31] (bF (dF c2)) ?_
      refine .reg' [4] [] ⟨[(4, (B true))], [], [], []⟩ [c_ 31] aln nocal ?_
      have h := Option.some.inj h
      subst h
      exact .fin0 [] (B true) [] aln (.z .s)
theorem laws_eqCallS.J (k : Nat) (a0 : (List S48)) (a1 : (List S48)) (r : Bool) (h : laws_eqCallS.f k a0 a1 = some r) : J prog (.call 37 [(.sl true a0.length 3 (a0.flatMap e48)), (.sl true a1.length 3 (a1.flatMap e48))] [] (B r) []) := by
  unfold laws_eqCallS.f at h
  have ih0 := laws_eqCallS.lab k
  refine .call' [c_ 2, c_ 3] ?_
  refine .reg' [0, 1] [] ⟨[(0, (.sl true a0.length 3 (a0.flatMap e48))), (1, (.sl true a1.length 3 (a1.flatMap e48)))], [], [], []⟩ [c_ 12, c_ 13, c_ 7] aln nocal ?_
  refine .reg' [0, 1, 10] [] ⟨[(0, (.sl true a0.length 3 (a0.flatMap e48))), (1, (.sl true a1.length 3 (a1.flatMap e48))), (10, (B (!((a0.length : Int) == (a1.length : Int)))))], [], [], []⟩ [c_ 13, c_ 7] aln nocal ?_
  by_cases c1 : (a0.length : Int) = (a1.length : Int)
  · rw [if_pos c1] at h
    refine .cond' (.tmp 10) false [c_ 28, c_ 29, c_ 15] (bF (nF (qT c1))) ?_
    refine .reg' [0, 1, 5] [] ⟨[(0, (.sl true a0.length 3 (a0.flatMap e48))), (1, (.sl true a1.length 3 (a1.flatMap e48))), (5, (I 0))], [], [], []⟩ [l_ 58, b_ 0, c_ 15] aln nocal ?_
    exact ih0 a0 a1 0 _ h
  · rw [if_neg c1] at h
    refine .cond' (.tmp 10) true [c_ 52, c_ 53, c_ 7] (bT (nT (qF c1))) ?_
    refine .reg' [4] [] ⟨[(4, (B false))], [], [], []⟩ [c_ 53, c_ 7] aln nocal ?_
    have h := Option.some.inj h
    subst h
    exact .fin0 [] (B false) [] aln (.z .s)
/-! laws_eqTrip: function 12 -/
def laws_eqTrip.f (k : Nat) (a0 : S28) (a1 : S28) : Option Bool := (if (sEq a0.f0 a1.f0) = true then ((laws_eqCallS.f k a0.f1 a1.f1).bind fun x1 => (if x1 = true then (some true) else (some false))) else (some false))
theorem laws_eqTrip.J (k : Nat) (a0 : S28) (a1 : S28) (r : Bool) (h : laws_eqTrip.f k a0 a1 = some r) : J prog (.call 12 [(.ag [(S a0.f0), (.sl true a0.f1.length 3 (a0.f1.flatMap e48))]), (.ag [(S a1.f0), (.sl true a1.f1.length 3 (a1.f1.flatMap e48))])] [] (B r) []) := by
  unfold laws_eqTrip.f at h
  refine .call' [c_ 2, c_ 3] ?_
  refine .reg' [2, 3] [] ⟨[(2, (.pt 256 0 2)), (3, (.pt 257 0 2))], [(256, [(S a0.f0), (.sl true a0.f1.length 3 (a0.f1.flatMap e48))]), (257, [(S a1.f0), (.sl true a1.f1.length 3 (a1.f1.flatMap e48))])], [], []⟩ [c_ 12, c_ 13, c_ 7] aln nocal ?_
  refine .reg' [2, 3, 9] [] ⟨[(2, (.pt 256 0 2)), (3, (.pt 257 0 2)), (9, (B (!(sEq a0.f0 a1.f0))))], [(256, [(S a0.f0), (.sl true a0.f1.length 3 (a0.f1.flatMap e48))]), (257, [(S a1.f0), (.sl true a1.f1.length 3 (a1.f1.flatMap e48))])], [2 = 2 ∧ 0 + 1 ≤ 2, 2 = 2 ∧ 0 + 1 ≤ 2], []⟩ [c_ 13, c_ 7] (alc ⟨rfl, by decide⟩ (alc ⟨rfl, by decide⟩ aln)) nocal ?_
  by_cases c1 : (sEq a0.f0 a1.f0) = true
  · rw [if_pos c1] at h
    refine .cond' (.tmp 9) false [c_ 28, c_ 29, c_ 15] (bF (nF c1)) ?_
    obtain ⟨x1, hx1, h⟩ := Option.bind_eq_some_iff.mp h
    refine .reg' [15] [.no, .no, .no, .no, .c ⟨37, [(.sl true a0.f1.length 3 (a0.f1.flatMap e48)), (.sl true a1.f1.length 3 (a1.f1.flatMap e48))], [], (B x1), [], [], [], [], (B x1), []⟩] ⟨[(15, (B (!x1)))], [(256, [(S a0.f0), (.sl true a0.f1.length 3 (a0.f1.flatMap e48))]), (257, [(S a1.f0), (.sl true a1.f1.length 3 (a1.f1.flatMap e48))])], [2 = 2 ∧ 1 + 1 ≤ 2, 2 = 2 ∧ 1 + 1 ≤ 2, COK (hget [(256, [(S a0.f0), (.sl true a0.f1.length 3 (a0.f1.flatMap e48))]), (257, [(S a1.f0), (.sl true a1.f1.length 3 (a1.f1.flatMap e48))])]) [(.sl true a0.f1.length 3 (a0.f1.flatMap e48)), (.sl true a1.f1.length 3 (a1.f1.flatMap e48))] ⟨37, [(.sl true a0.f1.length 3 (a0.f1.flatMap e48)), (.sl true a1.f1.length 3 (a1.f1.flatMap e48))], [], (B x1), [], [], [], [], (B x1), []⟩], [⟨37, [(.sl true a0.f1.length 3 (a0.f1.flatMap e48)), (.sl true a1.f1.length 3 (a1.f1.flatMap e48))], [], (B x1), [], [], [], [], (B x1), []⟩]⟩ [c_ 29, c_ 15] (alc ⟨rfl, by decide⟩ (alc ⟨rfl, by decide⟩ (alc (cok0 false (a2c (.z (frz_sl e48_ok (fun h => h))) (a2c (.z (frz_sl e48_ok (fun h => h))) a2n)) (.z .s) (fun h => absurd h (by decide))) aln))) (acal (laws_eqCallS.J k a0.f1 a1.f1 _ hx1) nocal) ?_
    by_cases c2 : x1 = true
    · rw [if_pos c2] at h
      refine .cond' (.tmp 15) false [c_ 30, c_ 31] (bF (nF c2)) ?_
      refine .reg' [4] [] ⟨[(4, (B true))], [(256, [(S a0.f0), (.sl true a0.f1.length 3 (a0.f1.flatMap e48))]), (257, [(S a1.f0), (.sl true a1.f1.length 3 (a1.f1.flatMap e48))])], [], []⟩ [c_ 31] aln nocal ?_
      have h := Option.some.inj h
      subst h
      exact .fin0 [] (B true) [] aln (.z .s)
    · rw [if_neg c2] at h
      refine .cond' (.tmp 15) true [c_ 116, c_ 117, c_ 15] (bT (nT (vF c2))) ?_
      refine .reg' [4] [] ⟨[(4, (B false))], [(256, [(S a0.f0), (.sl true a0.f1.length 3 (a0.f1.flatMap e48))]), (257, [(S a1.f0), (.sl true a1.f1.length 3 (a1.f1.flatMap e48))])], [], []⟩ [c_ 117, c_ 15] aln nocal ?_
      have h := Option.some.inj h
      subst h
      exact .fin0 [] (B false) [] aln (.z .s)
  · rw [if_neg c1] at h
    refine .cond' (.tmp 9) true [c_ 52, c_ 53, c_ 7] (bT (nT (vF c1))) ?_
    refine .reg' [4] [] ⟨[(4, (B false))], [(256, [(S a0.f0), (.sl true a0.f1.length 3 (a0.f1.flatMap e48))]), (257, [(S a1.f0), (.sl true a1.f1.length 3 (a1.f1.flatMap e48))])], [], []⟩ [c_ 53, c_ 7] aln nocal ?_
    have h := Option.some.inj h
    subst h
    exact .fin0 [] (B false) [] aln (.z .s)
/-! laws_FnExactTripText: function 3 -/
def laws_FnExactTripText.f (k : Nat) (a0 : S23) : Option Bool := ((laws_szTrip.f a0 1048576).bind fun x1 => (if x1 < 0 then (some true) else ((laws_toTrip.f k a0).bind fun x2 => ((spec_TripText.f k x2).bind fun x3 => ((laws_toTrip.f k a0).bind fun x4 => ((impl_TripText.f k x4).bind fun x5 => (if (sEq x5 x3) = true then ((laws_toTrip.f k a0).bind fun x6 => ((laws_eqTrip.f k x4 x6).bind fun x7 => (if x7 = true then (some true) else (some false)))) else (some false))))))))
theorem laws_FnExactTripText.J (k : Nat) (a0 : S23) (r : Bool) (h : laws_FnExactTripText.f k a0 = some r) : J prog (.call 3 [(.ag [(S a0.f0), (.sl true a0.f1.length 3 (a0.f1.flatMap e48))])] [] (B r) []) := by
  unfold laws_FnExactTripText.f at h
  refine .call' [c_ 2, c_ 3] ?_
  refine .reg' [1] [] ⟨[(1, (.pt 256 0 2))], [(256, [(S a0.f0), (.sl true a0.f1.length 3 (a0.f1.flatMap e48))])], [], []⟩ [c_ 6, c_ 7] aln nocal ?_
  refine .reg' [1, 3] [] ⟨[(1, (.pt 256 0 2)), (3, (I 1048576))], [(256, [(S a0.f0), (.sl true a0.f1.length 3 (a0.f1.flatMap e48))])], [], []⟩ [c_ 14, c_ 15] aln nocal ?_
  obtain ⟨x1, hx1, h⟩ := Option.bind_eq_some_iff.mp h
  refine .reg' [1, 3] [.no, .no, .c ⟨8, [(.ag [(S a0.f0), (.sl true a0.f1.length 3 (a0.f1.flatMap e48))]), (I 1048576)], [], (I x1), [], [], [], [], (I x1), []⟩] ⟨[(1, (.pt 256 0 2)), (3, (I x1))], [(256, [(S a0.f0), (.sl true a0.f1.length 3 (a0.f1.flatMap e48))])], [2 = 2 ∧ 0 + 2 ≤ 2, COK (hget [(256, [(S a0.f0), (.sl true a0.f1.length 3 (a0.f1.flatMap e48))])]) [(.ag [(S a0.f0), (.sl true a0.f1.length 3 (a0.f1.flatMap e48))]), (I 1048576)] ⟨8, [(.ag [(S a0.f0), (.sl true a0.f1.length 3 (a0.f1.flatMap e48))]), (I 1048576)], [], (I x1), [], [], [], [], (I x1), []⟩], [⟨8, [(.ag [(S a0.f0), (.sl true a0.f1.length 3 (a0.f1.flatMap e48))]), (I 1048576)], [], (I x1), [], [], [], [], (I x1), []⟩]⟩ [c_ 60, c_ 61, c_ 31] (alc ⟨rfl, by decide⟩ (alc (cok0 false (a2c (.z (frz_ag (a2c .s (a2c (frz_sl e48_ok (fun h => h)) a2n)))) (a2c (.z .s) a2n)) (.z .s) (fun h => absurd h (by decide))) aln)) (acal (laws_szTrip.J a0 1048576 _ hx1) nocal) ?_
  refine .reg' [1, 11] [] ⟨[(1, (.pt 256 0 2)), (11, (B (decide (x1 < 0))))], [(256, [(S a0.f0), (.sl true a0.f1.length 3 (a0.f1.flatMap e48))])], [], []⟩ [c_ 61, c_ 31] aln nocal ?_
  by_cases c1 : x1 < 0
  · rw [if_pos c1] at h
    refine .cond' (.tmp 11) true [c_ 244, c_ 245, c_ 31] (bT (dT c1)) ?_
    refine .reg' [2] [] ⟨[(2, (B true))], [(256, [(S a0.f0), (.sl true a0.f1.length 3 (a0.f1.flatMap e48))])], [], []⟩ [c_ 245, c_ 31] aln nocal ?_
    have h := Option.some.inj h
    subst h
    exact .fin0 [] (B true) [] aln (.z .s)
  · rw [if_neg c1] at h
    refine .cond' (.tmp 11) false [c_ 62, c_ 63] (bF (dF c1)) ?_
    obtain ⟨x2, hx2, h⟩ := Option.bind_eq_some_iff.mp h
    obtain ⟨x3, hx3, h⟩ := Option.bind_eq_some_iff.mp h
    refine .reg' [1, 4] [.no, .c ⟨10, [(.ag [(S a0.f0), (.sl true a0.f1.length 3 (a0.f1.flatMap e48))])], [], (.ag [(S x2.f0), (.rf 1001026 0 x2.f1.length 3 (x2.f1.length * 3))]), [(1001026, (x2.f1.flatMap e48))], [], [], [(1001537, 1001026)], (.ag [(S x2.f0), (.rf 1001537 0 x2.f1.length 3 (x2.f1.length * 3))]), [(1001537, (x2.f1.flatMap e48))]⟩, .c ⟨9, [(.ag [(S x2.f0), (.sl true x2.f1.length 3 (x2.f1.flatMap e48))])], [], (S x3), [], [1001537], [], [], (S x3), []⟩] ⟨[(1, (.pt 256 0 2)), (4, (S x3))], [(256, [(S a0.f0), (.sl true a0.f1.length 3 (a0.f1.flatMap e48))]), (1001537, (x2.f1.flatMap e48))], [2 = 2 ∧ 0 + 2 ≤ 2, COK (hget [(256, [(S a0.f0), (.sl true a0.f1.length 3 (a0.f1.flatMap e48))])]) [(.ag [(S a0.f0), (.sl true a0.f1.length 3 (a0.f1.flatMap e48))])] ⟨10, [(.ag [(S a0.f0), (.sl true a0.f1.length 3 (a0.f1.flatMap e48))])], [], (.ag [(S x2.f0), (.rf 1001026 0 x2.f1.length 3 (x2.f1.length * 3))]), [(1001026, (x2.f1.flatMap e48))], [], [], [(1001537, 1001026)], (.ag [(S x2.f0), (.rf 1001537 0 x2.f1.length 3 (x2.f1.length * 3))]), [(1001537, (x2.f1.flatMap e48))]⟩, COK (hget [(256, [(S a0.f0), (.sl true a0.f1.length 3 (a0.f1.flatMap e48))]), (1001537, (x2.f1.flatMap e48))]) [(.ag [(S x2.f0), (.rf 1001537 0 x2.f1.length 3 (x2.f1.length * 3))])] ⟨9, [(.ag [(S x2.f0), (.sl true x2.f1.length 3 (x2.f1.flatMap e48))])], [], (S x3), [], [1001537], [], [], (S x3), []⟩], [⟨10, [(.ag [(S a0.f0), (.sl true a0.f1.length 3 (a0.f1.flatMap e48))])], [], (.ag [(S x2.f0), (.rf 1001026 0 x2.f1.length 3 (x2.f1.length * 3))]), [(1001026, (x2.f1.flatMap e48))], [], [], [(1001537, 1001026)], (.ag [(S x2.f0), (.rf 1001537 0 x2.f1.length 3 (x2.f1.length * 3))]), [(1001537, (x2.f1.flatMap e48))]⟩, ⟨9, [(.ag [(S x2.f0), (.sl true x2.f1.length 3 (x2.f1.flatMap e48))])], [], (S x3), [], [1001537], [], [], (S x3), []⟩]⟩ [c_ 126, c_ 127] (alc ⟨rfl, by decide⟩ (alc (cokW false (a2c (.z (frz_ag (a2c .s (a2c (frz_sl e48_ok (fun h => h)) a2n)))) a2n) akn (akc (.inr rfl) akn) (bck_ag (a2c (.z .s) (a2c (.rf (memP_mem (p := (1001537, 1001026)) rfl)) a2n))) (akc ⟨_, _, rfl, rfl, rowB e48_c _⟩ akn) (fun h => absurd h (by decide))) (alc (cok0 false (a2c (cnv_ag (a2c (.z .s) (a2c (.z (frz_rf (k := 1001537) e48_ok (by simp) rfl rfl (row_len e48_ok _).symm)) a2n))) a2n) (.z .s) (fun h => absurd h (by decide))) aln))) (acal (laws_toTrip.J k a0 _ hx2) (acal (spec_TripText.J k x2 _ hx3) nocal)) ?_
    obtain ⟨x4, hx4, h⟩ := Option.bind_eq_some_iff.mp h
    refine .reg' [1, 4, 5] [.no, .c ⟨10, [(.ag [(S a0.f0), (.sl true a0.f1.length 3 (a0.f1.flatMap e48))])], [], (.ag [(S x4.f0), (.rf 1001026 0 x4.f1.length 3 (x4.f1.length * 3))]), [(1001026, (x4.f1.flatMap e48))], [], [], [(1001793, 1001026)], (.ag [(S x4.f0), (.rf 1001793 0 x4.f1.length 3 (x4.f1.length * 3))]), [(1001793, (x4.f1.flatMap e48))]⟩] ⟨[(1, (.pt 256 0 2)), (4, (S x3)), (5, (.pt 1794 0 2))], [(256, [(S a0.f0), (.sl true a0.f1.length 3 (a0.f1.flatMap e48))]), (1001537, (x2.f1.flatMap e48)), (1001793, (x4.f1.flatMap e48)), (1794, [(S x4.f0), (.rf 1001793 0 x4.f1.length 3 (x4.f1.length * 3))])], [2 = 2 ∧ 0 + 2 ≤ 2, COK (hget [(256, [(S a0.f0), (.sl true a0.f1.length 3 (a0.f1.flatMap e48))]), (1001537, (x2.f1.flatMap e48))]) [(.ag [(S a0.f0), (.sl true a0.f1.length 3 (a0.f1.flatMap e48))])] ⟨10, [(.ag [(S a0.f0), (.sl true a0.f1.length 3 (a0.f1.flatMap e48))])], [], (.ag [(S x4.f0), (.rf 1001026 0 x4.f1.length 3 (x4.f1.length * 3))]), [(1001026, (x4.f1.flatMap e48))], [], [], [(1001793, 1001026)], (.ag [(S x4.f0), (.rf 1001793 0 x4.f1.length 3 (x4.f1.length * 3))]), [(1001793, (x4.f1.flatMap e48))]⟩, 2 = 2 ∧ 0 + 2 ≤ 2], [⟨10, [(.ag [(S a0.f0), (.sl true a0.f1.length 3 (a0.f1.flatMap e48))])], [], (.ag [(S x4.f0), (.rf 1001026 0 x4.f1.length 3 (x4.f1.length * 3))]), [(1001026, (x4.f1.flatMap e48))], [], [], [(1001793, 1001026)], (.ag [(S x4.f0), (.rf 1001793 0 x4.f1.length 3 (x4.f1.length * 3))]), [(1001793, (x4.f1.flatMap e48))]⟩]⟩ [c_ 254, c_ 255] (alc ⟨rfl, by decide⟩ (alc (cokW false (a2c (.z (frz_ag (a2c .s (a2c (frz_sl e48_ok (fun h => h)) a2n)))) a2n) akn (akc (.inr rfl) akn) (bck_ag (a2c (.z .s) (a2c (.rf (memP_mem (p := (1001793, 1001026)) rfl)) a2n))) (akc ⟨_, _, rfl, rfl, rowB e48_c _⟩ akn) (fun h => absurd h (by decide))) (alc ⟨rfl, by decide⟩ aln))) (acal (laws_toTrip.J k a0 _ hx4) nocal) ?_
    obtain ⟨x5, hx5, h⟩ := Option.bind_eq_some_iff.mp h
    refine .reg' [1, 4, 5, 6] [.no, .c ⟨11, [(.ag [(S x4.f0), (.sl true x4.f1.length 3 (x4.f1.flatMap e48))])], [], (S x5), [], [1001793], [], [], (S x5), []⟩] ⟨[(1, (.pt 256 0 2)), (4, (S x3)), (5, (.pt 1794 0 2)), (6, (S x5))], [(256, [(S a0.f0), (.sl true a0.f1.length 3 (a0.f1.flatMap e48))]), (1001537, (x2.f1.flatMap e48)), (1001793, (x4.f1.flatMap e48)), (1794, [(S x4.f0), (.rf 1001793 0 x4.f1.length 3 (x4.f1.length * 3))])], [2 = 2 ∧ 0 + 2 ≤ 2, COK (hget [(256, [(S a0.f0), (.sl true a0.f1.length 3 (a0.f1.flatMap e48))]), (1001537, (x2.f1.flatMap e48)), (1001793, (x4.f1.flatMap e48)), (1794, [(S x4.f0), (.rf 1001793 0 x4.f1.length 3 (x4.f1.length * 3))])]) [(.ag [(S x4.f0), (.rf 1001793 0 x4.f1.length 3 (x4.f1.length * 3))])] ⟨11, [(.ag [(S x4.f0), (.sl true x4.f1.length 3 (x4.f1.flatMap e48))])], [], (S x5), [], [1001793], [], [], (S x5), []⟩], [⟨11, [(.ag [(S x4.f0), (.sl true x4.f1.length 3 (x4.f1.flatMap e48))])], [], (S x5), [], [1001793], [], [], (S x5), []⟩]⟩ [c_ 1020, c_ 1021, c_ 511] (alc ⟨rfl, by decide⟩ (alc (cok0 false (a2c (cnv_ag (a2c (.z .s) (a2c (.z (frz_rf (k := 1001793) e48_ok (by simp) rfl rfl (row_len e48_ok _).symm)) a2n))) a2n) (.z .s) (fun h => absurd h (by decide))) aln)) (acal (impl_TripText.J k x4 _ hx5) nocal) ?_
    refine .reg' [1, 5, 21] [] ⟨[(1, (.pt 256 0 2)), (5, (.pt 1794 0 2)), (21, (B (!(sEq x5 x3))))], [(256, [(S a0.f0), (.sl true a0.f1.length 3 (a0.f1.flatMap e48))]), (1001537, (x2.f1.flatMap e48)), (1001793, (x4.f1.flatMap e48)), (1794, [(S x4.f0), (.rf 1001793 0 x4.f1.length 3 (x4.f1.length * 3))])], [], []⟩ [c_ 1021, c_ 511] aln nocal ?_
    by_cases c2 : (sEq x5 x3) = true
    · rw [if_pos c2] at h
      refine .cond' (.tmp 21) false [c_ 2044, c_ 2045, c_ 1023] (bF (nF c2)) ?_
      obtain ⟨x6, hx6, h⟩ := Option.bind_eq_some_iff.mp h
      obtain ⟨x7, hx7, h⟩ := Option.bind_eq_some_iff.mp h
      refine .reg' [26] [.no, .no, .c ⟨10, [(.ag [(S a0.f0), (.sl true a0.f1.length 3 (a0.f1.flatMap e48))])], [], (.ag [(S x6.f0), (.rf 1001026 0 x6.f1.length 3 (x6.f1.length * 3))]), [(1001026, (x6.f1.flatMap e48))], [], [], [(1002818, 1001026)], (.ag [(S x6.f0), (.rf 1002818 0 x6.f1.length 3 (x6.f1.length * 3))]), [(1002818, (x6.f1.flatMap e48))]⟩, .c ⟨12, [(.ag [(S x4.f0), (.sl true x4.f1.length 3 (x4.f1.flatMap e48))]), (.ag [(S x6.f0), (.sl true x6.f1.length 3 (x6.f1.flatMap e48))])], [], (B x7), [], [1001793, 1002818], [], [], (B x7), []⟩] ⟨[(26, (B (!x7)))], [(256, [(S a0.f0), (.sl true a0.f1.length 3 (a0.f1.flatMap e48))]), (1001537, (x2.f1.flatMap e48)), (1001793, (x4.f1.flatMap e48)), (1794, [(S x4.f0), (.rf 1001793 0 x4.f1.length 3 (x4.f1.length * 3))]), (1002818, (x6.f1.flatMap e48))], [2 = 2 ∧ 0 + 2 ≤ 2, 2 = 2 ∧ 0 + 2 ≤ 2, COK (hget [(256, [(S a0.f0), (.sl true a0.f1.length 3 (a0.f1.flatMap e48))]), (1001537, (x2.f1.flatMap e48)), (1001793, (x4.f1.flatMap e48)), (1794, [(S x4.f0), (.rf 1001793 0 x4.f1.length 3 (x4.f1.length * 3))])]) [(.ag [(S a0.f0), (.sl true a0.f1.length 3 (a0.f1.flatMap e48))])] ⟨10, [(.ag [(S a0.f0), (.sl true a0.f1.length 3 (a0.f1.flatMap e48))])], [], (.ag [(S x6.f0), (.rf 1001026 0 x6.f1.length 3 (x6.f1.length * 3))]), [(1001026, (x6.f1.flatMap e48))], [], [], [(1002818, 1001026)], (.ag [(S x6.f0), (.rf 1002818 0 x6.f1.length 3 (x6.f1.length * 3))]), [(1002818, (x6.f1.flatMap e48))]⟩, COK (hget [(256, [(S a0.f0), (.sl true a0.f1.length 3 (a0.f1.flatMap e48))]), (1001537, (x2.f1.flatMap e48)), (1001793, (x4.f1.flatMap e48)), (1794, [(S x4.f0), (.rf 1001793 0 x4.f1.length 3 (x4.f1.length * 3))]), (1002818, (x6.f1.flatMap e48))]) [(.ag [(S x4.f0), (.rf 1001793 0 x4.f1.length 3 (x4.f1.length * 3))]), (.ag [(S x6.f0), (.rf 1002818 0 x6.f1.length 3 (x6.f1.length * 3))])] ⟨12, [(.ag [(S x4.f0), (.sl true x4.f1.length 3 (x4.f1.flatMap e48))]), (.ag [(S x6.f0), (.sl true x6.f1.length 3 (x6.f1.flatMap e48))])], [], (B x7), [], [1001793, 1002818], [], [], (B x7), []⟩], [⟨10, [(.ag [(S a0.f0), (.sl true a0.f1.length 3 (a0.f1.flatMap e48))])], [], (.ag [(S x6.f0), (.rf 1001026 0 x6.f1.length 3 (x6.f1.length * 3))]), [(1001026, (x6.f1.flatMap e48))], [], [], [(1002818, 1001026)], (.ag [(S x6.f0), (.rf 1002818 0 x6.f1.length 3 (x6.f1.length * 3))]), [(1002818, (x6.f1.flatMap e48))]⟩, ⟨12, [(.ag [(S x4.f0), (.sl true x4.f1.length 3 (x4.f1.flatMap e48))]), (.ag [(S x6.f0), (.sl true x6.f1.length 3 (x6.f1.flatMap e48))])], [], (B x7), [], [1001793, 1002818], [], [], (B x7), []⟩]⟩ [c_ 2045, c_ 1023] (alc ⟨rfl, by decide⟩ (alc ⟨rfl, by decide⟩ (alc (cokW false (a2c (.z (frz_ag (a2c .s (a2c (frz_sl e48_ok (fun h => h)) a2n)))) a2n) akn (akc (.inr rfl) akn) (bck_ag (a2c (.z .s) (a2c (.rf (memP_mem (p := (1002818, 1001026)) rfl)) a2n))) (akc ⟨_, _, rfl, rfl, rowB e48_c _⟩ akn) (fun h => absurd h (by decide))) (alc (cok0 false (a2c (cnv_ag (a2c (.z .s) (a2c (.z (frz_rf (k := 1001793) e48_ok (by simp) rfl rfl (row_len e48_ok _).symm)) a2n))) (a2c (cnv_ag (a2c (.z .s) (a2c (.z (frz_rf (k := 1002818) e48_ok (by simp) rfl rfl (row_len e48_ok _).symm)) a2n))) a2n)) (.z .s) (fun h => absurd h (by decide))) aln)))) (acal (laws_toTrip.J k a0 _ hx6) (acal (laws_eqTrip.J k x4 x6 _ hx7) nocal)) ?_
      by_cases c3 : x7 = true
      · rw [if_pos c3] at h
        refine .cond' (.tmp 26) false [c_ 2046, c_ 2047] (bF (nF c3)) ?_
        refine .reg' [2] [] ⟨[(2, (B true))], [(256, [(S a0.f0), (.sl true a0.f1.length 3 (a0.f1.flatMap e48))]), (1001537, (x2.f1.flatMap e48)), (1001793, (x4.f1.flatMap e48)), (1794, [(S x4.f0), (.rf 1001793 0 x4.f1.length 3 (x4.f1.length * 3))]), (1002818, (x6.f1.flatMap e48))], [], []⟩ [c_ 2047] aln nocal ?_
        have h := Option.some.inj h
        subst h
        exact .fin0 [] (B true) [] aln (.z .s)
      · rw [if_neg c3] at h
        refine .cond' (.tmp 26) true [c_ 8180, c_ 8181, c_ 1023] (bT (nT (vF c3))) ?_
        refine .reg' [2] [] ⟨[(2, (B false))], [(256, [(S a0.f0), (.sl true a0.f1.length 3 (a0.f1.flatMap e48))]), (1001537, (x2.f1.flatMap e48)), (1001793, (x4.f1.flatMap e48)), (1794, [(S x4.f0), (.rf 1001793 0 x4.f1.length 3 (x4.f1.length * 3))]), (1002818, (x6.f1.flatMap e48))], [], []⟩ [c_ 8181, c_ 1023] aln nocal ?_
        have h := Option.some.inj h
        subst h
        exact .fin0 [] (B false) [] aln (.z .s)
    · rw [if_neg c2] at h
      refine .cond' (.tmp 21) true [c_ 4084, c_ 4085, c_ 511] (bT (nT (vF c2))) ?_
      refine .reg' [2] [] ⟨[(2, (B false))], [(256, [(S a0.f0), (.sl true a0.f1.length 3 (a0.f1.flatMap e48))]), (1001537, (x2.f1.flatMap e48)), (1001793, (x4.f1.flatMap e48)), (1794, [(S x4.f0), (.rf 1001793 0 x4.f1.length 3 (x4.f1.length * 3))])], [], []⟩ [c_ 4085, c_ 511] aln nocal ?_
      have h := Option.some.inj h
      subst h
      exact .fin0 [] (B false) [] aln (.z .s)
end Go.Proofs.YtjlickinmkafbaaDoor.Fns
