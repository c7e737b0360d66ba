/- The functions that the law FnSooner reaches, by the engine. Printed by a program of this seat. -/
import Derived.Test.YtjfjifnmfnlfoaaE5
import Derived.Test.YtjfjifnmfnlfoaaProg
import Derived.Test.YtjfjifnmfnlfoaaFFnSoonerx1
namespace Go.Proofs.Ytjfjifnmfnlfoaa.Fns
open Go.Proofs.Try Go.Proofs.Ytjfjifnmfnlfoaa.Eng Go.RowKit
set_option maxRecDepth 100000
set_option linter.unusedVariables false
set_option linter.unusedSimpArgs false
theorem impl_between.J (a0 : Int) (a1 : Int) (a2 : Int) (r : Bool) (h : impl_between.f a0 a1 a2 = some r) : J prog (.call 57 [(I a0), (I a1), (I a2)] [] (B r) []) := by
  unfold impl_between.f at h
  refine .call' [c_ 2, c_ 3] ?_
  refine .reg' [0, 1, 2] [] ⟨[(0, (I a0)), (1, (I a1)), (2, (I a2))], [], [], []⟩ [c_ 6, c_ 7] aln nocal ?_
  by_cases c1 : a0 ≥ a1
  · rw [if_pos c1] at h
    refine .reg' [6] [.no, .no, .no, .v (B true)] ⟨[(6, (B (decide (a0 ≤ a2))))], [], [(B (decide (a0 ≥ a1)) : V) = B true], []⟩ [c_ 7] (alc (bT (dT c1)) aln) nocal ?_
    have h := Option.some.inj h
    subst h
    exact .fin0 [] (B (decide (a0 ≤ a2))) [] aln (.z .s)
  · rw [if_neg c1] at h
    refine .reg' [6] [.no, .no, .no, .v (B false)] ⟨[(6, (B false))], [], [(B (decide (a0 ≥ a1)) : V) = B false], []⟩ [c_ 7] (alc (bF (dF c1)) aln) nocal ?_
    have h := Option.some.inj h
    subst h
    exact .fin0 [] (B false) [] aln (.z .s)
/-! impl_isMinute: function 115 -/
def impl_isMinute.f (a0 : Int) : Option Bool := ((impl_between.f a0 0 100000).bind fun x1 => (some x1))
theorem impl_isMinute.J (a0 : Int) (r : Bool) (h : impl_isMinute.f a0 = some r) : J prog (.call 115 [(I a0)] [] (B r) []) := by
  unfold impl_isMinute.f at h
  refine .call' [c_ 2, c_ 3] ?_
  refine .reg' [0] [] ⟨[(0, (I a0))], [], [], []⟩ [c_ 6, c_ 7] aln nocal ?_
  obtain ⟨x1, hx1, h⟩ := Option.bind_eq_some_iff.mp h
  refine .reg' [2] [.no, .c ⟨57, [(I a0), (I 0), (I 100000)], [], (B x1), [], [], [], [], (B x1), []⟩] ⟨[(2, (B x1))], [], [COK (hget []) [(I a0), (I 0), (I 100000)] ⟨57, [(I a0), (I 0), (I 100000)], [], (B x1), [], [], [], [], (B x1), []⟩], [⟨57, [(I a0), (I 0), (I 100000)], [], (B x1), [], [], [], [], (B x1), []⟩]⟩ [c_ 7] (alc (cok0 false (a2c (.z .s) (a2c (.z .s) (a2c (.z .s) a2n))) (.z .s) (fun h => absurd h (by decide))) aln) (acal (impl_between.J a0 0 100000 _ hx1) nocal) ?_
  have h := Option.some.inj h
  subst h
  exact .fin0 [] (B x1) [] aln (.z .s)
/-! impl_TripOk: function 106 -/
def impl_TripOk.l0 : Nat → S105 → Int → Option Bool
 | 0, _, _ => none
 | k + 1, a0, x3 => (if x3 < (a0.f1.length : Int) then (if 0 ≤ x3 then ((impl_between.f ((at_ a0.f1 x3).f0) 0 29).bind fun x4 => (if x4 = true then ((impl_isMinute.f ((at_ a0.f1 x3).f1)).bind fun x5 => (if x5 = true then ((impl_isMinute.f ((at_ a0.f1 x3).f2)).bind fun x6 => (if x6 = true then (if (at_ a0.f1 x3).f1 > (at_ a0.f1 x3).f2 then (some false) else (if x3 > 0 then (if 0 ≤ (wrap64 (x3 - 1)) then (if (wrap64 (x3 - 1)) < (a0.f1.length : Int) then (if (at_ a0.f1 x3).f1 ≤ (at_ a0.f1 (wrap64 (x3 - 1))).f2 then (some false) else (if (at_ a0.f1 x3).f0 = (at_ a0.f1 (wrap64 (x3 - 1))).f0 then (some false) else (impl_TripOk.l0 k a0 (wrap64 (x3 + 1))))) else none) else none) else (impl_TripOk.l0 k a0 (wrap64 (x3 + 1))))) else (some false))) else (some false))) else (some false))) else none) else (some true))
def impl_TripOk.f (k : Nat) (a0 : S105) : Option Bool := ((impl_nameOk.f k a0.f0).bind fun x1 => (if x1 = true then ((impl_between.f (a0.f1.length : Int) 2 12).bind fun x2 => (if x2 = true then (impl_TripOk.l0 k a0 0) else (some false))) else (some false)))
theorem impl_TripOk.lab : ∀ k, (∀ (a0 : S105) (x3 : Int) (r : Bool), impl_TripOk.l0 k a0 x3 = some r → J prog (.run 106 [] [l_ 58, b_ 0, c_ 15] [(1, (.pt 256 0 2)), (17, (.sl true a0.f1.length 3 (a0.f1.flatMap e107))), (18, (I (a0.f1.length : Int))), (19, (I x3))] [(256, [(S a0.f0), (.sl true a0.f1.length 3 (a0.f1.flatMap e107))])] (B r) []))
 | 0 => (by intro a0 x3 r h; unfold impl_TripOk.l0 at h; cases h)
 | k + 1 => by
  have ih0 := impl_TripOk.lab k
  · intro a0 x3 r h
    unfold impl_TripOk.l0 at h
    refine .loop' [c_ 232, c_ 233, l_ 58, b_ 0, c_ 15] ?_
    refine .reg' [1, 17, 18, 19, 20] [] ⟨[(1, (.pt 256 0 2)), (17, (.sl true a0.f1.length 3 (a0.f1.flatMap e107))), (18, (I (a0.f1.length : Int))), (19, (I x3)), (20, (B (decide (x3 < (a0.f1.length : Int)))))], [(256, [(S a0.f0), (.sl true a0.f1.length 3 (a0.f1.flatMap e107))])], [], []⟩ [c_ 466, c_ 467, l_ 58, b_ 0, c_ 15] aln nocal ?_
    by_cases c3 : x3 < (a0.f1.length : Int)
    · rw [if_pos c3] at h
      refine .cond' (.tmp 20) true [c_ 3736, c_ 3737, b_ 1, c_ 935, l_ 58, b_ 0, c_ 15] (bT (dT c3)) ?_
      by_cases c4 : 0 ≤ x3
      · rw [if_pos c4] at h
        refine .reg' [1, 3, 4, 17, 18, 19] [.no, .no, .v (.ag [(I (at_ a0.f1 x3).f0), (I (at_ a0.f1 x3).f1), (I (at_ a0.f1 x3).f2)])] ⟨[(1, (.pt 256 0 2)), (3, (I x3)), (4, (.pt 1539 0 3)), (17, (.sl true a0.f1.length 3 (a0.f1.flatMap e107))), (18, (I (a0.f1.length : Int))), (19, (I x3))], [(256, [(S a0.f0), (.sl true a0.f1.length 3 (a0.f1.flatMap e107))]), (1539, [(I (at_ a0.f1 x3).f0), (I (at_ a0.f1 x3).f1), (I (at_ a0.f1 x3).f2)])], [(0 : Int) ≤ x3 ∧ x3 < (a0.f1.length : Int), rdC prog 108 ((a0.f1.flatMap e107).drop (x3.toNat * 3)) = (.ag [(I (at_ a0.f1 x3).f0), (I (at_ a0.f1 x3).f1), (I (at_ a0.f1 x3).f2)]), 3 ≤ ((a0.f1.flatMap e107).drop (x3.toNat * 3)).length, 3 = 3 ∧ 0 + 3 ≤ 3], []⟩ [c_ 14948, c_ 14949, c_ 7475, b_ 1, c_ 935, l_ 58, b_ 0, c_ 15] (alc ⟨c4, c3⟩ (alc (ldA e107_ok rfl rfl c4 c3) (alc (okI e107_ok c4 c3 (by decide)) (alc ⟨rfl, by decide⟩ aln)))) nocal ?_
        obtain ⟨x4, hx4, h⟩ := Option.bind_eq_some_iff.mp h
        by_cases c5 : x4 = true
        · rw [if_pos c5] at h
          obtain ⟨x5, hx5, h⟩ := Option.bind_eq_some_iff.mp h
          by_cases c6 : x5 = true
          · rw [if_pos c6] at h
            obtain ⟨x6, hx6, h⟩ := Option.bind_eq_some_iff.mp h
            by_cases c7 : x6 = true
            · rw [if_pos c7] at h
              refine .reg' [1, 3, 4, 17, 18, 19, 46] [.no, .no, .c ⟨57, [(I (at_ a0.f1 x3).f0), (I 0), (I 29)], [], (B x4), [], [], [], [], (B x4), []⟩, .no, .v (B false), .no, .no, .c ⟨115, [(I (at_ a0.f1 x3).f1)], [], (B x5), [], [], [], [], (B x5), []⟩, .no, .no, .v (B false), .no, .no, .c ⟨115, [(I (at_ a0.f1 x3).f2)], [], (B x6), [], [], [], [], (B x6), []⟩, .no, .no, .v (B false)] ⟨[(1, (.pt 256 0 2)), (3, (I x3)), (4, (.pt 1539 0 3)), (17, (.sl true a0.f1.length 3 (a0.f1.flatMap e107))), (18, (I (a0.f1.length : Int))), (19, (I x3)), (46, (B (decide ((at_ a0.f1 x3).f1 > (at_ a0.f1 x3).f2))))], [(256, [(S a0.f0), (.sl true a0.f1.length 3 (a0.f1.flatMap e107))]), (1539, [(I (at_ a0.f1 x3).f0), (I (at_ a0.f1 x3).f1), (I (at_ a0.f1 x3).f2)])], [3 = 3 ∧ 0 + 1 ≤ 3, COK (hget [(256, [(S a0.f0), (.sl true a0.f1.length 3 (a0.f1.flatMap e107))]), (1539, [(I (at_ a0.f1 x3).f0), (I (at_ a0.f1 x3).f1), (I (at_ a0.f1 x3).f2)])]) [(I (at_ a0.f1 x3).f0), (I 0), (I 29)] ⟨57, [(I (at_ a0.f1 x3).f0), (I 0), (I 29)], [], (B x4), [], [], [], [], (B x4), []⟩, (B (!x4) : V) = B false, 3 = 3 ∧ 1 + 1 ≤ 3, COK (hget [(256, [(S a0.f0), (.sl true a0.f1.length 3 (a0.f1.flatMap e107))]), (1539, [(I (at_ a0.f1 x3).f0), (I (at_ a0.f1 x3).f1), (I (at_ a0.f1 x3).f2)])]) [(I (at_ a0.f1 x3).f1)] ⟨115, [(I (at_ a0.f1 x3).f1)], [], (B x5), [], [], [], [], (B x5), []⟩, (B (!x5) : V) = B false, 3 = 3 ∧ 2 + 1 ≤ 3, COK (hget [(256, [(S a0.f0), (.sl true a0.f1.length 3 (a0.f1.flatMap e107))]), (1539, [(I (at_ a0.f1 x3).f0), (I (at_ a0.f1 x3).f1), (I (at_ a0.f1 x3).f2)])]) [(I (at_ a0.f1 x3).f2)] ⟨115, [(I (at_ a0.f1 x3).f2)], [], (B x6), [], [], [], [], (B x6), []⟩, (B (!x6) : V) = B false, 3 = 3 ∧ 1 + 1 ≤ 3, 3 = 3 ∧ 2 + 1 ≤ 3], [⟨57, [(I (at_ a0.f1 x3).f0), (I 0), (I 29)], [], (B x4), [], [], [], [], (B x4), []⟩, ⟨115, [(I (at_ a0.f1 x3).f1)], [], (B x5), [], [], [], [], (B x5), []⟩, ⟨115, [(I (at_ a0.f1 x3).f2)], [], (B x6), [], [], [], [], (B x6), []⟩]⟩ [c_ 14949, c_ 7475, b_ 1, c_ 935, l_ 58, b_ 0, c_ 15] (alc ⟨rfl, by decide⟩ (alc (cok0 false (a2c (.z .s) (a2c (.z .s) (a2c (.z .s) a2n))) (.z .s) (fun h => absurd h (by decide))) (alc (bF (nF c5)) (alc ⟨rfl, by decide⟩ (alc (cok0 false (a2c (.z .s) a2n) (.z .s) (fun h => absurd h (by decide))) (alc (bF (nF c6)) (alc ⟨rfl, by decide⟩ (alc (cok0 false (a2c (.z .s) a2n) (.z .s) (fun h => absurd h (by decide))) (alc (bF (nF c7)) (alc ⟨rfl, by decide⟩ (alc ⟨rfl, by decide⟩ aln))))))))))) (acal (impl_between.J ((at_ a0.f1 x3).f0) 0 29 _ hx4) (acal (impl_isMinute.J ((at_ a0.f1 x3).f1) _ hx5) (acal (impl_isMinute.J ((at_ a0.f1 x3).f2) _ hx6) nocal))) ?_
              by_cases c8 : (at_ a0.f1 x3).f1 > (at_ a0.f1 x3).f2
              · rw [if_pos c8] at h
                refine .cond' (.tmp 46) true [c_ 59796, c_ 59797, c_ 7475, b_ 1, c_ 935, l_ 58, b_ 0, c_ 15] (bT (dT c8)) ?_
                refine .reg' [2] [] ⟨[(2, (B false))], [(256, [(S a0.f0), (.sl true a0.f1.length 3 (a0.f1.flatMap e107))]), (1539, [(I (at_ a0.f1 x3).f0), (I (at_ a0.f1 x3).f1), (I (at_ a0.f1 x3).f2)])], [], []⟩ [c_ 59797, c_ 7475, b_ 1, c_ 935, l_ 58, b_ 0, c_ 15] aln nocal ?_
                have h := Option.some.inj h
                subst h
                exact .fin0 [] (B false) [] aln (.z .s)
              · rw [if_neg c8] at h
                refine .cond' (.tmp 46) false [c_ 14950, c_ 14951, b_ 1, c_ 935, l_ 58, b_ 0, c_ 15] (bF (dF c8)) ?_
                by_cases c9 : x3 > 0
                · rw [if_pos c9] at h
                  by_cases c10 : 0 ≤ (wrap64 (x3 - 1))
                  · rw [if_pos c10] at h
                    by_cases c11 : (wrap64 (x3 - 1)) < (a0.f1.length : Int)
                    · rw [if_pos c11] at h
                      by_cases c12 : (at_ a0.f1 x3).f1 ≤ (at_ a0.f1 (wrap64 (x3 - 1))).f2
                      · rw [if_pos c12] at h
                        refine .reg' [1, 17, 18, 19, 72] [.no, .no, .v (B true), .no, .no, .no, .no, .no, .no, .no, .no, .v (I (at_ a0.f1 (wrap64 (x3 - 1))).f2), .no, .v (B true)] ⟨[(1, (.pt 256 0 2)), (17, (.sl true a0.f1.length 3 (a0.f1.flatMap e107))), (18, (I (a0.f1.length : Int))), (19, (I x3)), (72, (B true))], [(256, [(S a0.f0), (.sl true a0.f1.length 3 (a0.f1.flatMap e107))]), (1539, [(I (at_ a0.f1 x3).f0), (I (at_ a0.f1 x3).f1), (I (at_ a0.f1 x3).f2)])], [(B (decide (x3 > 0)) : V) = B true, 3 = 3 ∧ 1 + 1 ≤ 3, 2 = 2 ∧ 1 + 1 ≤ 2, (0 : Int) ≤ (wrap64 (x3 - 1)) ∧ (wrap64 (x3 - 1)) < (a0.f1.length : Int), rdC prog 3 (((a0.f1.flatMap e107).drop ((wrap64 (x3 - 1)).toNat * 3)).drop 2) = (I (at_ a0.f1 (wrap64 (x3 - 1))).f2), 1 ≤ (((a0.f1.flatMap e107).drop ((wrap64 (x3 - 1)).toNat * 3)).drop 2).length, (B (decide ((at_ a0.f1 x3).f1 ≤ (at_ a0.f1 (wrap64 (x3 - 1))).f2)) : V) = B true], []⟩ [c_ 14951, b_ 1, c_ 935, l_ 58, b_ 0, c_ 15] (alc (bT (dT c9)) (alc ⟨rfl, by decide⟩ (alc ⟨rfl, by decide⟩ (alc ⟨c10, c11⟩ (alc (ldC e107_ok 2 (by decide) rfl c10 c11) (alc (okIj e107_ok c10 c11 (by decide)) (alc (bT (dT c12)) aln))))))) nocal ?_
                        refine .cond' (.tmp 72) true [c_ 59804, c_ 59805, b_ 1, c_ 935, l_ 58, b_ 0, c_ 15] (rfl) ?_
                        refine .reg' [2] [] ⟨[(2, (B false))], [(256, [(S a0.f0), (.sl true a0.f1.length 3 (a0.f1.flatMap e107))]), (1539, [(I (at_ a0.f1 x3).f0), (I (at_ a0.f1 x3).f1), (I (at_ a0.f1 x3).f2)])], [], []⟩ [c_ 59805, b_ 1, c_ 935, l_ 58, b_ 0, c_ 15] aln nocal ?_
                        have h := Option.some.inj h
                        subst h
                        exact .fin0 [] (B false) [] aln (.z .s)
                      · rw [if_neg c12] at h
                        refine .reg' [1, 17, 18, 19, 72] [.no, .no, .v (B true), .no, .no, .no, .no, .no, .no, .no, .no, .v (I (at_ a0.f1 (wrap64 (x3 - 1))).f2), .no, .v (B false), .no, .no, .no, .no, .no, .no, .no, .no, .v (I (at_ a0.f1 (wrap64 (x3 - 1))).f0)] ⟨[(1, (.pt 256 0 2)), (17, (.sl true a0.f1.length 3 (a0.f1.flatMap e107))), (18, (I (a0.f1.length : Int))), (19, (I x3)), (72, (B ((at_ a0.f1 x3).f0 == (at_ a0.f1 (wrap64 (x3 - 1))).f0)))], [(256, [(S a0.f0), (.sl true a0.f1.length 3 (a0.f1.flatMap e107))]), (1539, [(I (at_ a0.f1 x3).f0), (I (at_ a0.f1 x3).f1), (I (at_ a0.f1 x3).f2)])], [(B (decide (x3 > 0)) : V) = B true, 3 = 3 ∧ 1 + 1 ≤ 3, 2 = 2 ∧ 1 + 1 ≤ 2, (0 : Int) ≤ (wrap64 (x3 - 1)) ∧ (wrap64 (x3 - 1)) < (a0.f1.length : Int), rdC prog 3 (((a0.f1.flatMap e107).drop ((wrap64 (x3 - 1)).toNat * 3)).drop 2) = (I (at_ a0.f1 (wrap64 (x3 - 1))).f2), 1 ≤ (((a0.f1.flatMap e107).drop ((wrap64 (x3 - 1)).toNat * 3)).drop 2).length, (B (decide ((at_ a0.f1 x3).f1 ≤ (at_ a0.f1 (wrap64 (x3 - 1))).f2)) : V) = B false, 3 = 3 ∧ 0 + 1 ≤ 3, 2 = 2 ∧ 1 + 1 ≤ 2, (0 : Int) ≤ (wrap64 (x3 - 1)) ∧ (wrap64 (x3 - 1)) < (a0.f1.length : Int), rdC prog 3 (((a0.f1.flatMap e107).drop ((wrap64 (x3 - 1)).toNat * 3)).drop 0) = (I (at_ a0.f1 (wrap64 (x3 - 1))).f0), 1 ≤ (((a0.f1.flatMap e107).drop ((wrap64 (x3 - 1)).toNat * 3)).drop 0).length], []⟩ [c_ 14951, b_ 1, c_ 935, l_ 58, b_ 0, c_ 15] (alc (bT (dT c9)) (alc ⟨rfl, by decide⟩ (alc ⟨rfl, by decide⟩ (alc ⟨c10, c11⟩ (alc (ldC e107_ok 2 (by decide) rfl c10 c11) (alc (okIj e107_ok c10 c11 (by decide)) (alc (bF (dF c12)) (alc ⟨rfl, by decide⟩ (alc ⟨rfl, by decide⟩ (alc ⟨c10, c11⟩ (alc (ldC e107_ok 0 (by decide) rfl c10 c11) (alc (okIj e107_ok c10 c11 (by decide)) aln)))))))))))) nocal ?_
                        by_cases c13 : (at_ a0.f1 x3).f0 = (at_ a0.f1 (wrap64 (x3 - 1))).f0
                        · rw [if_pos c13] at h
                          refine .cond' (.tmp 72) true [c_ 59804, c_ 59805, b_ 1, c_ 935, l_ 58, b_ 0, c_ 15] (bT (qT c13)) ?_
                          refine .reg' [2] [] ⟨[(2, (B false))], [(256, [(S a0.f0), (.sl true a0.f1.length 3 (a0.f1.flatMap e107))]), (1539, [(I (at_ a0.f1 x3).f0), (I (at_ a0.f1 x3).f1), (I (at_ a0.f1 x3).f2)])], [], []⟩ [c_ 59805, b_ 1, c_ 935, l_ 58, b_ 0, c_ 15] aln nocal ?_
                          have h := Option.some.inj h
                          subst h
                          exact .fin0 [] (B false) [] aln (.z .s)
                        · rw [if_neg c13] at h
                          refine .cond' (.tmp 72) false [c_ 935, l_ 58, b_ 0, c_ 15] (bF (qF c13)) ?_
                          refine .reg' [1, 17, 18, 19] [] ⟨[(1, (.pt 256 0 2)), (17, (.sl true a0.f1.length 3 (a0.f1.flatMap e107))), (18, (I (a0.f1.length : Int))), (19, (I (wrap64 (x3 + 1))))], [(256, [(S a0.f0), (.sl true a0.f1.length 3 (a0.f1.flatMap e107))]), (1539, [(I (at_ a0.f1 x3).f0), (I (at_ a0.f1 x3).f1), (I (at_ a0.f1 x3).f2)])], [], []⟩ [l_ 58, b_ 0, c_ 15] aln nocal ?_
                          refine .wk' [] [(256, 256)] [(1, (.pt 256 0 2)), (17, (.sl true a0.f1.length 3 (a0.f1.flatMap e107))), (18, (I (a0.f1.length : Int))), (19, (I (wrap64 (x3 + 1))))] [(256, [(S a0.f0), (.sl true a0.f1.length 3 (a0.f1.flatMap e107))])] (shc 256 (a2c (.z .s) (a2c (.z (frz_sl e107_ok (fun h => h))) a2n)) shn) (enc_ (.pt (memP_mem (p := (256, 256)) rfl)) (enc_ (.z (frz_sl e107_ok (fun h => h))) (enc_ (.z .s) (enc_ (.z .s) enn)))) ?_
                          exact ih0 a0 (wrap64 (x3 + 1)) _ h
                    · rw [if_neg c11] at h
                      cases h
                  · rw [if_neg c10] at h
                    cases h
                · rw [if_neg c9] at h
                  refine .reg' [1, 17, 18, 19, 72] [.no, .no, .v (B false)] ⟨[(1, (.pt 256 0 2)), (17, (.sl true a0.f1.length 3 (a0.f1.flatMap e107))), (18, (I (a0.f1.length : Int))), (19, (I x3)), (72, (B false))], [(256, [(S a0.f0), (.sl true a0.f1.length 3 (a0.f1.flatMap e107))]), (1539, [(I (at_ a0.f1 x3).f0), (I (at_ a0.f1 x3).f1), (I (at_ a0.f1 x3).f2)])], [(B (decide (x3 > 0)) : V) = B false], []⟩ [c_ 14951, b_ 1, c_ 935, l_ 58, b_ 0, c_ 15] (alc (bF (dF c9)) aln) nocal ?_
                  refine .cond' (.tmp 72) false [c_ 935, l_ 58, b_ 0, c_ 15] (rfl) ?_
                  refine .reg' [1, 17, 18, 19] [] ⟨[(1, (.pt 256 0 2)), (17, (.sl true a0.f1.length 3 (a0.f1.flatMap e107))), (18, (I (a0.f1.length : Int))), (19, (I (wrap64 (x3 + 1))))], [(256, [(S a0.f0), (.sl true a0.f1.length 3 (a0.f1.flatMap e107))]), (1539, [(I (at_ a0.f1 x3).f0), (I (at_ a0.f1 x3).f1), (I (at_ a0.f1 x3).f2)])], [], []⟩ [l_ 58, b_ 0, c_ 15] aln nocal ?_
                  refine .wk' [] [(256, 256)] [(1, (.pt 256 0 2)), (17, (.sl true a0.f1.length 3 (a0.f1.flatMap e107))), (18, (I (a0.f1.length : Int))), (19, (I (wrap64 (x3 + 1))))] [(256, [(S a0.f0), (.sl true a0.f1.length 3 (a0.f1.flatMap e107))])] (shc 256 (a2c (.z .s) (a2c (.z (frz_sl e107_ok (fun h => h))) a2n)) shn) (enc_ (.pt (memP_mem (p := (256, 256)) rfl)) (enc_ (.z (frz_sl e107_ok (fun h => h))) (enc_ (.z .s) (enc_ (.z .s) enn)))) ?_
                  exact ih0 a0 (wrap64 (x3 + 1)) _ h
            · rw [if_neg c7] at h
              refine .reg' [1, 3, 4, 17, 18, 19, 46] [.no, .no, .c ⟨57, [(I (at_ a0.f1 x3).f0), (I 0), (I 29)], [], (B x4), [], [], [], [], (B x4), []⟩, .no, .v (B false), .no, .no, .c ⟨115, [(I (at_ a0.f1 x3).f1)], [], (B x5), [], [], [], [], (B x5), []⟩, .no, .no, .v (B false), .no, .no, .c ⟨115, [(I (at_ a0.f1 x3).f2)], [], (B x6), [], [], [], [], (B x6), []⟩, .no, .no, .v (B true)] ⟨[(1, (.pt 256 0 2)), (3, (I x3)), (4, (.pt 1539 0 3)), (17, (.sl true a0.f1.length 3 (a0.f1.flatMap e107))), (18, (I (a0.f1.length : Int))), (19, (I x3)), (46, (B true))], [(256, [(S a0.f0), (.sl true a0.f1.length 3 (a0.f1.flatMap e107))]), (1539, [(I (at_ a0.f1 x3).f0), (I (at_ a0.f1 x3).f1), (I (at_ a0.f1 x3).f2)])], [3 = 3 ∧ 0 + 1 ≤ 3, COK (hget [(256, [(S a0.f0), (.sl true a0.f1.length 3 (a0.f1.flatMap e107))]), (1539, [(I (at_ a0.f1 x3).f0), (I (at_ a0.f1 x3).f1), (I (at_ a0.f1 x3).f2)])]) [(I (at_ a0.f1 x3).f0), (I 0), (I 29)] ⟨57, [(I (at_ a0.f1 x3).f0), (I 0), (I 29)], [], (B x4), [], [], [], [], (B x4), []⟩, (B (!x4) : V) = B false, 3 = 3 ∧ 1 + 1 ≤ 3, COK (hget [(256, [(S a0.f0), (.sl true a0.f1.length 3 (a0.f1.flatMap e107))]), (1539, [(I (at_ a0.f1 x3).f0), (I (at_ a0.f1 x3).f1), (I (at_ a0.f1 x3).f2)])]) [(I (at_ a0.f1 x3).f1)] ⟨115, [(I (at_ a0.f1 x3).f1)], [], (B x5), [], [], [], [], (B x5), []⟩, (B (!x5) : V) = B false, 3 = 3 ∧ 2 + 1 ≤ 3, COK (hget [(256, [(S a0.f0), (.sl true a0.f1.length 3 (a0.f1.flatMap e107))]), (1539, [(I (at_ a0.f1 x3).f0), (I (at_ a0.f1 x3).f1), (I (at_ a0.f1 x3).f2)])]) [(I (at_ a0.f1 x3).f2)] ⟨115, [(I (at_ a0.f1 x3).f2)], [], (B x6), [], [], [], [], (B x6), []⟩, (B (!x6) : V) = B true], [⟨57, [(I (at_ a0.f1 x3).f0), (I 0), (I 29)], [], (B x4), [], [], [], [], (B x4), []⟩, ⟨115, [(I (at_ a0.f1 x3).f1)], [], (B x5), [], [], [], [], (B x5), []⟩, ⟨115, [(I (at_ a0.f1 x3).f2)], [], (B x6), [], [], [], [], (B x6), []⟩]⟩ [c_ 14949, c_ 7475, b_ 1, c_ 935, l_ 58, b_ 0, c_ 15] (alc ⟨rfl, by decide⟩ (alc (cok0 false (a2c (.z .s) (a2c (.z .s) (a2c (.z .s) a2n))) (.z .s) (fun h => absurd h (by decide))) (alc (bF (nF c5)) (alc ⟨rfl, by decide⟩ (alc (cok0 false (a2c (.z .s) a2n) (.z .s) (fun h => absurd h (by decide))) (alc (bF (nF c6)) (alc ⟨rfl, by decide⟩ (alc (cok0 false (a2c (.z .s) a2n) (.z .s) (fun h => absurd h (by decide))) (alc (bT (nT (vF c7))) aln))))))))) (acal (impl_between.J ((at_ a0.f1 x3).f0) 0 29 _ hx4) (acal (impl_isMinute.J ((at_ a0.f1 x3).f1) _ hx5) (acal (impl_isMinute.J ((at_ a0.f1 x3).f2) _ hx6) nocal))) ?_
              refine .cond' (.tmp 46) true [c_ 59796, c_ 59797, c_ 7475, b_ 1, c_ 935, l_ 58, b_ 0, c_ 15] (rfl) ?_
              refine .reg' [2] [] ⟨[(2, (B false))], [(256, [(S a0.f0), (.sl true a0.f1.length 3 (a0.f1.flatMap e107))]), (1539, [(I (at_ a0.f1 x3).f0), (I (at_ a0.f1 x3).f1), (I (at_ a0.f1 x3).f2)])], [], []⟩ [c_ 59797, c_ 7475, b_ 1, c_ 935, l_ 58, b_ 0, c_ 15] aln nocal ?_
              have h := Option.some.inj h
              subst h
              exact .fin0 [] (B false) [] aln (.z .s)
          · rw [if_neg c6] at h
            refine .reg' [1, 3, 4, 17, 18, 19, 46] [.no, .no, .c ⟨57, [(I (at_ a0.f1 x3).f0), (I 0), (I 29)], [], (B x4), [], [], [], [], (B x4), []⟩, .no, .v (B false), .no, .no, .c ⟨115, [(I (at_ a0.f1 x3).f1)], [], (B x5), [], [], [], [], (B x5), []⟩, .no, .no, .v (B true)] ⟨[(1, (.pt 256 0 2)), (3, (I x3)), (4, (.pt 1539 0 3)), (17, (.sl true a0.f1.length 3 (a0.f1.flatMap e107))), (18, (I (a0.f1.length : Int))), (19, (I x3)), (46, (B true))], [(256, [(S a0.f0), (.sl true a0.f1.length 3 (a0.f1.flatMap e107))]), (1539, [(I (at_ a0.f1 x3).f0), (I (at_ a0.f1 x3).f1), (I (at_ a0.f1 x3).f2)])], [3 = 3 ∧ 0 + 1 ≤ 3, COK (hget [(256, [(S a0.f0), (.sl true a0.f1.length 3 (a0.f1.flatMap e107))]), (1539, [(I (at_ a0.f1 x3).f0), (I (at_ a0.f1 x3).f1), (I (at_ a0.f1 x3).f2)])]) [(I (at_ a0.f1 x3).f0), (I 0), (I 29)] ⟨57, [(I (at_ a0.f1 x3).f0), (I 0), (I 29)], [], (B x4), [], [], [], [], (B x4), []⟩, (B (!x4) : V) = B false, 3 = 3 ∧ 1 + 1 ≤ 3, COK (hget [(256, [(S a0.f0), (.sl true a0.f1.length 3 (a0.f1.flatMap e107))]), (1539, [(I (at_ a0.f1 x3).f0), (I (at_ a0.f1 x3).f1), (I (at_ a0.f1 x3).f2)])]) [(I (at_ a0.f1 x3).f1)] ⟨115, [(I (at_ a0.f1 x3).f1)], [], (B x5), [], [], [], [], (B x5), []⟩, (B (!x5) : V) = B true], [⟨57, [(I (at_ a0.f1 x3).f0), (I 0), (I 29)], [], (B x4), [], [], [], [], (B x4), []⟩, ⟨115, [(I (at_ a0.f1 x3).f1)], [], (B x5), [], [], [], [], (B x5), []⟩]⟩ [c_ 14949, c_ 7475, b_ 1, c_ 935, l_ 58, b_ 0, c_ 15] (alc ⟨rfl, by decide⟩ (alc (cok0 false (a2c (.z .s) (a2c (.z .s) (a2c (.z .s) a2n))) (.z .s) (fun h => absurd h (by decide))) (alc (bF (nF c5)) (alc ⟨rfl, by decide⟩ (alc (cok0 false (a2c (.z .s) a2n) (.z .s) (fun h => absurd h (by decide))) (alc (bT (nT (vF c6))) aln)))))) (acal (impl_between.J ((at_ a0.f1 x3).f0) 0 29 _ hx4) (acal (impl_isMinute.J ((at_ a0.f1 x3).f1) _ hx5) nocal)) ?_
            refine .cond' (.tmp 46) true [c_ 59796, c_ 59797, c_ 7475, b_ 1, c_ 935, l_ 58, b_ 0, c_ 15] (rfl) ?_
            refine .reg' [2] [] ⟨[(2, (B false))], [(256, [(S a0.f0), (.sl true a0.f1.length 3 (a0.f1.flatMap e107))]), (1539, [(I (at_ a0.f1 x3).f0), (I (at_ a0.f1 x3).f1), (I (at_ a0.f1 x3).f2)])], [], []⟩ [c_ 59797, c_ 7475, b_ 1, c_ 935, l_ 58, b_ 0, c_ 15] aln nocal ?_
            have h := Option.some.inj h
            subst h
            exact .fin0 [] (B false) [] aln (.z .s)
        · rw [if_neg c5] at h
          refine .reg' [1, 3, 4, 17, 18, 19, 46] [.no, .no, .c ⟨57, [(I (at_ a0.f1 x3).f0), (I 0), (I 29)], [], (B x4), [], [], [], [], (B x4), []⟩, .no, .v (B true)] ⟨[(1, (.pt 256 0 2)), (3, (I x3)), (4, (.pt 1539 0 3)), (17, (.sl true a0.f1.length 3 (a0.f1.flatMap e107))), (18, (I (a0.f1.length : Int))), (19, (I x3)), (46, (B true))], [(256, [(S a0.f0), (.sl true a0.f1.length 3 (a0.f1.flatMap e107))]), (1539, [(I (at_ a0.f1 x3).f0), (I (at_ a0.f1 x3).f1), (I (at_ a0.f1 x3).f2)])], [3 = 3 ∧ 0 + 1 ≤ 3, COK (hget [(256, [(S a0.f0), (.sl true a0.f1.length 3 (a0.f1.flatMap e107))]), (1539, [(I (at_ a0.f1 x3).f0), (I (at_ a0.f1 x3).f1), (I (at_ a0.f1 x3).f2)])]) [(I (at_ a0.f1 x3).f0), (I 0), (I 29)] ⟨57, [(I (at_ a0.f1 x3).f0), (I 0), (I 29)], [], (B x4), [], [], [], [], (B x4), []⟩, (B (!x4) : V) = B true], [⟨57, [(I (at_ a0.f1 x3).f0), (I 0), (I 29)], [], (B x4), [], [], [], [], (B x4), []⟩]⟩ [c_ 14949, c_ 7475, b_ 1, c_ 935, l_ 58, b_ 0, c_ 15] (alc ⟨rfl, by decide⟩ (alc (cok0 false (a2c (.z .s) (a2c (.z .s) (a2c (.z .s) a2n))) (.z .s) (fun h => absurd h (by decide))) (alc (bT (nT (vF c5))) aln))) (acal (impl_between.J ((at_ a0.f1 x3).f0) 0 29 _ hx4) nocal) ?_
          refine .cond' (.tmp 46) true [c_ 59796, c_ 59797, c_ 7475, b_ 1, c_ 935, l_ 58, b_ 0, c_ 15] (rfl) ?_
          refine .reg' [2] [] ⟨[(2, (B false))], [(256, [(S a0.f0), (.sl true a0.f1.length 3 (a0.f1.flatMap e107))]), (1539, [(I (at_ a0.f1 x3).f0), (I (at_ a0.f1 x3).f1), (I (at_ a0.f1 x3).f2)])], [], []⟩ [c_ 59797, c_ 7475, b_ 1, c_ 935, l_ 58, b_ 0, c_ 15] aln nocal ?_
          have h := Option.some.inj h
          subst h
          exact .fin0 [] (B false) [] aln (.z .s)
      · rw [if_neg c4] at h
        cases h
    · rw [if_neg c3] at h
      refine .cond' (.tmp 20) false [c_ 30, c_ 31] (bF (dF c3)) ?_
      refine .reg' [2] [] ⟨[(2, (B true))], [(256, [(S a0.f0), (.sl true a0.f1.length 3 (a0.f1.flatMap e107))])], [], []⟩ [c_ 31] aln nocal ?_
      have h := Option.some.inj h
      subst h
      exact .fin0 [] (B true) [] aln (.z .s)
theorem impl_TripOk.J (k : Nat) (a0 : S105) (r : Bool) (h : impl_TripOk.f k a0 = some r) : J prog (.call 106 [(.ag [(S a0.f0), (.sl true a0.f1.length 3 (a0.f1.flatMap e107))])] [] (B r) []) := by
  unfold impl_TripOk.f at h
  have ih0 := impl_TripOk.lab k
  refine .call' [c_ 2, c_ 3] ?_
  refine .reg' [1] [] ⟨[(1, (.pt 256 0 2))], [(256, [(S a0.f0), (.sl true a0.f1.length 3 (a0.f1.flatMap e107))])], [], []⟩ [c_ 12, c_ 13, c_ 7] aln nocal ?_
  obtain ⟨x1, hx1, h⟩ := Option.bind_eq_some_iff.mp h
  by_cases c1 : x1 = true
  · rw [if_pos c1] at h
    obtain ⟨x2, hx2, h⟩ := Option.bind_eq_some_iff.mp h
    refine .reg' [1, 15] [.no, .no, .c ⟨121, [(S a0.f0)], [], (B x1), [], [], [], [], (B x1), []⟩, .no, .v (B false), .no, .no, .no, .c ⟨57, [(I (a0.f1.length : Int)), (I 2), (I 12)], [], (B x2), [], [], [], [], (B x2), []⟩] ⟨[(1, (.pt 256 0 2)), (15, (B (!x2)))], [(256, [(S a0.f0), (.sl true a0.f1.length 3 (a0.f1.flatMap e107))])], [2 = 2 ∧ 0 + 1 ≤ 2, COK (hget [(256, [(S a0.f0), (.sl true a0.f1.length 3 (a0.f1.flatMap e107))])]) [(S a0.f0)] ⟨121, [(S a0.f0)], [], (B x1), [], [], [], [], (B x1), []⟩, (B (!x1) : V) = B false, 2 = 2 ∧ 1 + 1 ≤ 2, COK (hget [(256, [(S a0.f0), (.sl true a0.f1.length 3 (a0.f1.flatMap e107))])]) [(I (a0.f1.length : Int)), (I 2), (I 12)] ⟨57, [(I (a0.f1.length : Int)), (I 2), (I 12)], [], (B x2), [], [], [], [], (B x2), []⟩], [⟨121, [(S a0.f0)], [], (B x1), [], [], [], [], (B x1), []⟩, ⟨57, [(I (a0.f1.length : Int)), (I 2), (I 12)], [], (B x2), [], [], [], [], (B x2), []⟩]⟩ [c_ 13, c_ 7] (alc ⟨rfl, by decide⟩ (alc (cok0 false (a2c (.z .s) a2n) (.z .s) (fun h => absurd h (by decide))) (alc (bF (nF c1)) (alc ⟨rfl, by decide⟩ (alc (cok0 false (a2c (.z .s) (a2c (.z .s) (a2c (.z .s) a2n))) (.z .s) (fun h => absurd h (by decide))) aln))))) (acal (impl_nameOk.J k a0.f0 _ hx1) (acal (impl_between.J (a0.f1.length : Int) 2 12 _ hx2) nocal)) ?_
    by_cases c2 : x2 = true
    · rw [if_pos c2] at h
      refine .cond' (.tmp 15) false [c_ 28, c_ 29, c_ 15] (bF (nF c2)) ?_
      refine .reg' [1, 17, 18, 19] [] ⟨[(1, (.pt 256 0 2)), (17, (.sl true a0.f1.length 3 (a0.f1.flatMap e107))), (18, (I (a0.f1.length : Int))), (19, (I 0))], [(256, [(S a0.f0), (.sl true a0.f1.length 3 (a0.f1.flatMap e107))])], [2 = 2 ∧ 1 + 1 ≤ 2], []⟩ [l_ 58, b_ 0, c_ 15] (alc ⟨rfl, by decide⟩ aln) nocal ?_
      exact ih0 a0 0 _ h
    · rw [if_neg c2] at h
      refine .cond' (.tmp 15) true [c_ 52, c_ 53, c_ 7] (bT (nT (vF c2))) ?_
      refine .reg' [2] [] ⟨[(2, (B false))], [(256, [(S a0.f0), (.sl true a0.f1.length 3 (a0.f1.flatMap e107))])], [], []⟩ [c_ 53, c_ 7] aln nocal ?_
      have h := Option.some.inj h
      subst h
      exact .fin0 [] (B false) [] aln (.z .s)
  · rw [if_neg c1] at h
    refine .reg' [1, 15] [.no, .no, .c ⟨121, [(S a0.f0)], [], (B x1), [], [], [], [], (B x1), []⟩, .no, .v (B true)] ⟨[(1, (.pt 256 0 2)), (15, (B true))], [(256, [(S a0.f0), (.sl true a0.f1.length 3 (a0.f1.flatMap e107))])], [2 = 2 ∧ 0 + 1 ≤ 2, COK (hget [(256, [(S a0.f0), (.sl true a0.f1.length 3 (a0.f1.flatMap e107))])]) [(S a0.f0)] ⟨121, [(S a0.f0)], [], (B x1), [], [], [], [], (B x1), []⟩, (B (!x1) : V) = B true], [⟨121, [(S a0.f0)], [], (B x1), [], [], [], [], (B x1), []⟩]⟩ [c_ 13, c_ 7] (alc ⟨rfl, by decide⟩ (alc (cok0 false (a2c (.z .s) a2n) (.z .s) (fun h => absurd h (by decide))) (alc (bT (nT (vF c1))) aln))) (acal (impl_nameOk.J k a0.f0 _ hx1) nocal) ?_
    refine .cond' (.tmp 15) true [c_ 52, c_ 53, c_ 7] (rfl) ?_
    refine .reg' [2] [] ⟨[(2, (B false))], [(256, [(S a0.f0), (.sl true a0.f1.length 3 (a0.f1.flatMap e107))])], [], []⟩ [c_ 53, c_ 7] aln nocal ?_
    have h := Option.some.inj h
    subst h
    exact .fin0 [] (B false) [] aln (.z .s)
/-! impl_tripNamed_1: function 123 -/
def impl_tripNamed_1.f (a0 : S105) (a1c0 : ByteArray) : Option (Bool × ByteArray) := (some ((sEq a0.f0 a1c0), a1c0))
theorem impl_tripNamed_1.J (a0 : S105) (a1c0 : ByteArray) (r : (Bool × ByteArray)) (h : impl_tripNamed_1.f a0 a1c0 = some r) : J prog (.call 123 [(.ag [(S a0.f0), (.sl true a0.f1.length 3 (a0.f1.flatMap e107))]), (.pt 24 0 1)] [(24, [(S a1c0)])] (B r.1) [(24, [(S r.2)])]) := by
  unfold impl_tripNamed_1.f at h
  refine .call' [c_ 2, c_ 3] ?_
  refine .reg' [1, 2] [] ⟨[(1, (.pt 24 0 1)), (2, (.pt 256 0 2))], [(24, [(S a1c0)]), (256, [(S a0.f0), (.sl true a0.f1.length 3 (a0.f1.flatMap e107))])], [], []⟩ [c_ 6, c_ 7] aln nocal ?_
  refine .reg' [3] [] ⟨[(3, (B (sEq a0.f0 a1c0)))], [(24, [(S a1c0)]), (256, [(S a0.f0), (.sl true a0.f1.length 3 (a0.f1.flatMap e107))])], [2 = 2 ∧ 0 + 1 ≤ 2, 1 = 1 ∧ 0 + 1 ≤ 1], []⟩ [c_ 7] (alc ⟨rfl, by decide⟩ (alc ⟨rfl, by decide⟩ aln)) nocal ?_
  have h := Option.some.inj h
  subst h
  exact .fin' [] [(24, 24)] (B (sEq a0.f0 a1c0)) [] aln (shc 24 (a2c (.z .s) a2n) shn) (.z .s)
/-! slices_IndexFunc_1: function 122 -/
def slices_IndexFunc_1.l0 : Nat → (List S105) → ByteArray → Int → Option (Int × ByteArray)
 | 0, _, _, _ => none
 | k + 1, a0, x1, x2 => (if x2 < (a0.length : Int) then (if 0 ≤ x2 then ((impl_tripNamed_1.f (at_ a0 x2) x1).bind fun x3 => (if x3.1 = true then (some (x2, x3.2)) else (slices_IndexFunc_1.l0 k a0 x3.2 (wrap64 (x2 + 1))))) else none) else (some ((-1), x1)))
def slices_IndexFunc_1.f (k : Nat) (a0 : (List S105)) (a1c0 : ByteArray) : Option (Int × ByteArray) := (slices_IndexFunc_1.l0 k a0 a1c0 0)
theorem slices_IndexFunc_1.lab : ∀ k, (∀ (a0 : (List S105)) (x1 : ByteArray) (x2 : Int) (r : (Int × ByteArray)), slices_IndexFunc_1.l0 k a0 x1 x2 = some r → J prog (.run 122 [24] [l_ 26, b_ 0, c_ 7] [(0, (.sl true a0.length 2 (a0.flatMap (e105 true)))), (1, (.fn (.func 123) [] [(.pt 24 0 1)])), (7, (I (a0.length : Int))), (8, (I x2))] [(24, [(S x1)])] (I r.1) [(24, [(S r.2)])]))
 | 0 => (by intro a0 x1 x2 r h; unfold slices_IndexFunc_1.l0 at h; cases h)
 | k + 1 => by
  have ih0 := slices_IndexFunc_1.lab k
  · intro a0 x1 x2 r h
    unfold slices_IndexFunc_1.l0 at h
    refine .loop' [c_ 104, c_ 105, l_ 26, b_ 0, c_ 7] ?_
    refine .reg' [0, 1, 7, 8, 9] [] ⟨[(0, (.sl true a0.length 2 (a0.flatMap (e105 true)))), (1, (.fn (.func 123) [] [(.pt 24 0 1)])), (7, (I (a0.length : Int))), (8, (I x2)), (9, (B (decide (x2 < (a0.length : Int)))))], [(24, [(S x1)])], [], []⟩ [c_ 210, c_ 211, l_ 26, b_ 0, c_ 7] aln nocal ?_
    by_cases c1 : x2 < (a0.length : Int)
    · rw [if_pos c1] at h
      refine .cond' (.tmp 9) true [c_ 1688, c_ 1689, b_ 1, c_ 423, l_ 26, b_ 0, c_ 7] (bT (dT c1)) ?_
      refine .reg' [0, 1, 5, 7, 8] [] ⟨[(0, (.sl true a0.length 2 (a0.flatMap (e105 true)))), (1, (.fn (.func 123) [] [(.pt 24 0 1)])), (5, (I x2)), (7, (I (a0.length : Int))), (8, (I x2))], [(24, [(S x1)])], [], []⟩ [c_ 3378, c_ 3379, b_ 1, c_ 423, l_ 26, b_ 0, c_ 7] aln nocal ?_
      by_cases c2 : 0 ≤ x2
      · rw [if_pos c2] at h
        obtain ⟨x3, hx3, h⟩ := Option.bind_eq_some_iff.mp h
        refine .reg' [0, 1, 5, 7, 8, 16] [.no, .no, .no, .no, .v (.ag [(S (at_ a0 x2).f0), (.sl true (at_ a0 x2).f1.length 3 ((at_ a0 x2).f1.flatMap e107))]), .c ⟨123, [(.ag [(S (at_ a0 x2).f0), (.sl true (at_ a0 x2).f1.length 3 ((at_ a0 x2).f1.flatMap e107))]), (.pt 24 0 1)], [(24, [(S x1)])], (B x3.1), [(24, [(S x3.2)])], [], [(24, 24)], [(24, 24)], (B x3.1), [(24, [(S x3.2)])]⟩] ⟨[(0, (.sl true a0.length 2 (a0.flatMap (e105 true)))), (1, (.fn (.func 123) [] [(.pt 24 0 1)])), (5, (I x2)), (7, (I (a0.length : Int))), (8, (I x2)), (16, (B x3.1))], [(24, [(S x3.2)])], [(0 : Int) ≤ x2 ∧ x2 < (a0.length : Int), rdC prog 106 ((a0.flatMap (e105 true)).drop (x2.toNat * 2)) = (.ag [(S (at_ a0 x2).f0), (.sl true (at_ a0 x2).f1.length 3 ((at_ a0 x2).f1.flatMap e107))]), 2 ≤ ((a0.flatMap (e105 true)).drop (x2.toNat * 2)).length, COK (hget [(24, [(S x1)])]) [(.ag [(S (at_ a0 x2).f0), (.sl true (at_ a0 x2).f1.length 3 ((at_ a0 x2).f1.flatMap e107))]), (.pt 24 0 1)] ⟨123, [(.ag [(S (at_ a0 x2).f0), (.sl true (at_ a0 x2).f1.length 3 ((at_ a0 x2).f1.flatMap e107))]), (.pt 24 0 1)], [(24, [(S x1)])], (B x3.1), [(24, [(S x3.2)])], [], [(24, 24)], [(24, 24)], (B x3.1), [(24, [(S x3.2)])]⟩], [⟨123, [(.ag [(S (at_ a0 x2).f0), (.sl true (at_ a0 x2).f1.length 3 ((at_ a0 x2).f1.flatMap e107))]), (.pt 24 0 1)], [(24, [(S x1)])], (B x3.1), [(24, [(S x3.2)])], [], [(24, 24)], [(24, 24)], (B x3.1), [(24, [(S x3.2)])]⟩]⟩ [c_ 3379, b_ 1, c_ 423, l_ 26, b_ 0, c_ 7] (alc ⟨c2, c1⟩ (alc (ldA (e105_ok true) rfl rfl c2 c1) (alc (okI (e105_ok true) c2 c1 (by decide)) (alc (cokW false (a2c (.z (frz_ag (a2c .s (a2c (frz_sl e107_ok (fun h => h)) a2n)))) (a2c (.pt (memP_mem (p := (24, 24)) rfl)) a2n)) (akc ⟨_, _, rfl, rfl, (a2c (.z .s) a2n)⟩ akn) (akc (.inl rfl) akn) (.z .s) (akc ⟨_, _, rfl, rfl, (a2c (.z .s) a2n)⟩ akn) (fun h => absurd h (by decide))) aln)))) (acal (impl_tripNamed_1.J (at_ a0 x2) x1 _ hx3) nocal) ?_
        by_cases c3 : x3.1 = true
        · rw [if_pos c3] at h
          refine .cond' (.tmp 16) true [c_ 13516, c_ 13517, b_ 1, c_ 423, l_ 26, b_ 0, c_ 7] (bT c3) ?_
          refine .reg' [4] [] ⟨[(4, (I x2))], [(24, [(S x3.2)])], [], []⟩ [c_ 13517, b_ 1, c_ 423, l_ 26, b_ 0, c_ 7] aln nocal ?_
          have h := Option.some.inj h
          subst h
          exact .fin' [] [(24, 24)] (I x2) [] aln (shc 24 (a2c (.z .s) a2n) shn) (.z .s)
        · rw [if_neg c3] at h
          refine .cond' (.tmp 16) false [c_ 423, l_ 26, b_ 0, c_ 7] (bF (vF c3)) ?_
          refine .reg' [0, 1, 7, 8] [] ⟨[(0, (.sl true a0.length 2 (a0.flatMap (e105 true)))), (1, (.fn (.func 123) [] [(.pt 24 0 1)])), (7, (I (a0.length : Int))), (8, (I (wrap64 (x2 + 1))))], [(24, [(S x3.2)])], [], []⟩ [l_ 26, b_ 0, c_ 7] aln nocal ?_
          exact ih0 a0 x3.2 (wrap64 (x2 + 1)) _ h
      · rw [if_neg c2] at h
        cases h
    · rw [if_neg c1] at h
      refine .cond' (.tmp 9) false [c_ 14, c_ 15] (bF (dF c1)) ?_
      refine .reg' [4] [] ⟨[(4, (I (-1)))], [(24, [(S x1)])], [], []⟩ [c_ 15] aln nocal ?_
      have h := Option.some.inj h
      subst h
      exact .fin' [] [(24, 24)] (I (-1)) [] aln (shc 24 (a2c (.z .s) a2n) shn) (.z .s)
theorem slices_IndexFunc_1.J (k : Nat) (a0 : (List S105)) (a1c0 : ByteArray) (r : (Int × ByteArray)) (h : slices_IndexFunc_1.f k a0 a1c0 = some r) : J prog (.call 122 [(.sl true a0.length 2 (a0.flatMap (e105 true))), (.fn (.func 123) [] [(.pt 24 0 1)])] [(24, [(S a1c0)])] (I r.1) [(24, [(S r.2)])]) := by
  unfold slices_IndexFunc_1.f at h
  have ih0 := slices_IndexFunc_1.lab k
  refine .call' [c_ 2, c_ 3] ?_
  refine .reg' [0, 1] [] ⟨[(0, (.sl true a0.length 2 (a0.flatMap (e105 true)))), (1, (.fn (.func 123) [] [(.pt 24 0 1)]))], [(24, [(S a1c0)])], [], []⟩ [c_ 12, c_ 13, c_ 7] aln nocal ?_
  refine .reg' [0, 1, 7, 8] [] ⟨[(0, (.sl true a0.length 2 (a0.flatMap (e105 true)))), (1, (.fn (.func 123) [] [(.pt 24 0 1)])), (7, (I (a0.length : Int))), (8, (I 0))], [(24, [(S a1c0)])], [], []⟩ [l_ 26, b_ 0, c_ 7] aln nocal ?_
  exact ih0 a0 a1c0 0 _ h
/-! impl_tripNamed: function 107 -/
def impl_tripNamed.f (k : Nat) (a0 : (List S105)) (a1 : ByteArray) : Option Int := ((slices_IndexFunc_1.f k a0 a1).bind fun x1 => (some x1.1))
theorem impl_tripNamed.J (k : Nat) (a0 : (List S105)) (a1 : ByteArray) (r : Int) (h : impl_tripNamed.f k a0 a1 = some r) : J prog (.call 107 [(.sl true a0.length 2 (a0.flatMap (e105 true))), (S a1)] [] (I r) []) := by
  unfold impl_tripNamed.f at h
  refine .call' [c_ 2, c_ 3] ?_
  refine .reg' [0, 3] [] ⟨[(0, (.sl true a0.length 2 (a0.flatMap (e105 true)))), (3, (.pt 256 0 1))], [(256, [(S a1)])], [], []⟩ [c_ 6, c_ 7] aln nocal ?_
  obtain ⟨x1, hx1, h⟩ := Option.bind_eq_some_iff.mp h
  refine .reg' [4] [.no, .no, .c ⟨122, [(.sl true a0.length 2 (a0.flatMap (e105 true))), (.fn (.func 123) [] [(.pt 24 0 1)])], [(24, [(S a1)])], (I x1.1), [(24, [(S x1.2)])], [], [(256, 24)], [(256, 24)], (I x1.1), [(256, [(S x1.2)])]⟩] ⟨[(4, (I x1.1))], [(256, [(S x1.2)])], [COK (hget [(256, [(S a1)])]) [(.sl true a0.length 2 (a0.flatMap (e105 true))), (.fn (.func 123) [] [(.pt 256 0 1)])] ⟨122, [(.sl true a0.length 2 (a0.flatMap (e105 true))), (.fn (.func 123) [] [(.pt 24 0 1)])], [(24, [(S a1)])], (I x1.1), [(24, [(S x1.2)])], [], [(256, 24)], [(256, 24)], (I x1.1), [(256, [(S x1.2)])]⟩], [⟨122, [(.sl true a0.length 2 (a0.flatMap (e105 true))), (.fn (.func 123) [] [(.pt 24 0 1)])], [(24, [(S a1)])], (I x1.1), [(24, [(S x1.2)])], [], [(256, 24)], [(256, 24)], (I x1.1), [(256, [(S x1.2)])]⟩]⟩ [c_ 7] (alc (cokW false (a2c (.z (frz_sl (e105_ok true) (fun h => h))) (a2c (cnv_fn a2n (a2c (.pt (memP_mem (p := (256, 24)) rfl)) a2n)) a2n)) (akc ⟨_, _, rfl, rfl, (a2c (.z .s) a2n)⟩ akn) (akc (.inl rfl) akn) (.z .s) (akc ⟨_, _, rfl, rfl, (a2c (.z .s) a2n)⟩ akn) (fun h => absurd h (by decide))) aln) (acal (slices_IndexFunc_1.J k a0 a1 _ hx1) nocal) ?_
  have h := Option.some.inj h
  subst h
  exact .fin0 [] (I x1.1) [] aln (.z .s)
/-! impl_TableOk: function 74 -/
def impl_TableOk.l0 : Nat → (List S105) → Int → Option Bool
 | 0, _, _ => none
 | k + 1, a0, x1 => (if x1 < (a0.length : Int) then (if 0 ≤ x1 then ((impl_TripOk.f k (at_ a0 x1)).bind fun x2 => (if x2 = true then (if x1 ≤ (a0.length : Int) then ((impl_tripNamed.f k ((a0.drop (0 : Int).toNat).take (x1.toNat - (0 : Int).toNat)) ((at_ a0 x1).f0)).bind fun x3 => (if x3 ≥ 0 then (some false) else (impl_TableOk.l0 k a0 (wrap64 (x1 + 1))))) else none) else (some false))) else none) else (some true))
def impl_TableOk.f (k : Nat) (a0 : (List S105)) : Option Bool := (if (a0.length : Int) > 24 then (some false) else (impl_TableOk.l0 k a0 0))
theorem impl_TableOk.lab : ∀ k, (∀ (a0 : (List S105)) (x1 : Int) (r : Bool), impl_TableOk.l0 k a0 x1 = some r → J prog (.run 74 [] [l_ 58, b_ 0, c_ 15] [(0, (.sl true a0.length 2 (a0.flatMap (e105 true)))), (8, (.sl true a0.length 2 (a0.flatMap (e105 true)))), (9, (I (a0.length : Int))), (10, (I x1))] [] (B r) []))
 | 0 => (by intro a0 x1 r h; unfold impl_TableOk.l0 at h; cases h)
 | k + 1 => by
  have ih0 := impl_TableOk.lab k
  · intro a0 x1 r h
    unfold impl_TableOk.l0 at h
    refine .loop' [c_ 232, c_ 233, l_ 58, b_ 0, c_ 15] ?_
    refine .reg' [0, 8, 9, 10, 11] [] ⟨[(0, (.sl true a0.length 2 (a0.flatMap (e105 true)))), (8, (.sl true a0.length 2 (a0.flatMap (e105 true)))), (9, (I (a0.length : Int))), (10, (I x1)), (11, (B (decide (x1 < (a0.length : Int)))))], [], [], []⟩ [c_ 466, c_ 467, l_ 58, b_ 0, c_ 15] aln nocal ?_
    by_cases c2 : x1 < (a0.length : Int)
    · rw [if_pos c2] at h
      refine .cond' (.tmp 11) true [c_ 3736, c_ 3737, b_ 1, c_ 935, l_ 58, b_ 0, c_ 15] (bT (dT c2)) ?_
      by_cases c3 : 0 ≤ x1
      · rw [if_pos c3] at h
        refine .reg' [0, 3, 4, 8, 9, 10] [.no, .no, .v (.ag [(S (at_ a0 x1).f0), (.sl true (at_ a0 x1).f1.length 3 ((at_ a0 x1).f1.flatMap e107))])] ⟨[(0, (.sl true a0.length 2 (a0.flatMap (e105 true)))), (3, (I x1)), (4, (.pt 1539 0 2)), (8, (.sl true a0.length 2 (a0.flatMap (e105 true)))), (9, (I (a0.length : Int))), (10, (I x1))], [(1539, [(S (at_ a0 x1).f0), (.sl true (at_ a0 x1).f1.length 3 ((at_ a0 x1).f1.flatMap e107))])], [(0 : Int) ≤ x1 ∧ x1 < (a0.length : Int), rdC prog 106 ((a0.flatMap (e105 true)).drop (x1.toNat * 2)) = (.ag [(S (at_ a0 x1).f0), (.sl true (at_ a0 x1).f1.length 3 ((at_ a0 x1).f1.flatMap e107))]), 2 ≤ ((a0.flatMap (e105 true)).drop (x1.toNat * 2)).length, 2 = 2 ∧ 0 + 2 ≤ 2], []⟩ [c_ 7474, c_ 7475, b_ 1, c_ 935, l_ 58, b_ 0, c_ 15] (alc ⟨c3, c2⟩ (alc (ldA (e105_ok true) rfl rfl c3 c2) (alc (okI (e105_ok true) c3 c2 (by decide)) (alc ⟨rfl, by decide⟩ aln)))) nocal ?_
        obtain ⟨x2, hx2, h⟩ := Option.bind_eq_some_iff.mp h
        by_cases c4 : x2 = true
        · rw [if_pos c4] at h
          by_cases c5 : x1 ≤ (a0.length : Int)
          · rw [if_pos c5] at h
            obtain ⟨x3, hx3, h⟩ := Option.bind_eq_some_iff.mp h
            refine .reg' [0, 8, 9, 10, 26] [.no, .c ⟨106, [(.ag [(S (at_ a0 x1).f0), (.sl true (at_ a0 x1).f1.length 3 ((at_ a0 x1).f1.flatMap e107))])], [], (B x2), [], [], [], [], (B x2), []⟩, .no, .v (B false), .no, .no, .v (.sl true ((a0.drop (0 : Int).toNat).take (x1.toNat - (0 : Int).toNat)).length 2 (((a0.drop (0 : Int).toNat).take (x1.toNat - (0 : Int).toNat)).flatMap (e105 true))), .no, .no, .c ⟨107, [(.sl true ((a0.drop (0 : Int).toNat).take (x1.toNat - (0 : Int).toNat)).length 2 (((a0.drop (0 : Int).toNat).take (x1.toNat - (0 : Int).toNat)).flatMap (e105 true))), (S (at_ a0 x1).f0)], [], (I x3), [], [], [], [], (I x3), []⟩] ⟨[(0, (.sl true a0.length 2 (a0.flatMap (e105 true)))), (8, (.sl true a0.length 2 (a0.flatMap (e105 true)))), (9, (I (a0.length : Int))), (10, (I x1)), (26, (B (decide (x3 ≥ 0))))], [(1539, [(S (at_ a0 x1).f0), (.sl true (at_ a0 x1).f1.length 3 ((at_ a0 x1).f1.flatMap e107))])], [2 = 2 ∧ 0 + 2 ≤ 2, COK (hget [(1539, [(S (at_ a0 x1).f0), (.sl true (at_ a0 x1).f1.length 3 ((at_ a0 x1).f1.flatMap e107))])]) [(.ag [(S (at_ a0 x1).f0), (.sl true (at_ a0 x1).f1.length 3 ((at_ a0 x1).f1.flatMap e107))])] ⟨106, [(.ag [(S (at_ a0 x1).f0), (.sl true (at_ a0 x1).f1.length 3 ((at_ a0 x1).f1.flatMap e107))])], [], (B x2), [], [], [], [], (B x2), []⟩, (B (!x2) : V) = B false, V.sl true (x1.toNat - (0 : Int).toNat) 2 (((a0.flatMap (e105 true)).drop ((0 : Int).toNat * 2)).take ((x1.toNat - (0 : Int).toNat) * 2)) = (.sl true ((a0.drop (0 : Int).toNat).take (x1.toNat - (0 : Int).toNat)).length 2 (((a0.drop (0 : Int).toNat).take (x1.toNat - (0 : Int).toNat)).flatMap (e105 true))), 0 ≤ (0 : Int) ∧ 0 ≤ x1 ∧ x1 ≤ (a0.length : Int), 2 = 2 ∧ 0 + 1 ≤ 2, COK (hget [(1539, [(S (at_ a0 x1).f0), (.sl true (at_ a0 x1).f1.length 3 ((at_ a0 x1).f1.flatMap e107))])]) [(.sl true ((a0.drop (0 : Int).toNat).take (x1.toNat - (0 : Int).toNat)).length 2 (((a0.drop (0 : Int).toNat).take (x1.toNat - (0 : Int).toNat)).flatMap (e105 true))), (S (at_ a0 x1).f0)] ⟨107, [(.sl true ((a0.drop (0 : Int).toNat).take (x1.toNat - (0 : Int).toNat)).length 2 (((a0.drop (0 : Int).toNat).take (x1.toNat - (0 : Int).toNat)).flatMap (e105 true))), (S (at_ a0 x1).f0)], [], (I x3), [], [], [], [], (I x3), []⟩], [⟨106, [(.ag [(S (at_ a0 x1).f0), (.sl true (at_ a0 x1).f1.length 3 ((at_ a0 x1).f1.flatMap e107))])], [], (B x2), [], [], [], [], (B x2), []⟩, ⟨107, [(.sl true ((a0.drop (0 : Int).toNat).take (x1.toNat - (0 : Int).toNat)).length 2 (((a0.drop (0 : Int).toNat).take (x1.toNat - (0 : Int).toNat)).flatMap (e105 true))), (S (at_ a0 x1).f0)], [], (I x3), [], [], [], [], (I x3), []⟩]⟩ [c_ 7475, b_ 1, c_ 935, l_ 58, b_ 0, c_ 15] (alc ⟨rfl, by decide⟩ (alc (cok0 false (a2c (.z (frz_ag (a2c .s (a2c (frz_sl e107_ok (fun h => h)) a2n)))) a2n) (.z .s) (fun h => absurd h (by decide))) (alc (bF (nF c4)) (alc (slS (e105_ok true) (by omega) (by omega)) (alc ⟨(by decide), c3, c5⟩ (alc ⟨rfl, by decide⟩ (alc (cok0 false (a2c (.z (frz_sl (e105_ok true) (fun h => h))) (a2c (.z .s) a2n)) (.z .s) (fun h => absurd h (by decide))) aln))))))) (acal (impl_TripOk.J k (at_ a0 x1) _ hx2) (acal (impl_tripNamed.J k ((a0.drop (0 : Int).toNat).take (x1.toNat - (0 : Int).toNat)) ((at_ a0 x1).f0) _ hx3) nocal)) ?_
            by_cases c6 : x3 ≥ 0
            · rw [if_pos c6] at h
              refine .cond' (.tmp 26) true [c_ 29900, c_ 29901, b_ 1, c_ 935, l_ 58, b_ 0, c_ 15] (bT (dT c6)) ?_
              refine .reg' [2] [] ⟨[(2, (B false))], [(1539, [(S (at_ a0 x1).f0), (.sl true (at_ a0 x1).f1.length 3 ((at_ a0 x1).f1.flatMap e107))])], [], []⟩ [c_ 29901, b_ 1, c_ 935, l_ 58, b_ 0, c_ 15] aln nocal ?_
              have h := Option.some.inj h
              subst h
              exact .fin0 [] (B false) [] aln (.z .s)
            · rw [if_neg c6] at h
              refine .cond' (.tmp 26) false [c_ 935, l_ 58, b_ 0, c_ 15] (bF (dF c6)) ?_
              refine .reg' [0, 8, 9, 10] [] ⟨[(0, (.sl true a0.length 2 (a0.flatMap (e105 true)))), (8, (.sl true a0.length 2 (a0.flatMap (e105 true)))), (9, (I (a0.length : Int))), (10, (I (wrap64 (x1 + 1))))], [(1539, [(S (at_ a0 x1).f0), (.sl true (at_ a0 x1).f1.length 3 ((at_ a0 x1).f1.flatMap e107))])], [], []⟩ [l_ 58, b_ 0, c_ 15] aln nocal ?_
              refine .wk' [] [] [(0, (.sl true a0.length 2 (a0.flatMap (e105 true)))), (8, (.sl true a0.length 2 (a0.flatMap (e105 true)))), (9, (I (a0.length : Int))), (10, (I (wrap64 (x1 + 1))))] [] shn (enc_ (.z (frz_sl (e105_ok true) (fun h => h))) (enc_ (.z (frz_sl (e105_ok true) (fun h => h))) (enc_ (.z .s) (enc_ (.z .s) enn)))) ?_
              exact ih0 a0 (wrap64 (x1 + 1)) _ h
          · rw [if_neg c5] at h
            cases h
        · rw [if_neg c4] at h
          refine .reg' [0, 8, 9, 10, 26] [.no, .c ⟨106, [(.ag [(S (at_ a0 x1).f0), (.sl true (at_ a0 x1).f1.length 3 ((at_ a0 x1).f1.flatMap e107))])], [], (B x2), [], [], [], [], (B x2), []⟩, .no, .v (B true)] ⟨[(0, (.sl true a0.length 2 (a0.flatMap (e105 true)))), (8, (.sl true a0.length 2 (a0.flatMap (e105 true)))), (9, (I (a0.length : Int))), (10, (I x1)), (26, (B true))], [(1539, [(S (at_ a0 x1).f0), (.sl true (at_ a0 x1).f1.length 3 ((at_ a0 x1).f1.flatMap e107))])], [2 = 2 ∧ 0 + 2 ≤ 2, COK (hget [(1539, [(S (at_ a0 x1).f0), (.sl true (at_ a0 x1).f1.length 3 ((at_ a0 x1).f1.flatMap e107))])]) [(.ag [(S (at_ a0 x1).f0), (.sl true (at_ a0 x1).f1.length 3 ((at_ a0 x1).f1.flatMap e107))])] ⟨106, [(.ag [(S (at_ a0 x1).f0), (.sl true (at_ a0 x1).f1.length 3 ((at_ a0 x1).f1.flatMap e107))])], [], (B x2), [], [], [], [], (B x2), []⟩, (B (!x2) : V) = B true], [⟨106, [(.ag [(S (at_ a0 x1).f0), (.sl true (at_ a0 x1).f1.length 3 ((at_ a0 x1).f1.flatMap e107))])], [], (B x2), [], [], [], [], (B x2), []⟩]⟩ [c_ 7475, b_ 1, c_ 935, l_ 58, b_ 0, c_ 15] (alc ⟨rfl, by decide⟩ (alc (cok0 false (a2c (.z (frz_ag (a2c .s (a2c (frz_sl e107_ok (fun h => h)) a2n)))) a2n) (.z .s) (fun h => absurd h (by decide))) (alc (bT (nT (vF c4))) aln))) (acal (impl_TripOk.J k (at_ a0 x1) _ hx2) nocal) ?_
          refine .cond' (.tmp 26) true [c_ 29900, c_ 29901, b_ 1, c_ 935, l_ 58, b_ 0, c_ 15] (rfl) ?_
          refine .reg' [2] [] ⟨[(2, (B false))], [(1539, [(S (at_ a0 x1).f0), (.sl true (at_ a0 x1).f1.length 3 ((at_ a0 x1).f1.flatMap e107))])], [], []⟩ [c_ 29901, b_ 1, c_ 935, l_ 58, b_ 0, c_ 15] aln nocal ?_
          have h := Option.some.inj h
          subst h
          exact .fin0 [] (B false) [] aln (.z .s)
      · rw [if_neg c3] at h
        cases h
    · rw [if_neg c2] at h
      refine .cond' (.tmp 11) false [c_ 30, c_ 31] (bF (dF c2)) ?_
      refine .reg' [2] [] ⟨[(2, (B true))], [], [], []⟩ [c_ 31] aln nocal ?_
      have h := Option.some.inj h
      subst h
      exact .fin0 [] (B true) [] aln (.z .s)
theorem impl_TableOk.J (k : Nat) (a0 : (List S105)) (r : Bool) (h : impl_TableOk.f k a0 = some r) : J prog (.call 74 [(.sl true a0.length 2 (a0.flatMap (e105 true)))] [] (B r) []) := by
  unfold impl_TableOk.f at h
  have ih0 := impl_TableOk.lab k
  refine .call' [c_ 2, c_ 3] ?_
  refine .reg' [0] [] ⟨[(0, (.sl true a0.length 2 (a0.flatMap (e105 true))))], [], [], []⟩ [c_ 12, c_ 13, c_ 7] aln nocal ?_
  refine .reg' [0, 7] [] ⟨[(0, (.sl true a0.length 2 (a0.flatMap (e105 true)))), (7, (B (decide ((a0.length : Int) > 24))))], [], [], []⟩ [c_ 13, c_ 7] aln nocal ?_
  by_cases c1 : (a0.length : Int) > 24
  · rw [if_pos c1] at h
    refine .cond' (.tmp 7) true [c_ 52, c_ 53, c_ 7] (bT (dT c1)) ?_
    refine .reg' [2] [] ⟨[(2, (B false))], [], [], []⟩ [c_ 53, c_ 7] aln nocal ?_
    have h := Option.some.inj h
    subst h
    exact .fin0 [] (B false) [] aln (.z .s)
  · rw [if_neg c1] at h
    refine .cond' (.tmp 7) false [c_ 28, c_ 29, c_ 15] (bF (dF c1)) ?_
    refine .reg' [0, 8, 9, 10] [] ⟨[(0, (.sl true a0.length 2 (a0.flatMap (e105 true)))), (8, (.sl true a0.length 2 (a0.flatMap (e105 true)))), (9, (I (a0.length : Int))), (10, (I 0))], [], [], []⟩ [l_ 58, b_ 0, c_ 15] aln nocal ?_
    exact ih0 a0 0 _ h
/-! impl_changeOk: function 75 -/
def impl_changeOk.f (a0 : Int) : Option Bool := ((impl_between.f a0 0 60).bind fun x1 => (some x1))
theorem impl_changeOk.J (a0 : Int) (r : Bool) (h : impl_changeOk.f a0 = some r) : J prog (.call 75 [(I a0)] [] (B r) []) := by
  unfold impl_changeOk.f at h
  refine .call' [c_ 2, c_ 3] ?_
  refine .reg' [0] [] ⟨[(0, (I a0))], [], [], []⟩ [c_ 6, c_ 7] aln nocal ?_
  obtain ⟨x1, hx1, h⟩ := Option.bind_eq_some_iff.mp h
  refine .reg' [2] [.no, .c ⟨57, [(I a0), (I 0), (I 60)], [], (B x1), [], [], [], [], (B x1), []⟩] ⟨[(2, (B x1))], [], [COK (hget []) [(I a0), (I 0), (I 60)] ⟨57, [(I a0), (I 0), (I 60)], [], (B x1), [], [], [], [], (B x1), []⟩], [⟨57, [(I a0), (I 0), (I 60)], [], (B x1), [], [], [], [], (B x1), []⟩]⟩ [c_ 7] (alc (cok0 false (a2c (.z .s) (a2c (.z .s) (a2c (.z .s) a2n))) (.z .s) (fun h => absurd h (by decide))) aln) (acal (impl_between.J a0 0 60 _ hx1) nocal) ?_
  have h := Option.some.inj h
  subst h
  exact .fin0 [] (B x1) [] aln (.z .s)
/-! impl_questionOk: function 94 -/
def impl_questionOk.f (k : Nat) (a0 : (List S105)) (a1 : Int) (a2 : Int) (a3 : Int) (a4 : Int) (a5 : Int) : Option Bool := ((impl_TableOk.f k a0).bind fun x1 => (if x1 = true then ((impl_between.f a1 0 29).bind fun x2 => (if x2 = true then ((impl_between.f a2 0 29).bind fun x3 => (if x3 = true then ((impl_isMinute.f a3).bind fun x4 => (if x4 = true then ((impl_changeOk.f a4).bind fun x5 => (if x5 = true then ((impl_between.f a5 0 5).bind fun x6 => (some x6)) else (some false))) else (some false))) else (some false))) else (some false))) else (some false)))
theorem impl_questionOk.J (k : Nat) (a0 : (List S105)) (a1 : Int) (a2 : Int) (a3 : Int) (a4 : Int) (a5 : Int) (r : Bool) (h : impl_questionOk.f k a0 a1 a2 a3 a4 a5 = some r) : J prog (.call 94 [(.sl true a0.length 2 (a0.flatMap (e105 true))), (I a1), (I a2), (I a3), (I a4), (I a5)] [] (B r) []) := by
  unfold impl_questionOk.f at h
  refine .call' [c_ 2, c_ 3] ?_
  refine .reg' [0, 1, 2, 3, 4, 5] [] ⟨[(0, (.sl true a0.length 2 (a0.flatMap (e105 true)))), (1, (I a1)), (2, (I a2)), (3, (I a3)), (4, (I a4)), (5, (I a5))], [], [], []⟩ [c_ 12, c_ 13, c_ 7] aln nocal ?_
  obtain ⟨x1, hx1, h⟩ := Option.bind_eq_some_iff.mp h
  by_cases c1 : x1 = true
  · rw [if_pos c1] at h
    obtain ⟨x2, hx2, h⟩ := Option.bind_eq_some_iff.mp h
    by_cases c2 : x2 = true
    · rw [if_pos c2] at h
      obtain ⟨x3, hx3, h⟩ := Option.bind_eq_some_iff.mp h
      refine .reg' [3, 4, 5, 25] [.no, .c ⟨74, [(.sl true a0.length 2 (a0.flatMap (e105 true)))], [], (B x1), [], [], [], [], (B x1), []⟩, .no, .v (B false), .no, .c ⟨57, [(I a1), (I 0), (I 29)], [], (B x2), [], [], [], [], (B x2), []⟩, .no, .no, .v (B false), .no, .c ⟨57, [(I a2), (I 0), (I 29)], [], (B x3), [], [], [], [], (B x3), []⟩] ⟨[(3, (I a3)), (4, (I a4)), (5, (I a5)), (25, (B (!x3)))], [], [COK (hget []) [(.sl true a0.length 2 (a0.flatMap (e105 true)))] ⟨74, [(.sl true a0.length 2 (a0.flatMap (e105 true)))], [], (B x1), [], [], [], [], (B x1), []⟩, (B (!x1) : V) = B false, COK (hget []) [(I a1), (I 0), (I 29)] ⟨57, [(I a1), (I 0), (I 29)], [], (B x2), [], [], [], [], (B x2), []⟩, (B (!x2) : V) = B false, COK (hget []) [(I a2), (I 0), (I 29)] ⟨57, [(I a2), (I 0), (I 29)], [], (B x3), [], [], [], [], (B x3), []⟩], [⟨74, [(.sl true a0.length 2 (a0.flatMap (e105 true)))], [], (B x1), [], [], [], [], (B x1), []⟩, ⟨57, [(I a1), (I 0), (I 29)], [], (B x2), [], [], [], [], (B x2), []⟩, ⟨57, [(I a2), (I 0), (I 29)], [], (B x3), [], [], [], [], (B x3), []⟩]⟩ [c_ 13, c_ 7] (alc (cok0 false (a2c (.z (frz_sl (e105_ok true) (fun h => h))) a2n) (.z .s) (fun h => absurd h (by decide))) (alc (bF (nF c1)) (alc (cok0 false (a2c (.z .s) (a2c (.z .s) (a2c (.z .s) a2n))) (.z .s) (fun h => absurd h (by decide))) (alc (bF (nF c2)) (alc (cok0 false (a2c (.z .s) (a2c (.z .s) (a2c (.z .s) a2n))) (.z .s) (fun h => absurd h (by decide))) aln))))) (acal (impl_TableOk.J k a0 _ hx1) (acal (impl_between.J a1 0 29 _ hx2) (acal (impl_between.J a2 0 29 _ hx3) nocal))) ?_
      by_cases c3 : x3 = true
      · rw [if_pos c3] at h
        refine .cond' (.tmp 25) false [c_ 14, c_ 15] (bF (nF c3)) ?_
        obtain ⟨x4, hx4, h⟩ := Option.bind_eq_some_iff.mp h
        by_cases c4 : x4 = true
        · rw [if_pos c4] at h
          obtain ⟨x5, hx5, h⟩ := Option.bind_eq_some_iff.mp h
          by_cases c5 : x5 = true
          · rw [if_pos c5] at h
            obtain ⟨x6, hx6, h⟩ := Option.bind_eq_some_iff.mp h
            refine .reg' [12] [.no, .c ⟨115, [(I a3)], [], (B x4), [], [], [], [], (B x4), []⟩, .v (B true), .no, .c ⟨75, [(I a4)], [], (B x5), [], [], [], [], (B x5), []⟩, .no, .v (B true), .no, .c ⟨57, [(I a5), (I 0), (I 5)], [], (B x6), [], [], [], [], (B x6), []⟩] ⟨[(12, (B x6))], [], [COK (hget []) [(I a3)] ⟨115, [(I a3)], [], (B x4), [], [], [], [], (B x4), []⟩, (B x4 : V) = B true, COK (hget []) [(I a4)] ⟨75, [(I a4)], [], (B x5), [], [], [], [], (B x5), []⟩, (B x5 : V) = B true, COK (hget []) [(I a5), (I 0), (I 5)] ⟨57, [(I a5), (I 0), (I 5)], [], (B x6), [], [], [], [], (B x6), []⟩], [⟨115, [(I a3)], [], (B x4), [], [], [], [], (B x4), []⟩, ⟨75, [(I a4)], [], (B x5), [], [], [], [], (B x5), []⟩, ⟨57, [(I a5), (I 0), (I 5)], [], (B x6), [], [], [], [], (B x6), []⟩]⟩ [c_ 15] (alc (cok0 false (a2c (.z .s) a2n) (.z .s) (fun h => absurd h (by decide))) (alc (bT c4) (alc (cok0 false (a2c (.z .s) a2n) (.z .s) (fun h => absurd h (by decide))) (alc (bT c5) (alc (cok0 false (a2c (.z .s) (a2c (.z .s) (a2c (.z .s) a2n))) (.z .s) (fun h => absurd h (by decide))) aln))))) (acal (impl_isMinute.J a3 _ hx4) (acal (impl_changeOk.J a4 _ hx5) (acal (impl_between.J a5 0 5 _ hx6) nocal))) ?_
            have h := Option.some.inj h
            subst h
            exact .fin0 [] (B x6) [] aln (.z .s)
          · rw [if_neg c5] at h
            refine .reg' [12] [.no, .c ⟨115, [(I a3)], [], (B x4), [], [], [], [], (B x4), []⟩, .v (B true), .no, .c ⟨75, [(I a4)], [], (B x5), [], [], [], [], (B x5), []⟩, .no, .v (B false)] ⟨[(12, (B false))], [], [COK (hget []) [(I a3)] ⟨115, [(I a3)], [], (B x4), [], [], [], [], (B x4), []⟩, (B x4 : V) = B true, COK (hget []) [(I a4)] ⟨75, [(I a4)], [], (B x5), [], [], [], [], (B x5), []⟩, (B x5 : V) = B false], [⟨115, [(I a3)], [], (B x4), [], [], [], [], (B x4), []⟩, ⟨75, [(I a4)], [], (B x5), [], [], [], [], (B x5), []⟩]⟩ [c_ 15] (alc (cok0 false (a2c (.z .s) a2n) (.z .s) (fun h => absurd h (by decide))) (alc (bT c4) (alc (cok0 false (a2c (.z .s) a2n) (.z .s) (fun h => absurd h (by decide))) (alc (bF (vF c5)) aln)))) (acal (impl_isMinute.J a3 _ hx4) (acal (impl_changeOk.J a4 _ hx5) nocal)) ?_
            have h := Option.some.inj h
            subst h
            exact .fin0 [] (B false) [] aln (.z .s)
        · rw [if_neg c4] at h
          refine .reg' [12] [.no, .c ⟨115, [(I a3)], [], (B x4), [], [], [], [], (B x4), []⟩, .v (B false)] ⟨[(12, (B false))], [], [COK (hget []) [(I a3)] ⟨115, [(I a3)], [], (B x4), [], [], [], [], (B x4), []⟩, (B x4 : V) = B false], [⟨115, [(I a3)], [], (B x4), [], [], [], [], (B x4), []⟩]⟩ [c_ 15] (alc (cok0 false (a2c (.z .s) a2n) (.z .s) (fun h => absurd h (by decide))) (alc (bF (vF c4)) aln)) (acal (impl_isMinute.J a3 _ hx4) nocal) ?_
          have h := Option.some.inj h
          subst h
          exact .fin0 [] (B false) [] aln (.z .s)
      · rw [if_neg c3] at h
        refine .cond' (.tmp 25) true [c_ 52, c_ 53, c_ 7] (bT (nT (vF c3))) ?_
        refine .reg' [12] [] ⟨[(12, (B false))], [], [], []⟩ [c_ 53, c_ 7] aln nocal ?_
        have h := Option.some.inj h
        subst h
        exact .fin0 [] (B false) [] aln (.z .s)
    · rw [if_neg c2] at h
      refine .reg' [3, 4, 5, 25] [.no, .c ⟨74, [(.sl true a0.length 2 (a0.flatMap (e105 true)))], [], (B x1), [], [], [], [], (B x1), []⟩, .no, .v (B false), .no, .c ⟨57, [(I a1), (I 0), (I 29)], [], (B x2), [], [], [], [], (B x2), []⟩, .no, .no, .v (B true)] ⟨[(3, (I a3)), (4, (I a4)), (5, (I a5)), (25, (B true))], [], [COK (hget []) [(.sl true a0.length 2 (a0.flatMap (e105 true)))] ⟨74, [(.sl true a0.length 2 (a0.flatMap (e105 true)))], [], (B x1), [], [], [], [], (B x1), []⟩, (B (!x1) : V) = B false, COK (hget []) [(I a1), (I 0), (I 29)] ⟨57, [(I a1), (I 0), (I 29)], [], (B x2), [], [], [], [], (B x2), []⟩, (B (!x2) : V) = B true], [⟨74, [(.sl true a0.length 2 (a0.flatMap (e105 true)))], [], (B x1), [], [], [], [], (B x1), []⟩, ⟨57, [(I a1), (I 0), (I 29)], [], (B x2), [], [], [], [], (B x2), []⟩]⟩ [c_ 13, c_ 7] (alc (cok0 false (a2c (.z (frz_sl (e105_ok true) (fun h => h))) a2n) (.z .s) (fun h => absurd h (by decide))) (alc (bF (nF c1)) (alc (cok0 false (a2c (.z .s) (a2c (.z .s) (a2c (.z .s) a2n))) (.z .s) (fun h => absurd h (by decide))) (alc (bT (nT (vF c2))) aln)))) (acal (impl_TableOk.J k a0 _ hx1) (acal (impl_between.J a1 0 29 _ hx2) nocal)) ?_
      refine .cond' (.tmp 25) true [c_ 52, c_ 53, c_ 7] (rfl) ?_
      refine .reg' [12] [] ⟨[(12, (B false))], [], [], []⟩ [c_ 53, c_ 7] aln nocal ?_
      have h := Option.some.inj h
      subst h
      exact .fin0 [] (B false) [] aln (.z .s)
  · rw [if_neg c1] at h
    refine .reg' [3, 4, 5, 25] [.no, .c ⟨74, [(.sl true a0.length 2 (a0.flatMap (e105 true)))], [], (B x1), [], [], [], [], (B x1), []⟩, .no, .v (B true)] ⟨[(3, (I a3)), (4, (I a4)), (5, (I a5)), (25, (B true))], [], [COK (hget []) [(.sl true a0.length 2 (a0.flatMap (e105 true)))] ⟨74, [(.sl true a0.length 2 (a0.flatMap (e105 true)))], [], (B x1), [], [], [], [], (B x1), []⟩, (B (!x1) : V) = B true], [⟨74, [(.sl true a0.length 2 (a0.flatMap (e105 true)))], [], (B x1), [], [], [], [], (B x1), []⟩]⟩ [c_ 13, c_ 7] (alc (cok0 false (a2c (.z (frz_sl (e105_ok true) (fun h => h))) a2n) (.z .s) (fun h => absurd h (by decide))) (alc (bT (nT (vF c1))) aln)) (acal (impl_TableOk.J k a0 _ hx1) nocal) ?_
    refine .cond' (.tmp 25) true [c_ 52, c_ 53, c_ 7] (rfl) ?_
    refine .reg' [12] [] ⟨[(12, (B false))], [], [], []⟩ [c_ 53, c_ 7] aln nocal ?_
    have h := Option.some.inj h
    subst h
    exact .fin0 [] (B false) [] aln (.z .s)
/-! impl_arrivals: function 96 -/
mutual
def impl_arrivals.l0 : Nat → (List S105) → Int → Int → Int → Int → (List (List Int)) → Int → Option (List (List Int))
 | 0, _, _, _, _, _, _, _ => none
 | k + 1, a0, a1, a2, a3, a4, x1, x2 => (if x2 < ((List.replicate (wrap64 (a4 + 1)).toNat ((List.replicate 30 (0 : Int)) : (List Int))).length : Int) then (impl_arrivals.l1 k a0 a1 a2 a3 a4 x2 x1 0) else (if 0 < (x1.length : Int) then (if 0 ≤ a1 then (if a1 < 30 then (impl_arrivals.l2 k a0 a3 a4 (x1.set (0 : Int).toNat (aset 30 (at_ x1 0) a1 a2)) 0 0) else none) else none) else none))
def impl_arrivals.l1 : Nat → (List S105) → Int → Int → Int → Int → Int → (List (List Int)) → Int → Option (List (List Int))
 | 0, _, _, _, _, _, _, _, _ => none
 | k + 1, a0, a1, a2, a3, a4, x2, x3, x4 => (if x4 < 30 then (if 0 ≤ x2 then (if x2 < (x3.length : Int) then (if 0 ≤ x4 then (impl_arrivals.l1 k a0 a1 a2 a3 a4 x2 (x3.set x2.toNat (aset 30 (at_ x3 x2) x4 100001)) (wrap64 (x4 + 1))) else none) else none) else none) else (impl_arrivals.l0 k a0 a1 a2 a3 a4 x3 (wrap64 (x2 + 1))))
def impl_arrivals.l2 : Nat → (List S105) → Int → Int → (List (List Int)) → Int → Int → Option (List (List Int))
 | 0, _, _, _, _, _, _ => none
 | k + 1, a0, a3, a4, x5, x6, x7 => (if x7 < a4 then (impl_arrivals.l3 k a0 a3 a4 x6 x7 x5 0) else (some x5))
def impl_arrivals.l3 : Nat → (List S105) → Int → Int → Int → Int → (List (List Int)) → Int → Option (List (List Int))
 | 0, _, _, _, _, _, _, _ => none
 | k + 1, a0, a3, a4, x6, x7, x8, x9 => (if x9 < (a0.length : Int) then (if 0 ≤ x9 then (impl_arrivals.l4 k a0 a3 a4 x6 x7 x9 x8 false 0) else none) else (impl_arrivals.l2 k a0 a3 a4 x8 a3 (wrap64 (x7 + 1))))
def impl_arrivals.l4 : Nat → (List S105) → Int → Int → Int → Int → Int → (List (List Int)) → Bool → Int → Option (List (List Int))
 | 0, _, _, _, _, _, _, _, _, _ => none
 | k + 1, a0, a3, a4, x6, x7, x9, x10, x11, x12 => (if x12 < ((at_ a0 x9).f1.length : Int) then (if 0 ≤ x12 then (if x11 = true then (if 0 ≤ (wrap64 (x7 + 1)) then (if (wrap64 (x7 + 1)) < (x10.length : Int) then (if 0 ≤ (at_ (at_ a0 x9).f1 x12).f0 then (if (at_ (at_ a0 x9).f1 x12).f0 < 30 then (if 0 ≤ x7 then (if x7 < (x10.length : Int) then (if (at_ (at_ (x10.set (wrap64 (x7 + 1)).toNat (aset 30 (at_ x10 (wrap64 (x7 + 1))) ((at_ (at_ a0 x9).f1 x12).f0) (mn (at_ (at_ x10 (wrap64 (x7 + 1))) (at_ (at_ a0 x9).f1 x12).f0) ((at_ (at_ a0 x9).f1 x12).f1)))) x7) (at_ (at_ a0 x9).f1 x12).f0) < 100001 then (if (at_ (at_ a0 x9).f1 x12).f2 ≥ (wrap64 ((at_ (at_ (x10.set (wrap64 (x7 + 1)).toNat (aset 30 (at_ x10 (wrap64 (x7 + 1))) ((at_ (at_ a0 x9).f1 x12).f0) (mn (at_ (at_ x10 (wrap64 (x7 + 1))) (at_ (at_ a0 x9).f1 x12).f0) ((at_ (at_ a0 x9).f1 x12).f1)))) x7) (at_ (at_ a0 x9).f1 x12).f0) + x6)) then (impl_arrivals.l4 k a0 a3 a4 x6 x7 x9 (x10.set (wrap64 (x7 + 1)).toNat (aset 30 (at_ x10 (wrap64 (x7 + 1))) ((at_ (at_ a0 x9).f1 x12).f0) (mn (at_ (at_ x10 (wrap64 (x7 + 1))) (at_ (at_ a0 x9).f1 x12).f0) ((at_ (at_ a0 x9).f1 x12).f1)))) true (wrap64 (x12 + 1))) else (impl_arrivals.l4 k a0 a3 a4 x6 x7 x9 (x10.set (wrap64 (x7 + 1)).toNat (aset 30 (at_ x10 (wrap64 (x7 + 1))) ((at_ (at_ a0 x9).f1 x12).f0) (mn (at_ (at_ x10 (wrap64 (x7 + 1))) (at_ (at_ a0 x9).f1 x12).f0) ((at_ (at_ a0 x9).f1 x12).f1)))) x11 (wrap64 (x12 + 1)))) else (impl_arrivals.l4 k a0 a3 a4 x6 x7 x9 (x10.set (wrap64 (x7 + 1)).toNat (aset 30 (at_ x10 (wrap64 (x7 + 1))) ((at_ (at_ a0 x9).f1 x12).f0) (mn (at_ (at_ x10 (wrap64 (x7 + 1))) (at_ (at_ a0 x9).f1 x12).f0) ((at_ (at_ a0 x9).f1 x12).f1)))) x11 (wrap64 (x12 + 1)))) else none) else none) else none) else none) else none) else none) else (if 0 ≤ x7 then (if x7 < (x10.length : Int) then (if 0 ≤ (at_ (at_ a0 x9).f1 x12).f0 then (if (at_ (at_ a0 x9).f1 x12).f0 < 30 then (if (at_ (at_ x10 x7) (at_ (at_ a0 x9).f1 x12).f0) < 100001 then (if (at_ (at_ a0 x9).f1 x12).f2 ≥ (wrap64 ((at_ (at_ x10 x7) (at_ (at_ a0 x9).f1 x12).f0) + x6)) then (impl_arrivals.l4 k a0 a3 a4 x6 x7 x9 x10 true (wrap64 (x12 + 1))) else (impl_arrivals.l4 k a0 a3 a4 x6 x7 x9 x10 x11 (wrap64 (x12 + 1)))) else (impl_arrivals.l4 k a0 a3 a4 x6 x7 x9 x10 x11 (wrap64 (x12 + 1)))) else none) else none) else none) else none)) else none) else (impl_arrivals.l3 k a0 a3 a4 x6 x7 x10 (wrap64 (x9 + 1))))
end
def impl_arrivals.f (k : Nat) (a0 : (List S105)) (a1 : Int) (a2 : Int) (a3 : Int) (a4 : Int) : Option (List (List Int)) := (if 0 ≤ (wrap64 (a4 + 1)) then (if (wrap64 (a4 + 1)) * 240 ≤ 281474976710656 then (impl_arrivals.l0 k a0 a1 a2 a3 a4 (List.replicate (wrap64 (a4 + 1)).toNat ((List.replicate 30 (0 : Int)) : (List Int))) 0) else none) else none)
end Go.Proofs.Ytjfjifnmfnlfoaa.Fns
