/- The functions that the law FnExactSettle reaches, by the engine. Printed by a program of this seat. -/
import Derived.Test.YtebgaiokpncacaaE5
import Derived.Test.YtebgaiokpncacaaProg
import Derived.Test.YtebgaiokpncacaaFFnExactSettlex4
namespace Go.Proofs.Ytebgaiokpncacaa.Fns
open Go.Proofs.Try Go.Proofs.Ytebgaiokpncacaa.Eng Go.RowKit
set_option maxRecDepth 100000
set_option linter.unusedVariables false
set_option linter.unusedSimpArgs false
theorem impl_usesOfAll.J (k : Nat) (a0 : S46) (a1 : (List S66)) (r : ((List S22) × Bool)) (h : impl_usesOfAll.f k a0 a1 = some r) : J prog (.call 66 [(.ag [(I a0.f0), (.sl true a0.f1.length 4 (a0.f1.flatMap e95))]), (.sl true a1.length 2 (a1.flatMap (e66 true)))] [] (.tp [(.rf 1024 0 r.1.length 5 (r.1.length * 5)), (B r.2)]) [(1024, (r.1.flatMap e22))]) := by
  unfold impl_usesOfAll.f at h
  have ih0 := impl_usesOfAll.lab k
  refine .call' [c_ 2, c_ 3] ?_
  refine .reg' [1, 2] [] ⟨[(1, (.sl true a1.length 2 (a1.flatMap (e66 true)))), (2, (.pt 256 0 2))], [(256, [(I a0.f0), (.sl true a0.f1.length 4 (a0.f1.flatMap e95))])], [], []⟩ [c_ 12, c_ 13, c_ 7] aln nocal ?_
  obtain ⟨x1, hx1, h⟩ := Option.bind_eq_some_iff.mp h
  by_cases c1 : x1 = true
  · rw [if_pos c1] at h
    obtain ⟨x2, hx2, h⟩ := Option.bind_eq_some_iff.mp h
    refine .reg' [1, 2, 18] [.no, .c ⟨87, [(.ag [(I a0.f0), (.sl true a0.f1.length 4 (a0.f1.flatMap e95))])], [], (B x1), [], [], [], [], (B x1), []⟩, .no, .v (B false), .no, .c ⟨88, [(.sl true a1.length 2 (a1.flatMap (e66 true)))], [], (B x2), [], [], [], [], (B x2), []⟩] ⟨[(1, (.sl true a1.length 2 (a1.flatMap (e66 true)))), (2, (.pt 256 0 2)), (18, (B (!x2)))], [(256, [(I a0.f0), (.sl true a0.f1.length 4 (a0.f1.flatMap e95))])], [2 = 2 ∧ 0 + 2 ≤ 2, COK (hget [(256, [(I a0.f0), (.sl true a0.f1.length 4 (a0.f1.flatMap e95))])]) [(.ag [(I a0.f0), (.sl true a0.f1.length 4 (a0.f1.flatMap e95))])] ⟨87, [(.ag [(I a0.f0), (.sl true a0.f1.length 4 (a0.f1.flatMap e95))])], [], (B x1), [], [], [], [], (B x1), []⟩, (B (!x1) : V) = B false, COK (hget [(256, [(I a0.f0), (.sl true a0.f1.length 4 (a0.f1.flatMap e95))])]) [(.sl true a1.length 2 (a1.flatMap (e66 true)))] ⟨88, [(.sl true a1.length 2 (a1.flatMap (e66 true)))], [], (B x2), [], [], [], [], (B x2), []⟩], [⟨87, [(.ag [(I a0.f0), (.sl true a0.f1.length 4 (a0.f1.flatMap e95))])], [], (B x1), [], [], [], [], (B x1), []⟩, ⟨88, [(.sl true a1.length 2 (a1.flatMap (e66 true)))], [], (B x2), [], [], [], [], (B x2), []⟩]⟩ [c_ 13, c_ 7] (alc ⟨rfl, by decide⟩ (alc (cok0 false (a2c (.z (frz_ag (a2c .s (a2c (frz_sl e95_ok (fun h => h)) a2n)))) a2n) (.z .s) (fun h => absurd h (by decide))) (alc (bF (nF c1)) (alc (cok0 false (a2c (.z (frz_sl (e66_ok true) (fun h => h))) a2n) (.z .s) (fun h => absurd h (by decide))) aln)))) (acal (impl_NetOk.J k a0 _ hx1) (acal (impl_TableOk.J k a1 _ hx2) nocal)) ?_
    by_cases c2 : x2 = true
    · rw [if_pos c2] at h
      refine .cond' (.tmp 18) false [c_ 14, c_ 15] (bF (nF c2)) ?_
      refine .reg' [1, 2, 6] [] ⟨[(1, (.sl true a1.length 2 (a1.flatMap (e66 true)))), (2, (.pt 256 0 2)), (6, (.rf 1024 0 (([] : List S22).length) 5 (([] : List S22).length * 5)))], [(256, [(I a0.f0), (.sl true a0.f1.length 4 (a0.f1.flatMap e95))]), (1024, (([] : List S22).flatMap e22))], [], []⟩ [c_ 60, c_ 61, c_ 31] aln nocal ?_
      refine .reg' [2, 6, 20, 21, 22] [] ⟨[(2, (.pt 256 0 2)), (6, (.rf 1024 0 (([] : List S22).length) 5 (([] : List S22).length * 5))), (20, (.sl true a1.length 2 (a1.flatMap (e66 true)))), (21, (I (a1.length : Int))), (22, (I 0))], [(256, [(I a0.f0), (.sl true a0.f1.length 4 (a0.f1.flatMap e95))]), (1024, (([] : List S22).flatMap e22))], [], []⟩ [l_ 122, b_ 0, c_ 31] aln nocal ?_
      exact ih0 a0 a1 ([] : List S22) 0 _ h
    · rw [if_neg c2] at h
      refine .cond' (.tmp 18) true [c_ 52, c_ 53, c_ 7] (bT (nT (vF c2))) ?_
      refine .reg' [4, 5] [] ⟨[(4, nilS), (5, (B false))], [(256, [(I a0.f0), (.sl true a0.f1.length 4 (a0.f1.flatMap e95))])], [], []⟩ [c_ 53, c_ 7] aln nocal ?_
      have h := Option.some.inj h
      subst h
      refine .nl' 1024 ?_
      exact .fin' [] [(1024, 1024)] (.tp [nilS, (B false)]) [] aln (shc 1024 (rowF e22_ok _) shn) (cnv_tp (a2c (.nl (memP_mem (p := (1024, 1024)) rfl) rfl) (a2c (.z .s) a2n)))
  · rw [if_neg c1] at h
    refine .reg' [1, 2, 18] [.no, .c ⟨87, [(.ag [(I a0.f0), (.sl true a0.f1.length 4 (a0.f1.flatMap e95))])], [], (B x1), [], [], [], [], (B x1), []⟩, .no, .v (B true)] ⟨[(1, (.sl true a1.length 2 (a1.flatMap (e66 true)))), (2, (.pt 256 0 2)), (18, (B true))], [(256, [(I a0.f0), (.sl true a0.f1.length 4 (a0.f1.flatMap e95))])], [2 = 2 ∧ 0 + 2 ≤ 2, COK (hget [(256, [(I a0.f0), (.sl true a0.f1.length 4 (a0.f1.flatMap e95))])]) [(.ag [(I a0.f0), (.sl true a0.f1.length 4 (a0.f1.flatMap e95))])] ⟨87, [(.ag [(I a0.f0), (.sl true a0.f1.length 4 (a0.f1.flatMap e95))])], [], (B x1), [], [], [], [], (B x1), []⟩, (B (!x1) : V) = B true], [⟨87, [(.ag [(I a0.f0), (.sl true a0.f1.length 4 (a0.f1.flatMap e95))])], [], (B x1), [], [], [], [], (B x1), []⟩]⟩ [c_ 13, c_ 7] (alc ⟨rfl, by decide⟩ (alc (cok0 false (a2c (.z (frz_ag (a2c .s (a2c (frz_sl e95_ok (fun h => h)) a2n)))) a2n) (.z .s) (fun h => absurd h (by decide))) (alc (bT (nT (vF c1))) aln))) (acal (impl_NetOk.J k a0 _ hx1) nocal) ?_
    refine .cond' (.tmp 18) true [c_ 52, c_ 53, c_ 7] (rfl) ?_
    refine .reg' [4, 5] [] ⟨[(4, nilS), (5, (B false))], [(256, [(I a0.f0), (.sl true a0.f1.length 4 (a0.f1.flatMap e95))])], [], []⟩ [c_ 53, c_ 7] aln nocal ?_
    have h := Option.some.inj h
    subst h
    refine .nl' 1024 ?_
    exact .fin' [] [(1024, 1024)] (.tp [nilS, (B false)]) [] aln (shc 1024 (rowF e22_ok _) shn) (cnv_tp (a2c (.nl (memP_mem (p := (1024, 1024)) rfl) rfl) (a2c (.z .s) a2n)))
/-! impl_UseOk: function 15 -/
def impl_UseOk.f (a0 : S22) : Option Bool := ((impl_between.f a0.f0 0 59).bind fun x1 => (if x1 = true then ((impl_between.f a0.f1 0 1).bind fun x2 => (if x2 = true then (if 0 ≤ a0.f2 then (if a0.f2 < a0.f3 then (if a0.f3 ≤ 100000 then ((impl_between.f a0.f4 0 23).bind fun x3 => (some x3)) else (some false)) else (some false)) else (some false)) else (some false))) else (some false)))
theorem impl_UseOk.J (a0 : S22) (r : Bool) (h : impl_UseOk.f a0 = some r) : J prog (.call 15 [(.ag [(I a0.f0), (I a0.f1), (I a0.f2), (I a0.f3), (I a0.f4)])] [] (B r) []) := by
  unfold impl_UseOk.f at h
  refine .call' [c_ 2, c_ 3] ?_
  refine .reg' [1] [] ⟨[(1, (.pt 256 0 5))], [(256, [(I a0.f0), (I a0.f1), (I a0.f2), (I a0.f3), (I a0.f4)])], [], []⟩ [c_ 6, c_ 7] aln nocal ?_
  obtain ⟨x1, hx1, h⟩ := Option.bind_eq_some_iff.mp h
  by_cases c1 : x1 = true
  · rw [if_pos c1] at h
    obtain ⟨x2, hx2, h⟩ := Option.bind_eq_some_iff.mp h
    by_cases c2 : x2 = true
    · rw [if_pos c2] at h
      by_cases c3 : 0 ≤ a0.f2
      · rw [if_pos c3] at h
        by_cases c4 : a0.f2 < a0.f3
        · rw [if_pos c4] at h
          by_cases c5 : a0.f3 ≤ 100000
          · rw [if_pos c5] at h
            obtain ⟨x3, hx3, h⟩ := Option.bind_eq_some_iff.mp h
            refine .reg' [2] [.no, .no, .c ⟨58, [(I a0.f0), (I 0), (I 59)], [], (B x1), [], [], [], [], (B x1), []⟩, .v (B true), .no, .no, .c ⟨58, [(I a0.f1), (I 0), (I 1)], [], (B x2), [], [], [], [], (B x2), []⟩, .no, .v (B true), .no, .no, .no, .no, .v (B true), .no, .no, .no, .no, .no, .no, .v (B true), .no, .no, .no, .no, .v (B true), .no, .no, .c ⟨58, [(I a0.f4), (I 0), (I 23)], [], (B x3), [], [], [], [], (B x3), []⟩] ⟨[(2, (B x3))], [(256, [(I a0.f0), (I a0.f1), (I a0.f2), (I a0.f3), (I a0.f4)])], [5 = 5 ∧ 0 + 1 ≤ 5, COK (hget [(256, [(I a0.f0), (I a0.f1), (I a0.f2), (I a0.f3), (I a0.f4)])]) [(I a0.f0), (I 0), (I 59)] ⟨58, [(I a0.f0), (I 0), (I 59)], [], (B x1), [], [], [], [], (B x1), []⟩, (B x1 : V) = B true, 5 = 5 ∧ 1 + 1 ≤ 5, COK (hget [(256, [(I a0.f0), (I a0.f1), (I a0.f2), (I a0.f3), (I a0.f4)])]) [(I a0.f1), (I 0), (I 1)] ⟨58, [(I a0.f1), (I 0), (I 1)], [], (B x2), [], [], [], [], (B x2), []⟩, (B x2 : V) = B true, 5 = 5 ∧ 2 + 1 ≤ 5, (B (decide (0 ≤ a0.f2)) : V) = B true, 5 = 5 ∧ 2 + 1 ≤ 5, 5 = 5 ∧ 3 + 1 ≤ 5, (B (decide (a0.f2 < a0.f3)) : V) = B true, 5 = 5 ∧ 3 + 1 ≤ 5, (B (decide (a0.f3 ≤ 100000)) : V) = B true, 5 = 5 ∧ 4 + 1 ≤ 5, COK (hget [(256, [(I a0.f0), (I a0.f1), (I a0.f2), (I a0.f3), (I a0.f4)])]) [(I a0.f4), (I 0), (I 23)] ⟨58, [(I a0.f4), (I 0), (I 23)], [], (B x3), [], [], [], [], (B x3), []⟩], [⟨58, [(I a0.f0), (I 0), (I 59)], [], (B x1), [], [], [], [], (B x1), []⟩, ⟨58, [(I a0.f1), (I 0), (I 1)], [], (B x2), [], [], [], [], (B x2), []⟩, ⟨58, [(I a0.f4), (I 0), (I 23)], [], (B x3), [], [], [], [], (B x3), []⟩]⟩ [c_ 7] (alc ⟨rfl, by decide⟩ (alc (cok0 false (a2c (.z .s) (a2c (.z .s) (a2c (.z .s) a2n))) (.z .s) (fun h => absurd h (by decide))) (alc (bT c1) (alc ⟨rfl, by decide⟩ (alc (cok0 false (a2c (.z .s) (a2c (.z .s) (a2c (.z .s) a2n))) (.z .s) (fun h => absurd h (by decide))) (alc (bT c2) (alc ⟨rfl, by decide⟩ (alc (bT (dT c3)) (alc ⟨rfl, by decide⟩ (alc ⟨rfl, by decide⟩ (alc (bT (dT c4)) (alc ⟨rfl, by decide⟩ (alc (bT (dT c5)) (alc ⟨rfl, by decide⟩ (alc (cok0 false (a2c (.z .s) (a2c (.z .s) (a2c (.z .s) a2n))) (.z .s) (fun h => absurd h (by decide))) aln))))))))))))))) (acal (impl_between.J a0.f0 0 59 _ hx1) (acal (impl_between.J a0.f1 0 1 _ hx2) (acal (impl_between.J a0.f4 0 23 _ hx3) nocal))) ?_
            have h := Option.some.inj h
            subst h
            exact .fin0 [] (B x3) [] aln (.z .s)
          · rw [if_neg c5] at h
            refine .reg' [2] [.no, .no, .c ⟨58, [(I a0.f0), (I 0), (I 59)], [], (B x1), [], [], [], [], (B x1), []⟩, .v (B true), .no, .no, .c ⟨58, [(I a0.f1), (I 0), (I 1)], [], (B x2), [], [], [], [], (B x2), []⟩, .no, .v (B true), .no, .no, .no, .no, .v (B true), .no, .no, .no, .no, .no, .no, .v (B true), .no, .no, .no, .no, .v (B false)] ⟨[(2, (B false))], [(256, [(I a0.f0), (I a0.f1), (I a0.f2), (I a0.f3), (I a0.f4)])], [5 = 5 ∧ 0 + 1 ≤ 5, COK (hget [(256, [(I a0.f0), (I a0.f1), (I a0.f2), (I a0.f3), (I a0.f4)])]) [(I a0.f0), (I 0), (I 59)] ⟨58, [(I a0.f0), (I 0), (I 59)], [], (B x1), [], [], [], [], (B x1), []⟩, (B x1 : V) = B true, 5 = 5 ∧ 1 + 1 ≤ 5, COK (hget [(256, [(I a0.f0), (I a0.f1), (I a0.f2), (I a0.f3), (I a0.f4)])]) [(I a0.f1), (I 0), (I 1)] ⟨58, [(I a0.f1), (I 0), (I 1)], [], (B x2), [], [], [], [], (B x2), []⟩, (B x2 : V) = B true, 5 = 5 ∧ 2 + 1 ≤ 5, (B (decide (0 ≤ a0.f2)) : V) = B true, 5 = 5 ∧ 2 + 1 ≤ 5, 5 = 5 ∧ 3 + 1 ≤ 5, (B (decide (a0.f2 < a0.f3)) : V) = B true, 5 = 5 ∧ 3 + 1 ≤ 5, (B (decide (a0.f3 ≤ 100000)) : V) = B false], [⟨58, [(I a0.f0), (I 0), (I 59)], [], (B x1), [], [], [], [], (B x1), []⟩, ⟨58, [(I a0.f1), (I 0), (I 1)], [], (B x2), [], [], [], [], (B x2), []⟩]⟩ [c_ 7] (alc ⟨rfl, by decide⟩ (alc (cok0 false (a2c (.z .s) (a2c (.z .s) (a2c (.z .s) a2n))) (.z .s) (fun h => absurd h (by decide))) (alc (bT c1) (alc ⟨rfl, by decide⟩ (alc (cok0 false (a2c (.z .s) (a2c (.z .s) (a2c (.z .s) a2n))) (.z .s) (fun h => absurd h (by decide))) (alc (bT c2) (alc ⟨rfl, by decide⟩ (alc (bT (dT c3)) (alc ⟨rfl, by decide⟩ (alc ⟨rfl, by decide⟩ (alc (bT (dT c4)) (alc ⟨rfl, by decide⟩ (alc (bF (dF c5)) aln))))))))))))) (acal (impl_between.J a0.f0 0 59 _ hx1) (acal (impl_between.J a0.f1 0 1 _ hx2) nocal)) ?_
            have h := Option.some.inj h
            subst h
            exact .fin0 [] (B false) [] aln (.z .s)
        · rw [if_neg c4] at h
          refine .reg' [2] [.no, .no, .c ⟨58, [(I a0.f0), (I 0), (I 59)], [], (B x1), [], [], [], [], (B x1), []⟩, .v (B true), .no, .no, .c ⟨58, [(I a0.f1), (I 0), (I 1)], [], (B x2), [], [], [], [], (B x2), []⟩, .no, .v (B true), .no, .no, .no, .no, .v (B true), .no, .no, .no, .no, .no, .no, .v (B false)] ⟨[(2, (B false))], [(256, [(I a0.f0), (I a0.f1), (I a0.f2), (I a0.f3), (I a0.f4)])], [5 = 5 ∧ 0 + 1 ≤ 5, COK (hget [(256, [(I a0.f0), (I a0.f1), (I a0.f2), (I a0.f3), (I a0.f4)])]) [(I a0.f0), (I 0), (I 59)] ⟨58, [(I a0.f0), (I 0), (I 59)], [], (B x1), [], [], [], [], (B x1), []⟩, (B x1 : V) = B true, 5 = 5 ∧ 1 + 1 ≤ 5, COK (hget [(256, [(I a0.f0), (I a0.f1), (I a0.f2), (I a0.f3), (I a0.f4)])]) [(I a0.f1), (I 0), (I 1)] ⟨58, [(I a0.f1), (I 0), (I 1)], [], (B x2), [], [], [], [], (B x2), []⟩, (B x2 : V) = B true, 5 = 5 ∧ 2 + 1 ≤ 5, (B (decide (0 ≤ a0.f2)) : V) = B true, 5 = 5 ∧ 2 + 1 ≤ 5, 5 = 5 ∧ 3 + 1 ≤ 5, (B (decide (a0.f2 < a0.f3)) : V) = B false], [⟨58, [(I a0.f0), (I 0), (I 59)], [], (B x1), [], [], [], [], (B x1), []⟩, ⟨58, [(I a0.f1), (I 0), (I 1)], [], (B x2), [], [], [], [], (B x2), []⟩]⟩ [c_ 7] (alc ⟨rfl, by decide⟩ (alc (cok0 false (a2c (.z .s) (a2c (.z .s) (a2c (.z .s) a2n))) (.z .s) (fun h => absurd h (by decide))) (alc (bT c1) (alc ⟨rfl, by decide⟩ (alc (cok0 false (a2c (.z .s) (a2c (.z .s) (a2c (.z .s) a2n))) (.z .s) (fun h => absurd h (by decide))) (alc (bT c2) (alc ⟨rfl, by decide⟩ (alc (bT (dT c3)) (alc ⟨rfl, by decide⟩ (alc ⟨rfl, by decide⟩ (alc (bF (dF c4)) aln))))))))))) (acal (impl_between.J a0.f0 0 59 _ hx1) (acal (impl_between.J a0.f1 0 1 _ hx2) nocal)) ?_
          have h := Option.some.inj h
          subst h
          exact .fin0 [] (B false) [] aln (.z .s)
      · rw [if_neg c3] at h
        refine .reg' [2] [.no, .no, .c ⟨58, [(I a0.f0), (I 0), (I 59)], [], (B x1), [], [], [], [], (B x1), []⟩, .v (B true), .no, .no, .c ⟨58, [(I a0.f1), (I 0), (I 1)], [], (B x2), [], [], [], [], (B x2), []⟩, .no, .v (B true), .no, .no, .no, .no, .v (B false)] ⟨[(2, (B false))], [(256, [(I a0.f0), (I a0.f1), (I a0.f2), (I a0.f3), (I a0.f4)])], [5 = 5 ∧ 0 + 1 ≤ 5, COK (hget [(256, [(I a0.f0), (I a0.f1), (I a0.f2), (I a0.f3), (I a0.f4)])]) [(I a0.f0), (I 0), (I 59)] ⟨58, [(I a0.f0), (I 0), (I 59)], [], (B x1), [], [], [], [], (B x1), []⟩, (B x1 : V) = B true, 5 = 5 ∧ 1 + 1 ≤ 5, COK (hget [(256, [(I a0.f0), (I a0.f1), (I a0.f2), (I a0.f3), (I a0.f4)])]) [(I a0.f1), (I 0), (I 1)] ⟨58, [(I a0.f1), (I 0), (I 1)], [], (B x2), [], [], [], [], (B x2), []⟩, (B x2 : V) = B true, 5 = 5 ∧ 2 + 1 ≤ 5, (B (decide (0 ≤ a0.f2)) : V) = B false], [⟨58, [(I a0.f0), (I 0), (I 59)], [], (B x1), [], [], [], [], (B x1), []⟩, ⟨58, [(I a0.f1), (I 0), (I 1)], [], (B x2), [], [], [], [], (B x2), []⟩]⟩ [c_ 7] (alc ⟨rfl, by decide⟩ (alc (cok0 false (a2c (.z .s) (a2c (.z .s) (a2c (.z .s) a2n))) (.z .s) (fun h => absurd h (by decide))) (alc (bT c1) (alc ⟨rfl, by decide⟩ (alc (cok0 false (a2c (.z .s) (a2c (.z .s) (a2c (.z .s) a2n))) (.z .s) (fun h => absurd h (by decide))) (alc (bT c2) (alc ⟨rfl, by decide⟩ (alc (bF (dF c3)) aln)))))))) (acal (impl_between.J a0.f0 0 59 _ hx1) (acal (impl_between.J a0.f1 0 1 _ hx2) nocal)) ?_
        have h := Option.some.inj h
        subst h
        exact .fin0 [] (B false) [] aln (.z .s)
    · rw [if_neg c2] at h
      refine .reg' [2] [.no, .no, .c ⟨58, [(I a0.f0), (I 0), (I 59)], [], (B x1), [], [], [], [], (B x1), []⟩, .v (B true), .no, .no, .c ⟨58, [(I a0.f1), (I 0), (I 1)], [], (B x2), [], [], [], [], (B x2), []⟩, .no, .v (B false)] ⟨[(2, (B false))], [(256, [(I a0.f0), (I a0.f1), (I a0.f2), (I a0.f3), (I a0.f4)])], [5 = 5 ∧ 0 + 1 ≤ 5, COK (hget [(256, [(I a0.f0), (I a0.f1), (I a0.f2), (I a0.f3), (I a0.f4)])]) [(I a0.f0), (I 0), (I 59)] ⟨58, [(I a0.f0), (I 0), (I 59)], [], (B x1), [], [], [], [], (B x1), []⟩, (B x1 : V) = B true, 5 = 5 ∧ 1 + 1 ≤ 5, COK (hget [(256, [(I a0.f0), (I a0.f1), (I a0.f2), (I a0.f3), (I a0.f4)])]) [(I a0.f1), (I 0), (I 1)] ⟨58, [(I a0.f1), (I 0), (I 1)], [], (B x2), [], [], [], [], (B x2), []⟩, (B x2 : V) = B false], [⟨58, [(I a0.f0), (I 0), (I 59)], [], (B x1), [], [], [], [], (B x1), []⟩, ⟨58, [(I a0.f1), (I 0), (I 1)], [], (B x2), [], [], [], [], (B x2), []⟩]⟩ [c_ 7] (alc ⟨rfl, by decide⟩ (alc (cok0 false (a2c (.z .s) (a2c (.z .s) (a2c (.z .s) a2n))) (.z .s) (fun h => absurd h (by decide))) (alc (bT c1) (alc ⟨rfl, by decide⟩ (alc (cok0 false (a2c (.z .s) (a2c (.z .s) (a2c (.z .s) a2n))) (.z .s) (fun h => absurd h (by decide))) (alc (bF (vF c2)) aln)))))) (acal (impl_between.J a0.f0 0 59 _ hx1) (acal (impl_between.J a0.f1 0 1 _ hx2) nocal)) ?_
      have h := Option.some.inj h
      subst h
      exact .fin0 [] (B false) [] aln (.z .s)
  · rw [if_neg c1] at h
    refine .reg' [2] [.no, .no, .c ⟨58, [(I a0.f0), (I 0), (I 59)], [], (B x1), [], [], [], [], (B x1), []⟩, .v (B false)] ⟨[(2, (B false))], [(256, [(I a0.f0), (I a0.f1), (I a0.f2), (I a0.f3), (I a0.f4)])], [5 = 5 ∧ 0 + 1 ≤ 5, COK (hget [(256, [(I a0.f0), (I a0.f1), (I a0.f2), (I a0.f3), (I a0.f4)])]) [(I a0.f0), (I 0), (I 59)] ⟨58, [(I a0.f0), (I 0), (I 59)], [], (B x1), [], [], [], [], (B x1), []⟩, (B x1 : V) = B false], [⟨58, [(I a0.f0), (I 0), (I 59)], [], (B x1), [], [], [], [], (B x1), []⟩]⟩ [c_ 7] (alc ⟨rfl, by decide⟩ (alc (cok0 false (a2c (.z .s) (a2c (.z .s) (a2c (.z .s) a2n))) (.z .s) (fun h => absurd h (by decide))) (alc (bF (vF c1)) aln))) (acal (impl_between.J a0.f0 0 59 _ hx1) nocal) ?_
    have h := Option.some.inj h
    subst h
    exact .fin0 [] (B false) [] aln (.z .s)
/-! impl_meet: function 59 -/
def impl_meet.f (a0 : S22) (a1 : S22) (a2 : Int) : Option Bool := (if a0.f0 = a1.f0 then (if a0.f1 = a1.f1 then (if (wrap64 (a0.f2 + a2)) ≤ a1.f2 then (if (wrap64 (a0.f3 + a2)) ≤ a1.f3 then (some false) else (if (wrap64 (a1.f2 + a2)) ≤ a0.f2 then (some (!(decide ((wrap64 (a1.f3 + a2)) ≤ a0.f3)))) else (some true))) else (if (wrap64 (a1.f2 + a2)) ≤ a0.f2 then (some (!(decide ((wrap64 (a1.f3 + a2)) ≤ a0.f3)))) else (some true))) else (if a0.f2 < a1.f3 then (some (decide (a1.f2 < a0.f3))) else (some false))) else (some false))
theorem impl_meet.J (a0 : S22) (a1 : S22) (a2 : Int) (r : Bool) (h : impl_meet.f a0 a1 a2 = some r) : J prog (.call 59 [(.ag [(I a0.f0), (I a0.f1), (I a0.f2), (I a0.f3), (I a0.f4)]), (.ag [(I a1.f0), (I a1.f1), (I a1.f2), (I a1.f3), (I a1.f4)]), (I a2)] [] (B r) []) := by
  unfold impl_meet.f at h
  refine .call' [c_ 2, c_ 3] ?_
  refine .reg' [2, 3, 4] [] ⟨[(2, (I a2)), (3, (.pt 256 0 5)), (4, (.pt 257 0 5))], [(256, [(I a0.f0), (I a0.f1), (I a0.f2), (I a0.f3), (I a0.f4)]), (257, [(I a1.f0), (I a1.f1), (I a1.f2), (I a1.f3), (I a1.f4)])], [], []⟩ [c_ 12, c_ 13, c_ 7] aln nocal ?_
  refine .reg' [2, 3, 4, 11] [] ⟨[(2, (I a2)), (3, (.pt 256 0 5)), (4, (.pt 257 0 5)), (11, (B (!(a0.f0 == a1.f0))))], [(256, [(I a0.f0), (I a0.f1), (I a0.f2), (I a0.f3), (I a0.f4)]), (257, [(I a1.f0), (I a1.f1), (I a1.f2), (I a1.f3), (I a1.f4)])], [5 = 5 ∧ 0 + 1 ≤ 5, 5 = 5 ∧ 0 + 1 ≤ 5], []⟩ [c_ 13, c_ 7] (alc ⟨rfl, by decide⟩ (alc ⟨rfl, by decide⟩ aln)) nocal ?_
  by_cases c1 : a0.f0 = a1.f0
  · rw [if_pos c1] at h
    refine .cond' (.tmp 11) false [c_ 28, c_ 29, c_ 15] (bF (nF (qT c1))) ?_
    refine .reg' [2, 3, 4, 16] [] ⟨[(2, (I a2)), (3, (.pt 256 0 5)), (4, (.pt 257 0 5)), (16, (B (!(a0.f1 == a1.f1))))], [(256, [(I a0.f0), (I a0.f1), (I a0.f2), (I a0.f3), (I a0.f4)]), (257, [(I a1.f0), (I a1.f1), (I a1.f2), (I a1.f3), (I a1.f4)])], [5 = 5 ∧ 1 + 1 ≤ 5, 5 = 5 ∧ 1 + 1 ≤ 5], []⟩ [c_ 29, c_ 15] (alc ⟨rfl, by decide⟩ (alc ⟨rfl, by decide⟩ aln)) nocal ?_
    by_cases c2 : a0.f1 = a1.f1
    · rw [if_pos c2] at h
      refine .cond' (.tmp 16) false [c_ 30, c_ 31] (bF (nF (qT c2))) ?_
      by_cases c3 : (wrap64 (a0.f2 + a2)) ≤ a1.f2
      · rw [if_pos c3] at h
        by_cases c4 : (wrap64 (a0.f3 + a2)) ≤ a1.f3
        · rw [if_pos c4] at h
          refine .reg' [6] [.no, .no, .no, .no, .no, .no, .no, .v (B true), .no, .no, .no, .no, .no, .no, .no, .no, .no, .v (B false)] ⟨[(6, (B false))], [(256, [(I a0.f0), (I a0.f1), (I a0.f2), (I a0.f3), (I a0.f4)]), (257, [(I a1.f0), (I a1.f1), (I a1.f2), (I a1.f3), (I a1.f4)])], [5 = 5 ∧ 2 + 1 ≤ 5, 5 = 5 ∧ 2 + 1 ≤ 5, (B (decide ((wrap64 (a0.f2 + a2)) ≤ a1.f2)) : V) = B true, 5 = 5 ∧ 3 + 1 ≤ 5, 5 = 5 ∧ 3 + 1 ≤ 5, (B (!(decide ((wrap64 (a0.f3 + a2)) ≤ a1.f3))) : V) = B false], []⟩ [c_ 31] (alc ⟨rfl, by decide⟩ (alc ⟨rfl, by decide⟩ (alc (bT (dT c3)) (alc ⟨rfl, by decide⟩ (alc ⟨rfl, by decide⟩ (alc (bF (nF (dT c4))) aln)))))) nocal ?_
          have h := Option.some.inj h
          subst h
          exact .fin0 [] (B false) [] aln (.z .s)
        · rw [if_neg c4] at h
          by_cases c5 : (wrap64 (a1.f2 + a2)) ≤ a0.f2
          · rw [if_pos c5] at h
            refine .reg' [6] [.no, .no, .no, .no, .no, .no, .no, .v (B true), .no, .no, .no, .no, .no, .no, .no, .no, .no, .v (B true), .no, .no, .no, .no, .no, .no, .no, .v (B true)] ⟨[(6, (B (!(decide ((wrap64 (a1.f3 + a2)) ≤ a0.f3)))))], [(256, [(I a0.f0), (I a0.f1), (I a0.f2), (I a0.f3), (I a0.f4)]), (257, [(I a1.f0), (I a1.f1), (I a1.f2), (I a1.f3), (I a1.f4)])], [5 = 5 ∧ 2 + 1 ≤ 5, 5 = 5 ∧ 2 + 1 ≤ 5, (B (decide ((wrap64 (a0.f2 + a2)) ≤ a1.f2)) : V) = B true, 5 = 5 ∧ 3 + 1 ≤ 5, 5 = 5 ∧ 3 + 1 ≤ 5, (B (!(decide ((wrap64 (a0.f3 + a2)) ≤ a1.f3))) : V) = B true, 5 = 5 ∧ 2 + 1 ≤ 5, 5 = 5 ∧ 2 + 1 ≤ 5, (B (decide ((wrap64 (a1.f2 + a2)) ≤ a0.f2)) : V) = B true, 5 = 5 ∧ 3 + 1 ≤ 5, 5 = 5 ∧ 3 + 1 ≤ 5], []⟩ [c_ 31] (alc ⟨rfl, by decide⟩ (alc ⟨rfl, by decide⟩ (alc (bT (dT c3)) (alc ⟨rfl, by decide⟩ (alc ⟨rfl, by decide⟩ (alc (bT (nT (dF c4))) (alc ⟨rfl, by decide⟩ (alc ⟨rfl, by decide⟩ (alc (bT (dT c5)) (alc ⟨rfl, by decide⟩ (alc ⟨rfl, by decide⟩ aln))))))))))) nocal ?_
            have h := Option.some.inj h
            subst h
            exact .fin0 [] (B (!(decide ((wrap64 (a1.f3 + a2)) ≤ a0.f3)))) [] aln (.z .s)
          · rw [if_neg c5] at h
            refine .reg' [6] [.no, .no, .no, .no, .no, .no, .no, .v (B true), .no, .no, .no, .no, .no, .no, .no, .no, .no, .v (B true), .no, .no, .no, .no, .no, .no, .no, .v (B false)] ⟨[(6, (B true))], [(256, [(I a0.f0), (I a0.f1), (I a0.f2), (I a0.f3), (I a0.f4)]), (257, [(I a1.f0), (I a1.f1), (I a1.f2), (I a1.f3), (I a1.f4)])], [5 = 5 ∧ 2 + 1 ≤ 5, 5 = 5 ∧ 2 + 1 ≤ 5, (B (decide ((wrap64 (a0.f2 + a2)) ≤ a1.f2)) : V) = B true, 5 = 5 ∧ 3 + 1 ≤ 5, 5 = 5 ∧ 3 + 1 ≤ 5, (B (!(decide ((wrap64 (a0.f3 + a2)) ≤ a1.f3))) : V) = B true, 5 = 5 ∧ 2 + 1 ≤ 5, 5 = 5 ∧ 2 + 1 ≤ 5, (B (decide ((wrap64 (a1.f2 + a2)) ≤ a0.f2)) : V) = B false], []⟩ [c_ 31] (alc ⟨rfl, by decide⟩ (alc ⟨rfl, by decide⟩ (alc (bT (dT c3)) (alc ⟨rfl, by decide⟩ (alc ⟨rfl, by decide⟩ (alc (bT (nT (dF c4))) (alc ⟨rfl, by decide⟩ (alc ⟨rfl, by decide⟩ (alc (bF (dF c5)) aln))))))))) nocal ?_
            have h := Option.some.inj h
            subst h
            exact .fin0 [] (B true) [] aln (.z .s)
      · rw [if_neg c3] at h
        by_cases c6 : (wrap64 (a1.f2 + a2)) ≤ a0.f2
        · rw [if_pos c6] at h
          refine .reg' [6] [.no, .no, .no, .no, .no, .no, .no, .v (B false), .no, .no, .no, .no, .no, .no, .no, .no, .no, .no, .no, .no, .no, .no, .no, .no, .no, .v (B true)] ⟨[(6, (B (!(decide ((wrap64 (a1.f3 + a2)) ≤ a0.f3)))))], [(256, [(I a0.f0), (I a0.f1), (I a0.f2), (I a0.f3), (I a0.f4)]), (257, [(I a1.f0), (I a1.f1), (I a1.f2), (I a1.f3), (I a1.f4)])], [5 = 5 ∧ 2 + 1 ≤ 5, 5 = 5 ∧ 2 + 1 ≤ 5, (B (decide ((wrap64 (a0.f2 + a2)) ≤ a1.f2)) : V) = B false, 5 = 5 ∧ 2 + 1 ≤ 5, 5 = 5 ∧ 2 + 1 ≤ 5, (B (decide ((wrap64 (a1.f2 + a2)) ≤ a0.f2)) : V) = B true, 5 = 5 ∧ 3 + 1 ≤ 5, 5 = 5 ∧ 3 + 1 ≤ 5], []⟩ [c_ 31] (alc ⟨rfl, by decide⟩ (alc ⟨rfl, by decide⟩ (alc (bF (dF c3)) (alc ⟨rfl, by decide⟩ (alc ⟨rfl, by decide⟩ (alc (bT (dT c6)) (alc ⟨rfl, by decide⟩ (alc ⟨rfl, by decide⟩ aln)))))))) nocal ?_
          have h := Option.some.inj h
          subst h
          exact .fin0 [] (B (!(decide ((wrap64 (a1.f3 + a2)) ≤ a0.f3)))) [] aln (.z .s)
        · rw [if_neg c6] at h
          refine .reg' [6] [.no, .no, .no, .no, .no, .no, .no, .v (B false), .no, .no, .no, .no, .no, .no, .no, .no, .no, .no, .no, .no, .no, .no, .no, .no, .no, .v (B false)] ⟨[(6, (B true))], [(256, [(I a0.f0), (I a0.f1), (I a0.f2), (I a0.f3), (I a0.f4)]), (257, [(I a1.f0), (I a1.f1), (I a1.f2), (I a1.f3), (I a1.f4)])], [5 = 5 ∧ 2 + 1 ≤ 5, 5 = 5 ∧ 2 + 1 ≤ 5, (B (decide ((wrap64 (a0.f2 + a2)) ≤ a1.f2)) : V) = B false, 5 = 5 ∧ 2 + 1 ≤ 5, 5 = 5 ∧ 2 + 1 ≤ 5, (B (decide ((wrap64 (a1.f2 + a2)) ≤ a0.f2)) : V) = B false], []⟩ [c_ 31] (alc ⟨rfl, by decide⟩ (alc ⟨rfl, by decide⟩ (alc (bF (dF c3)) (alc ⟨rfl, by decide⟩ (alc ⟨rfl, by decide⟩ (alc (bF (dF c6)) aln)))))) nocal ?_
          have h := Option.some.inj h
          subst h
          exact .fin0 [] (B true) [] aln (.z .s)
    · rw [if_neg c2] at h
      refine .cond' (.tmp 16) true [c_ 116, c_ 117, c_ 15] (bT (nT (qF c2))) ?_
      by_cases c7 : a0.f2 < a1.f3
      · rw [if_pos c7] at h
        refine .reg' [6] [.no, .no, .no, .no, .no, .v (B true)] ⟨[(6, (B (decide (a1.f2 < a0.f3))))], [(256, [(I a0.f0), (I a0.f1), (I a0.f2), (I a0.f3), (I a0.f4)]), (257, [(I a1.f0), (I a1.f1), (I a1.f2), (I a1.f3), (I a1.f4)])], [5 = 5 ∧ 2 + 1 ≤ 5, 5 = 5 ∧ 3 + 1 ≤ 5, (B (decide (a0.f2 < a1.f3)) : V) = B true, 5 = 5 ∧ 2 + 1 ≤ 5, 5 = 5 ∧ 3 + 1 ≤ 5], []⟩ [c_ 117, c_ 15] (alc ⟨rfl, by decide⟩ (alc ⟨rfl, by decide⟩ (alc (bT (dT c7)) (alc ⟨rfl, by decide⟩ (alc ⟨rfl, by decide⟩ aln))))) nocal ?_
        have h := Option.some.inj h
        subst h
        exact .fin0 [] (B (decide (a1.f2 < a0.f3))) [] aln (.z .s)
      · rw [if_neg c7] at h
        refine .reg' [6] [.no, .no, .no, .no, .no, .v (B false)] ⟨[(6, (B false))], [(256, [(I a0.f0), (I a0.f1), (I a0.f2), (I a0.f3), (I a0.f4)]), (257, [(I a1.f0), (I a1.f1), (I a1.f2), (I a1.f3), (I a1.f4)])], [5 = 5 ∧ 2 + 1 ≤ 5, 5 = 5 ∧ 3 + 1 ≤ 5, (B (decide (a0.f2 < a1.f3)) : V) = B false], []⟩ [c_ 117, c_ 15] (alc ⟨rfl, by decide⟩ (alc ⟨rfl, by decide⟩ (alc (bF (dF c7)) aln))) nocal ?_
        have h := Option.some.inj h
        subst h
        exact .fin0 [] (B false) [] aln (.z .s)
  · rw [if_neg c1] at h
    refine .cond' (.tmp 11) true [c_ 52, c_ 53, c_ 7] (bT (nT (qF c1))) ?_
    refine .reg' [6] [] ⟨[(6, (B false))], [(256, [(I a0.f0), (I a0.f1), (I a0.f2), (I a0.f3), (I a0.f4)]), (257, [(I a1.f0), (I a1.f1), (I a1.f2), (I a1.f3), (I a1.f4)])], [], []⟩ [c_ 53, c_ 7] aln nocal ?_
    have h := Option.some.inj h
    subst h
    exact .fin0 [] (B false) [] aln (.z .s)
/-! impl_Clash: function 17 -/
def impl_Clash.f (a0 : S22) (a1 : S22) (a2 : Int) : Option Bool := ((impl_UseOk.f a0).bind fun x1 => (if x1 = true then ((impl_UseOk.f a1).bind fun x2 => (if x2 = true then ((impl_between.f a2 0 60).bind fun x3 => (if x3 = true then ((impl_meet.f a0 a1 a2).bind fun x4 => (some x4)) else (some false))) else (some false))) else (some false)))
theorem impl_Clash.J (a0 : S22) (a1 : S22) (a2 : Int) (r : Bool) (h : impl_Clash.f a0 a1 a2 = some r) : J prog (.call 17 [(.ag [(I a0.f0), (I a0.f1), (I a0.f2), (I a0.f3), (I a0.f4)]), (.ag [(I a1.f0), (I a1.f1), (I a1.f2), (I a1.f3), (I a1.f4)]), (I a2)] [] (B r) []) := by
  unfold impl_Clash.f at h
  refine .call' [c_ 2, c_ 3] ?_
  refine .reg' [2, 3, 4] [] ⟨[(2, (I a2)), (3, (.pt 256 0 5)), (4, (.pt 257 0 5))], [(256, [(I a0.f0), (I a0.f1), (I a0.f2), (I a0.f3), (I a0.f4)]), (257, [(I a1.f0), (I a1.f1), (I a1.f2), (I a1.f3), (I a1.f4)])], [], []⟩ [c_ 6, c_ 7] aln nocal ?_
  obtain ⟨x1, hx1, h⟩ := Option.bind_eq_some_iff.mp h
  by_cases c1 : x1 = true
  · rw [if_pos c1] at h
    obtain ⟨x2, hx2, h⟩ := Option.bind_eq_some_iff.mp h
    by_cases c2 : x2 = true
    · rw [if_pos c2] at h
      obtain ⟨x3, hx3, h⟩ := Option.bind_eq_some_iff.mp h
      by_cases c3 : x3 = true
      · rw [if_pos c3] at h
        obtain ⟨x4, hx4, h⟩ := Option.bind_eq_some_iff.mp h
        refine .reg' [6] [.no, .c ⟨15, [(.ag [(I a0.f0), (I a0.f1), (I a0.f2), (I a0.f3), (I a0.f4)])], [], (B x1), [], [], [], [], (B x1), []⟩, .v (B true), .no, .c ⟨15, [(.ag [(I a1.f0), (I a1.f1), (I a1.f2), (I a1.f3), (I a1.f4)])], [], (B x2), [], [], [], [], (B x2), []⟩, .no, .v (B true), .no, .c ⟨58, [(I a2), (I 0), (I 60)], [], (B x3), [], [], [], [], (B x3), []⟩, .no, .v (B true), .no, .no, .no, .c ⟨59, [(.ag [(I a0.f0), (I a0.f1), (I a0.f2), (I a0.f3), (I a0.f4)]), (.ag [(I a1.f0), (I a1.f1), (I a1.f2), (I a1.f3), (I a1.f4)]), (I a2)], [], (B x4), [], [], [], [], (B x4), []⟩] ⟨[(6, (B x4))], [(256, [(I a0.f0), (I a0.f1), (I a0.f2), (I a0.f3), (I a0.f4)]), (257, [(I a1.f0), (I a1.f1), (I a1.f2), (I a1.f3), (I a1.f4)])], [5 = 5 ∧ 0 + 5 ≤ 5, COK (hget [(256, [(I a0.f0), (I a0.f1), (I a0.f2), (I a0.f3), (I a0.f4)]), (257, [(I a1.f0), (I a1.f1), (I a1.f2), (I a1.f3), (I a1.f4)])]) [(.ag [(I a0.f0), (I a0.f1), (I a0.f2), (I a0.f3), (I a0.f4)])] ⟨15, [(.ag [(I a0.f0), (I a0.f1), (I a0.f2), (I a0.f3), (I a0.f4)])], [], (B x1), [], [], [], [], (B x1), []⟩, (B x1 : V) = B true, 5 = 5 ∧ 0 + 5 ≤ 5, COK (hget [(256, [(I a0.f0), (I a0.f1), (I a0.f2), (I a0.f3), (I a0.f4)]), (257, [(I a1.f0), (I a1.f1), (I a1.f2), (I a1.f3), (I a1.f4)])]) [(.ag [(I a1.f0), (I a1.f1), (I a1.f2), (I a1.f3), (I a1.f4)])] ⟨15, [(.ag [(I a1.f0), (I a1.f1), (I a1.f2), (I a1.f3), (I a1.f4)])], [], (B x2), [], [], [], [], (B x2), []⟩, (B x2 : V) = B true, COK (hget [(256, [(I a0.f0), (I a0.f1), (I a0.f2), (I a0.f3), (I a0.f4)]), (257, [(I a1.f0), (I a1.f1), (I a1.f2), (I a1.f3), (I a1.f4)])]) [(I a2), (I 0), (I 60)] ⟨58, [(I a2), (I 0), (I 60)], [], (B x3), [], [], [], [], (B x3), []⟩, (B x3 : V) = B true, 5 = 5 ∧ 0 + 5 ≤ 5, 5 = 5 ∧ 0 + 5 ≤ 5, COK (hget [(256, [(I a0.f0), (I a0.f1), (I a0.f2), (I a0.f3), (I a0.f4)]), (257, [(I a1.f0), (I a1.f1), (I a1.f2), (I a1.f3), (I a1.f4)])]) [(.ag [(I a0.f0), (I a0.f1), (I a0.f2), (I a0.f3), (I a0.f4)]), (.ag [(I a1.f0), (I a1.f1), (I a1.f2), (I a1.f3), (I a1.f4)]), (I a2)] ⟨59, [(.ag [(I a0.f0), (I a0.f1), (I a0.f2), (I a0.f3), (I a0.f4)]), (.ag [(I a1.f0), (I a1.f1), (I a1.f2), (I a1.f3), (I a1.f4)]), (I a2)], [], (B x4), [], [], [], [], (B x4), []⟩], [⟨15, [(.ag [(I a0.f0), (I a0.f1), (I a0.f2), (I a0.f3), (I a0.f4)])], [], (B x1), [], [], [], [], (B x1), []⟩, ⟨15, [(.ag [(I a1.f0), (I a1.f1), (I a1.f2), (I a1.f3), (I a1.f4)])], [], (B x2), [], [], [], [], (B x2), []⟩, ⟨58, [(I a2), (I 0), (I 60)], [], (B x3), [], [], [], [], (B x3), []⟩, ⟨59, [(.ag [(I a0.f0), (I a0.f1), (I a0.f2), (I a0.f3), (I a0.f4)]), (.ag [(I a1.f0), (I a1.f1), (I a1.f2), (I a1.f3), (I a1.f4)]), (I a2)], [], (B x4), [], [], [], [], (B x4), []⟩]⟩ [c_ 7] (alc ⟨rfl, by decide⟩ (alc (cok0 false (a2c (.z (frz_ag (a2c .s (a2c .s (a2c .s (a2c .s (a2c .s a2n))))))) a2n) (.z .s) (fun h => absurd h (by decide))) (alc (bT c1) (alc ⟨rfl, by decide⟩ (alc (cok0 false (a2c (.z (frz_ag (a2c .s (a2c .s (a2c .s (a2c .s (a2c .s a2n))))))) a2n) (.z .s) (fun h => absurd h (by decide))) (alc (bT c2) (alc (cok0 false (a2c (.z .s) (a2c (.z .s) (a2c (.z .s) a2n))) (.z .s) (fun h => absurd h (by decide))) (alc (bT c3) (alc ⟨rfl, by decide⟩ (alc ⟨rfl, by decide⟩ (alc (cok0 false (a2c (.z (frz_ag (a2c .s (a2c .s (a2c .s (a2c .s (a2c .s a2n))))))) (a2c (.z (frz_ag (a2c .s (a2c .s (a2c .s (a2c .s (a2c .s a2n))))))) (a2c (.z .s) a2n))) (.z .s) (fun h => absurd h (by decide))) aln))))))))))) (acal (impl_UseOk.J a0 _ hx1) (acal (impl_UseOk.J a1 _ hx2) (acal (impl_between.J a2 0 60 _ hx3) (acal (impl_meet.J a0 a1 a2 _ hx4) nocal)))) ?_
        have h := Option.some.inj h
        subst h
        exact .fin0 [] (B x4) [] aln (.z .s)
      · rw [if_neg c3] at h
        refine .reg' [6] [.no, .c ⟨15, [(.ag [(I a0.f0), (I a0.f1), (I a0.f2), (I a0.f3), (I a0.f4)])], [], (B x1), [], [], [], [], (B x1), []⟩, .v (B true), .no, .c ⟨15, [(.ag [(I a1.f0), (I a1.f1), (I a1.f2), (I a1.f3), (I a1.f4)])], [], (B x2), [], [], [], [], (B x2), []⟩, .no, .v (B true), .no, .c ⟨58, [(I a2), (I 0), (I 60)], [], (B x3), [], [], [], [], (B x3), []⟩, .no, .v (B false)] ⟨[(6, (B false))], [(256, [(I a0.f0), (I a0.f1), (I a0.f2), (I a0.f3), (I a0.f4)]), (257, [(I a1.f0), (I a1.f1), (I a1.f2), (I a1.f3), (I a1.f4)])], [5 = 5 ∧ 0 + 5 ≤ 5, COK (hget [(256, [(I a0.f0), (I a0.f1), (I a0.f2), (I a0.f3), (I a0.f4)]), (257, [(I a1.f0), (I a1.f1), (I a1.f2), (I a1.f3), (I a1.f4)])]) [(.ag [(I a0.f0), (I a0.f1), (I a0.f2), (I a0.f3), (I a0.f4)])] ⟨15, [(.ag [(I a0.f0), (I a0.f1), (I a0.f2), (I a0.f3), (I a0.f4)])], [], (B x1), [], [], [], [], (B x1), []⟩, (B x1 : V) = B true, 5 = 5 ∧ 0 + 5 ≤ 5, COK (hget [(256, [(I a0.f0), (I a0.f1), (I a0.f2), (I a0.f3), (I a0.f4)]), (257, [(I a1.f0), (I a1.f1), (I a1.f2), (I a1.f3), (I a1.f4)])]) [(.ag [(I a1.f0), (I a1.f1), (I a1.f2), (I a1.f3), (I a1.f4)])] ⟨15, [(.ag [(I a1.f0), (I a1.f1), (I a1.f2), (I a1.f3), (I a1.f4)])], [], (B x2), [], [], [], [], (B x2), []⟩, (B x2 : V) = B true, COK (hget [(256, [(I a0.f0), (I a0.f1), (I a0.f2), (I a0.f3), (I a0.f4)]), (257, [(I a1.f0), (I a1.f1), (I a1.f2), (I a1.f3), (I a1.f4)])]) [(I a2), (I 0), (I 60)] ⟨58, [(I a2), (I 0), (I 60)], [], (B x3), [], [], [], [], (B x3), []⟩, (B x3 : V) = B false], [⟨15, [(.ag [(I a0.f0), (I a0.f1), (I a0.f2), (I a0.f3), (I a0.f4)])], [], (B x1), [], [], [], [], (B x1), []⟩, ⟨15, [(.ag [(I a1.f0), (I a1.f1), (I a1.f2), (I a1.f3), (I a1.f4)])], [], (B x2), [], [], [], [], (B x2), []⟩, ⟨58, [(I a2), (I 0), (I 60)], [], (B x3), [], [], [], [], (B x3), []⟩]⟩ [c_ 7] (alc ⟨rfl, by decide⟩ (alc (cok0 false (a2c (.z (frz_ag (a2c .s (a2c .s (a2c .s (a2c .s (a2c .s a2n))))))) a2n) (.z .s) (fun h => absurd h (by decide))) (alc (bT c1) (alc ⟨rfl, by decide⟩ (alc (cok0 false (a2c (.z (frz_ag (a2c .s (a2c .s (a2c .s (a2c .s (a2c .s a2n))))))) a2n) (.z .s) (fun h => absurd h (by decide))) (alc (bT c2) (alc (cok0 false (a2c (.z .s) (a2c (.z .s) (a2c (.z .s) a2n))) (.z .s) (fun h => absurd h (by decide))) (alc (bF (vF c3)) aln)))))))) (acal (impl_UseOk.J a0 _ hx1) (acal (impl_UseOk.J a1 _ hx2) (acal (impl_between.J a2 0 60 _ hx3) nocal))) ?_
        have h := Option.some.inj h
        subst h
        exact .fin0 [] (B false) [] aln (.z .s)
    · rw [if_neg c2] at h
      refine .reg' [6] [.no, .c ⟨15, [(.ag [(I a0.f0), (I a0.f1), (I a0.f2), (I a0.f3), (I a0.f4)])], [], (B x1), [], [], [], [], (B x1), []⟩, .v (B true), .no, .c ⟨15, [(.ag [(I a1.f0), (I a1.f1), (I a1.f2), (I a1.f3), (I a1.f4)])], [], (B x2), [], [], [], [], (B x2), []⟩, .no, .v (B false)] ⟨[(6, (B false))], [(256, [(I a0.f0), (I a0.f1), (I a0.f2), (I a0.f3), (I a0.f4)]), (257, [(I a1.f0), (I a1.f1), (I a1.f2), (I a1.f3), (I a1.f4)])], [5 = 5 ∧ 0 + 5 ≤ 5, COK (hget [(256, [(I a0.f0), (I a0.f1), (I a0.f2), (I a0.f3), (I a0.f4)]), (257, [(I a1.f0), (I a1.f1), (I a1.f2), (I a1.f3), (I a1.f4)])]) [(.ag [(I a0.f0), (I a0.f1), (I a0.f2), (I a0.f3), (I a0.f4)])] ⟨15, [(.ag [(I a0.f0), (I a0.f1), (I a0.f2), (I a0.f3), (I a0.f4)])], [], (B x1), [], [], [], [], (B x1), []⟩, (B x1 : V) = B true, 5 = 5 ∧ 0 + 5 ≤ 5, COK (hget [(256, [(I a0.f0), (I a0.f1), (I a0.f2), (I a0.f3), (I a0.f4)]), (257, [(I a1.f0), (I a1.f1), (I a1.f2), (I a1.f3), (I a1.f4)])]) [(.ag [(I a1.f0), (I a1.f1), (I a1.f2), (I a1.f3), (I a1.f4)])] ⟨15, [(.ag [(I a1.f0), (I a1.f1), (I a1.f2), (I a1.f3), (I a1.f4)])], [], (B x2), [], [], [], [], (B x2), []⟩, (B x2 : V) = B false], [⟨15, [(.ag [(I a0.f0), (I a0.f1), (I a0.f2), (I a0.f3), (I a0.f4)])], [], (B x1), [], [], [], [], (B x1), []⟩, ⟨15, [(.ag [(I a1.f0), (I a1.f1), (I a1.f2), (I a1.f3), (I a1.f4)])], [], (B x2), [], [], [], [], (B x2), []⟩]⟩ [c_ 7] (alc ⟨rfl, by decide⟩ (alc (cok0 false (a2c (.z (frz_ag (a2c .s (a2c .s (a2c .s (a2c .s (a2c .s a2n))))))) a2n) (.z .s) (fun h => absurd h (by decide))) (alc (bT c1) (alc ⟨rfl, by decide⟩ (alc (cok0 false (a2c (.z (frz_ag (a2c .s (a2c .s (a2c .s (a2c .s (a2c .s a2n))))))) a2n) (.z .s) (fun h => absurd h (by decide))) (alc (bF (vF c2)) aln)))))) (acal (impl_UseOk.J a0 _ hx1) (acal (impl_UseOk.J a1 _ hx2) nocal)) ?_
      have h := Option.some.inj h
      subst h
      exact .fin0 [] (B false) [] aln (.z .s)
  · rw [if_neg c1] at h
    refine .reg' [6] [.no, .c ⟨15, [(.ag [(I a0.f0), (I a0.f1), (I a0.f2), (I a0.f3), (I a0.f4)])], [], (B x1), [], [], [], [], (B x1), []⟩, .v (B false)] ⟨[(6, (B false))], [(256, [(I a0.f0), (I a0.f1), (I a0.f2), (I a0.f3), (I a0.f4)]), (257, [(I a1.f0), (I a1.f1), (I a1.f2), (I a1.f3), (I a1.f4)])], [5 = 5 ∧ 0 + 5 ≤ 5, COK (hget [(256, [(I a0.f0), (I a0.f1), (I a0.f2), (I a0.f3), (I a0.f4)]), (257, [(I a1.f0), (I a1.f1), (I a1.f2), (I a1.f3), (I a1.f4)])]) [(.ag [(I a0.f0), (I a0.f1), (I a0.f2), (I a0.f3), (I a0.f4)])] ⟨15, [(.ag [(I a0.f0), (I a0.f1), (I a0.f2), (I a0.f3), (I a0.f4)])], [], (B x1), [], [], [], [], (B x1), []⟩, (B x1 : V) = B false], [⟨15, [(.ag [(I a0.f0), (I a0.f1), (I a0.f2), (I a0.f3), (I a0.f4)])], [], (B x1), [], [], [], [], (B x1), []⟩]⟩ [c_ 7] (alc ⟨rfl, by decide⟩ (alc (cok0 false (a2c (.z (frz_ag (a2c .s (a2c .s (a2c .s (a2c .s (a2c .s a2n))))))) a2n) (.z .s) (fun h => absurd h (by decide))) (alc (bF (vF c1)) aln))) (acal (impl_UseOk.J a0 _ hx1) nocal) ?_
    have h := Option.some.inj h
    subst h
    exact .fin0 [] (B false) [] aln (.z .s)
/-! impl_FirstClash: function 21 -/
mutual
def impl_FirstClash.l0 : Nat → (List S22) → Int → Int → Option (Int × Int)
 | 0, _, _, _ => none
 | k + 1, a0, a1, x2 => (if x2 < (a0.length : Int) then (if 0 ≤ x2 then (impl_FirstClash.l1 k a0 a1 x2 (wrap64 (x2 + 1))) else none) else (some ((-1), (-1))))
def impl_FirstClash.l1 : Nat → (List S22) → Int → Int → Int → Option (Int × Int)
 | 0, _, _, _, _ => none
 | k + 1, a0, a1, x2, x3 => (if x3 < (a0.length : Int) then (if 0 ≤ x3 then (if (at_ a0 x2).f4 = (at_ a0 x3).f4 then (impl_FirstClash.l1 k a0 a1 x2 (wrap64 (x3 + 1))) else ((impl_Clash.f (at_ a0 x2) (at_ a0 x3) a1).bind fun x4 => (if x4 = true then (some (x2, x3)) else (impl_FirstClash.l1 k a0 a1 x2 (wrap64 (x3 + 1)))))) else none) else (impl_FirstClash.l0 k a0 a1 (wrap64 (x2 + 1))))
end
def impl_FirstClash.f (k : Nat) (a0 : (List S22)) (a1 : Int) : Option (Int × Int) := (if (a0.length : Int) > 300 then (some ((-1), (-1))) else ((impl_between.f a1 0 60).bind fun x1 => (if x1 = true then (impl_FirstClash.l0 k a0 a1 0) else (some ((-1), (-1))))))
theorem impl_FirstClash.lab : ∀ k, (∀ (a0 : (List S22)) (a1 : Int) (x2 : Int) (r : (Int × Int)), impl_FirstClash.l0 k a0 a1 x2 = some r → J prog (.run 21 [] [l_ 58, b_ 0, c_ 15] [(0, (.sl true a0.length 5 (a0.flatMap e22))), (1, (I a1)), (18, (.sl true a0.length 5 (a0.flatMap e22))), (19, (I (a0.length : Int))), (20, (I x2))] [] (.tp [(I r.1), (I r.2)]) [])) ∧ (∀ (a0 : (List S22)) (a1 : Int) (x2 : Int) (x3 : Int) (r : (Int × Int)), impl_FirstClash.l1 k a0 a1 x2 x3 = some r → J prog (.run 21 [] [l_ 14950, b_ 2, b_ 1, c_ 935, l_ 58, b_ 0, c_ 15] [(0, (.sl true a0.length 5 (a0.flatMap e22))), (1, (I a1)), (6, (I x2)), (7, (.pt 1539 0 5)), (8, (I x3)), (18, (.sl true a0.length 5 (a0.flatMap e22))), (19, (I (a0.length : Int))), (20, (I x2))] [(1539, [(I (at_ a0 x2).f0), (I (at_ a0 x2).f1), (I (at_ a0 x2).f2), (I (at_ a0 x2).f3), (I (at_ a0 x2).f4)])] (.tp [(I r.1), (I r.2)]) []))
 | 0 => ⟨(by intro a0 a1 x2 r h; unfold impl_FirstClash.l0 at h; cases h), (by intro a0 a1 x2 x3 r h; unfold impl_FirstClash.l1 at h; cases h)⟩
 | k + 1 => by
  obtain ⟨ih0, ih1⟩ := impl_FirstClash.lab k
  refine ⟨?_, ?_⟩
  · intro a0 a1 x2 r h
    unfold impl_FirstClash.l0 at h
    refine .loop' [c_ 232, c_ 233, l_ 58, b_ 0, c_ 15] ?_
    refine .reg' [0, 1, 18, 19, 20, 21] [] ⟨[(0, (.sl true a0.length 5 (a0.flatMap e22))), (1, (I a1)), (18, (.sl true a0.length 5 (a0.flatMap e22))), (19, (I (a0.length : Int))), (20, (I x2)), (21, (B (decide (x2 < (a0.length : Int)))))], [], [], []⟩ [c_ 466, c_ 467, l_ 58, b_ 0, c_ 15] aln nocal ?_
    by_cases c3 : x2 < (a0.length : Int)
    · rw [if_pos c3] at h
      refine .cond' (.tmp 21) true [c_ 3736, c_ 3737, b_ 1, c_ 935, l_ 58, b_ 0, c_ 15] (bT (dT c3)) ?_
      by_cases c4 : 0 ≤ x2
      · rw [if_pos c4] at h
        refine .reg' [0, 1, 6, 7, 18, 19, 20] [.no, .no, .v (.ag [(I (at_ a0 x2).f0), (I (at_ a0 x2).f1), (I (at_ a0 x2).f2), (I (at_ a0 x2).f3), (I (at_ a0 x2).f4)])] ⟨[(0, (.sl true a0.length 5 (a0.flatMap e22))), (1, (I a1)), (6, (I x2)), (7, (.pt 1539 0 5)), (18, (.sl true a0.length 5 (a0.flatMap e22))), (19, (I (a0.length : Int))), (20, (I x2))], [(1539, [(I (at_ a0 x2).f0), (I (at_ a0 x2).f1), (I (at_ a0 x2).f2), (I (at_ a0 x2).f3), (I (at_ a0 x2).f4)])], [(0 : Int) ≤ x2 ∧ x2 < (a0.length : Int), rdC prog 25 ((a0.flatMap e22).drop (x2.toNat * 5)) = (.ag [(I (at_ a0 x2).f0), (I (at_ a0 x2).f1), (I (at_ a0 x2).f2), (I (at_ a0 x2).f3), (I (at_ a0 x2).f4)]), 5 ≤ ((a0.flatMap e22).drop (x2.toNat * 5)).length, 5 = 5 ∧ 0 + 5 ≤ 5], []⟩ [c_ 7474, c_ 7475, b_ 1, c_ 935, l_ 58, b_ 0, c_ 15] (alc ⟨c4, c3⟩ (alc (ldA e22_ok rfl rfl c4 c3) (alc (okI e22_ok c4 c3 (by decide)) (alc ⟨rfl, by decide⟩ aln)))) nocal ?_
        refine .reg' [0, 1, 6, 7, 8, 18, 19, 20] [] ⟨[(0, (.sl true a0.length 5 (a0.flatMap e22))), (1, (I a1)), (6, (I x2)), (7, (.pt 1539 0 5)), (8, (I (wrap64 (x2 + 1)))), (18, (.sl true a0.length 5 (a0.flatMap e22))), (19, (I (a0.length : Int))), (20, (I x2))], [(1539, [(I (at_ a0 x2).f0), (I (at_ a0 x2).f1), (I (at_ a0 x2).f2), (I (at_ a0 x2).f3), (I (at_ a0 x2).f4)])], [], []⟩ [l_ 14950, b_ 2, b_ 1, c_ 935, l_ 58, b_ 0, c_ 15] aln nocal ?_
        exact ih1 a0 a1 x2 (wrap64 (x2 + 1)) _ h
      · rw [if_neg c4] at h
        cases h
    · rw [if_neg c3] at h
      refine .cond' (.tmp 21) false [c_ 30, c_ 31] (bF (dF c3)) ?_
      refine .reg' [4, 5] [] ⟨[(4, (I (-1))), (5, (I (-1)))], [], [], []⟩ [c_ 31] aln nocal ?_
      have h := Option.some.inj h
      subst h
      exact .fin0 [] (.tp [(I (-1)), (I (-1))]) [] aln (cnv_tp (a2c (.z .s) (a2c (.z .s) a2n)))
  · intro a0 a1 x2 x3 r h
    unfold impl_FirstClash.l1 at h
    refine .loop' [c_ 119600, c_ 119601, c_ 59801, l_ 14950, b_ 2, b_ 1, c_ 935, l_ 58, b_ 0, c_ 15] ?_
    refine .reg' [0, 1, 6, 7, 8, 18, 19, 20, 30] [] ⟨[(0, (.sl true a0.length 5 (a0.flatMap e22))), (1, (I a1)), (6, (I x2)), (7, (.pt 1539 0 5)), (8, (I x3)), (18, (.sl true a0.length 5 (a0.flatMap e22))), (19, (I (a0.length : Int))), (20, (I x2)), (30, (B (decide (x3 < (a0.length : Int)))))], [(1539, [(I (at_ a0 x2).f0), (I (at_ a0 x2).f1), (I (at_ a0 x2).f2), (I (at_ a0 x2).f3), (I (at_ a0 x2).f4)])], [], []⟩ [c_ 119601, c_ 59801, l_ 14950, b_ 2, b_ 1, c_ 935, l_ 58, b_ 0, c_ 15] aln nocal ?_
    by_cases c5 : x3 < (a0.length : Int)
    · rw [if_pos c5] at h
      refine .cond' (.tmp 30) true [c_ 478408, c_ 478409, b_ 3, c_ 119603, l_ 14950, b_ 2, b_ 1, c_ 935, l_ 58, b_ 0, c_ 15] (bT (dT c5)) ?_
      by_cases c6 : 0 ≤ x3
      · rw [if_pos c6] at h
        refine .reg' [0, 1, 6, 7, 8, 9, 18, 19, 20] [.no, .no, .no, .v (.ag [(I (at_ a0 x3).f0), (I (at_ a0 x3).f1), (I (at_ a0 x3).f2), (I (at_ a0 x3).f3), (I (at_ a0 x3).f4)])] ⟨[(0, (.sl true a0.length 5 (a0.flatMap e22))), (1, (I a1)), (6, (I x2)), (7, (.pt 1539 0 5)), (8, (I x3)), (9, (.pt 2564 0 5)), (18, (.sl true a0.length 5 (a0.flatMap e22))), (19, (I (a0.length : Int))), (20, (I x2))], [(1539, [(I (at_ a0 x2).f0), (I (at_ a0 x2).f1), (I (at_ a0 x2).f2), (I (at_ a0 x2).f3), (I (at_ a0 x2).f4)]), (2564, [(I (at_ a0 x3).f0), (I (at_ a0 x3).f1), (I (at_ a0 x3).f2), (I (at_ a0 x3).f3), (I (at_ a0 x3).f4)])], [(0 : Int) ≤ x3 ∧ x3 < (a0.length : Int), rdC prog 25 ((a0.flatMap e22).drop (x3.toNat * 5)) = (.ag [(I (at_ a0 x3).f0), (I (at_ a0 x3).f1), (I (at_ a0 x3).f2), (I (at_ a0 x3).f3), (I (at_ a0 x3).f4)]), 5 ≤ ((a0.flatMap e22).drop (x3.toNat * 5)).length, 5 = 5 ∧ 0 + 5 ≤ 5], []⟩ [c_ 956818, c_ 956819, b_ 3, c_ 119603, l_ 14950, b_ 2, b_ 1, c_ 935, l_ 58, b_ 0, c_ 15] (alc ⟨c6, c5⟩ (alc (ldA e22_ok rfl rfl c6 c5) (alc (okI e22_ok c6 c5 (by decide)) (alc ⟨rfl, by decide⟩ aln)))) nocal ?_
        by_cases c7 : (at_ a0 x2).f4 = (at_ a0 x3).f4
        · rw [if_pos c7] at h
          refine .reg' [0, 1, 6, 7, 8, 18, 19, 20, 47] [.no, .no, .no, .no, .no, .v (B false)] ⟨[(0, (.sl true a0.length 5 (a0.flatMap e22))), (1, (I a1)), (6, (I x2)), (7, (.pt 1539 0 5)), (8, (I x3)), (18, (.sl true a0.length 5 (a0.flatMap e22))), (19, (I (a0.length : Int))), (20, (I x2)), (47, (B false))], [(1539, [(I (at_ a0 x2).f0), (I (at_ a0 x2).f1), (I (at_ a0 x2).f2), (I (at_ a0 x2).f3), (I (at_ a0 x2).f4)]), (2564, [(I (at_ a0 x3).f0), (I (at_ a0 x3).f1), (I (at_ a0 x3).f2), (I (at_ a0 x3).f3), (I (at_ a0 x3).f4)])], [5 = 5 ∧ 4 + 1 ≤ 5, 5 = 5 ∧ 4 + 1 ≤ 5, (B (!((at_ a0 x2).f4 == (at_ a0 x3).f4)) : V) = B false], []⟩ [c_ 956819, b_ 3, c_ 119603, l_ 14950, b_ 2, b_ 1, c_ 935, l_ 58, b_ 0, c_ 15] (alc ⟨rfl, by decide⟩ (alc ⟨rfl, by decide⟩ (alc (bF (nF (qT c7))) aln))) nocal ?_
          refine .cond' (.tmp 47) false [c_ 119603, l_ 14950, b_ 2, b_ 1, c_ 935, l_ 58, b_ 0, c_ 15] (rfl) ?_
          refine .reg' [0, 1, 6, 7, 8, 18, 19, 20] [] ⟨[(0, (.sl true a0.length 5 (a0.flatMap e22))), (1, (I a1)), (6, (I x2)), (7, (.pt 1539 0 5)), (8, (I (wrap64 (x3 + 1)))), (18, (.sl true a0.length 5 (a0.flatMap e22))), (19, (I (a0.length : Int))), (20, (I x2))], [(1539, [(I (at_ a0 x2).f0), (I (at_ a0 x2).f1), (I (at_ a0 x2).f2), (I (at_ a0 x2).f3), (I (at_ a0 x2).f4)]), (2564, [(I (at_ a0 x3).f0), (I (at_ a0 x3).f1), (I (at_ a0 x3).f2), (I (at_ a0 x3).f3), (I (at_ a0 x3).f4)])], [], []⟩ [l_ 14950, b_ 2, b_ 1, c_ 935, l_ 58, b_ 0, c_ 15] aln nocal ?_
          refine .wk' [] [(1539, 1539)] [(0, (.sl true a0.length 5 (a0.flatMap e22))), (1, (I a1)), (6, (I x2)), (7, (.pt 1539 0 5)), (8, (I (wrap64 (x3 + 1)))), (18, (.sl true a0.length 5 (a0.flatMap e22))), (19, (I (a0.length : Int))), (20, (I x2))] [(1539, [(I (at_ a0 x2).f0), (I (at_ a0 x2).f1), (I (at_ a0 x2).f2), (I (at_ a0 x2).f3), (I (at_ a0 x2).f4)])] (shc 1539 (a2c (.z .s) (a2c (.z .s) (a2c (.z .s) (a2c (.z .s) (a2c (.z .s) a2n))))) shn) (enc_ (.z (frz_sl e22_ok (fun h => h))) (enc_ (.z .s) (enc_ (.z .s) (enc_ (.pt (memP_mem (p := (1539, 1539)) rfl)) (enc_ (.z .s) (enc_ (.z (frz_sl e22_ok (fun h => h))) (enc_ (.z .s) (enc_ (.z .s) enn)))))))) ?_
          exact ih1 a0 a1 x2 (wrap64 (x3 + 1)) _ h
        · rw [if_neg c7] at h
          obtain ⟨x4, hx4, h⟩ := Option.bind_eq_some_iff.mp h
          refine .reg' [0, 1, 6, 7, 8, 18, 19, 20, 47] [.no, .no, .no, .no, .no, .v (B true), .no, .no, .no, .c ⟨17, [(.ag [(I (at_ a0 x2).f0), (I (at_ a0 x2).f1), (I (at_ a0 x2).f2), (I (at_ a0 x2).f3), (I (at_ a0 x2).f4)]), (.ag [(I (at_ a0 x3).f0), (I (at_ a0 x3).f1), (I (at_ a0 x3).f2), (I (at_ a0 x3).f3), (I (at_ a0 x3).f4)]), (I a1)], [], (B x4), [], [], [], [], (B x4), []⟩] ⟨[(0, (.sl true a0.length 5 (a0.flatMap e22))), (1, (I a1)), (6, (I x2)), (7, (.pt 1539 0 5)), (8, (I x3)), (18, (.sl true a0.length 5 (a0.flatMap e22))), (19, (I (a0.length : Int))), (20, (I x2)), (47, (B x4))], [(1539, [(I (at_ a0 x2).f0), (I (at_ a0 x2).f1), (I (at_ a0 x2).f2), (I (at_ a0 x2).f3), (I (at_ a0 x2).f4)]), (2564, [(I (at_ a0 x3).f0), (I (at_ a0 x3).f1), (I (at_ a0 x3).f2), (I (at_ a0 x3).f3), (I (at_ a0 x3).f4)])], [5 = 5 ∧ 4 + 1 ≤ 5, 5 = 5 ∧ 4 + 1 ≤ 5, (B (!((at_ a0 x2).f4 == (at_ a0 x3).f4)) : V) = B true, 5 = 5 ∧ 0 + 5 ≤ 5, 5 = 5 ∧ 0 + 5 ≤ 5, COK (hget [(1539, [(I (at_ a0 x2).f0), (I (at_ a0 x2).f1), (I (at_ a0 x2).f2), (I (at_ a0 x2).f3), (I (at_ a0 x2).f4)]), (2564, [(I (at_ a0 x3).f0), (I (at_ a0 x3).f1), (I (at_ a0 x3).f2), (I (at_ a0 x3).f3), (I (at_ a0 x3).f4)])]) [(.ag [(I (at_ a0 x2).f0), (I (at_ a0 x2).f1), (I (at_ a0 x2).f2), (I (at_ a0 x2).f3), (I (at_ a0 x2).f4)]), (.ag [(I (at_ a0 x3).f0), (I (at_ a0 x3).f1), (I (at_ a0 x3).f2), (I (at_ a0 x3).f3), (I (at_ a0 x3).f4)]), (I a1)] ⟨17, [(.ag [(I (at_ a0 x2).f0), (I (at_ a0 x2).f1), (I (at_ a0 x2).f2), (I (at_ a0 x2).f3), (I (at_ a0 x2).f4)]), (.ag [(I (at_ a0 x3).f0), (I (at_ a0 x3).f1), (I (at_ a0 x3).f2), (I (at_ a0 x3).f3), (I (at_ a0 x3).f4)]), (I a1)], [], (B x4), [], [], [], [], (B x4), []⟩], [⟨17, [(.ag [(I (at_ a0 x2).f0), (I (at_ a0 x2).f1), (I (at_ a0 x2).f2), (I (at_ a0 x2).f3), (I (at_ a0 x2).f4)]), (.ag [(I (at_ a0 x3).f0), (I (at_ a0 x3).f1), (I (at_ a0 x3).f2), (I (at_ a0 x3).f3), (I (at_ a0 x3).f4)]), (I a1)], [], (B x4), [], [], [], [], (B x4), []⟩]⟩ [c_ 956819, b_ 3, c_ 119603, l_ 14950, b_ 2, b_ 1, c_ 935, l_ 58, b_ 0, c_ 15] (alc ⟨rfl, by decide⟩ (alc ⟨rfl, by decide⟩ (alc (bT (nT (qF c7))) (alc ⟨rfl, by decide⟩ (alc ⟨rfl, by decide⟩ (alc (cok0 false (a2c (.z (frz_ag (a2c .s (a2c .s (a2c .s (a2c .s (a2c .s a2n))))))) (a2c (.z (frz_ag (a2c .s (a2c .s (a2c .s (a2c .s (a2c .s a2n))))))) (a2c (.z .s) a2n))) (.z .s) (fun h => absurd h (by decide))) aln)))))) (acal (impl_Clash.J (at_ a0 x2) (at_ a0 x3) a1 _ hx4) nocal) ?_
          by_cases c8 : x4 = true
          · rw [if_pos c8] at h
            refine .cond' (.tmp 47) true [c_ 3827276, c_ 3827277, b_ 3, c_ 119603, l_ 14950, b_ 2, b_ 1, c_ 935, l_ 58, b_ 0, c_ 15] (bT c8) ?_
            refine .reg' [4, 5] [] ⟨[(4, (I x2)), (5, (I x3))], [(1539, [(I (at_ a0 x2).f0), (I (at_ a0 x2).f1), (I (at_ a0 x2).f2), (I (at_ a0 x2).f3), (I (at_ a0 x2).f4)]), (2564, [(I (at_ a0 x3).f0), (I (at_ a0 x3).f1), (I (at_ a0 x3).f2), (I (at_ a0 x3).f3), (I (at_ a0 x3).f4)])], [], []⟩ [c_ 3827277, b_ 3, c_ 119603, l_ 14950, b_ 2, b_ 1, c_ 935, l_ 58, b_ 0, c_ 15] aln nocal ?_
            have h := Option.some.inj h
            subst h
            exact .fin0 [] (.tp [(I x2), (I x3)]) [] aln (cnv_tp (a2c (.z .s) (a2c (.z .s) a2n)))
          · rw [if_neg c8] at h
            refine .cond' (.tmp 47) false [c_ 119603, l_ 14950, b_ 2, b_ 1, c_ 935, l_ 58, b_ 0, c_ 15] (bF (vF c8)) ?_
            refine .reg' [0, 1, 6, 7, 8, 18, 19, 20] [] ⟨[(0, (.sl true a0.length 5 (a0.flatMap e22))), (1, (I a1)), (6, (I x2)), (7, (.pt 1539 0 5)), (8, (I (wrap64 (x3 + 1)))), (18, (.sl true a0.length 5 (a0.flatMap e22))), (19, (I (a0.length : Int))), (20, (I x2))], [(1539, [(I (at_ a0 x2).f0), (I (at_ a0 x2).f1), (I (at_ a0 x2).f2), (I (at_ a0 x2).f3), (I (at_ a0 x2).f4)]), (2564, [(I (at_ a0 x3).f0), (I (at_ a0 x3).f1), (I (at_ a0 x3).f2), (I (at_ a0 x3).f3), (I (at_ a0 x3).f4)])], [], []⟩ [l_ 14950, b_ 2, b_ 1, c_ 935, l_ 58, b_ 0, c_ 15] aln nocal ?_
            refine .wk' [] [(1539, 1539)] [(0, (.sl true a0.length 5 (a0.flatMap e22))), (1, (I a1)), (6, (I x2)), (7, (.pt 1539 0 5)), (8, (I (wrap64 (x3 + 1)))), (18, (.sl true a0.length 5 (a0.flatMap e22))), (19, (I (a0.length : Int))), (20, (I x2))] [(1539, [(I (at_ a0 x2).f0), (I (at_ a0 x2).f1), (I (at_ a0 x2).f2), (I (at_ a0 x2).f3), (I (at_ a0 x2).f4)])] (shc 1539 (a2c (.z .s) (a2c (.z .s) (a2c (.z .s) (a2c (.z .s) (a2c (.z .s) a2n))))) shn) (enc_ (.z (frz_sl e22_ok (fun h => h))) (enc_ (.z .s) (enc_ (.z .s) (enc_ (.pt (memP_mem (p := (1539, 1539)) rfl)) (enc_ (.z .s) (enc_ (.z (frz_sl e22_ok (fun h => h))) (enc_ (.z .s) (enc_ (.z .s) enn)))))))) ?_
            exact ih1 a0 a1 x2 (wrap64 (x3 + 1)) _ h
      · rw [if_neg c6] at h
        cases h
    · rw [if_neg c5] at h
      refine .cond' (.tmp 30) false [c_ 935, l_ 58, b_ 0, c_ 15] (bF (dF c5)) ?_
      refine .reg' [0, 1, 18, 19, 20] [] ⟨[(0, (.sl true a0.length 5 (a0.flatMap e22))), (1, (I a1)), (18, (.sl true a0.length 5 (a0.flatMap e22))), (19, (I (a0.length : Int))), (20, (I (wrap64 (x2 + 1))))], [(1539, [(I (at_ a0 x2).f0), (I (at_ a0 x2).f1), (I (at_ a0 x2).f2), (I (at_ a0 x2).f3), (I (at_ a0 x2).f4)])], [], []⟩ [l_ 58, b_ 0, c_ 15] aln nocal ?_
      refine .wk' [] [] [(0, (.sl true a0.length 5 (a0.flatMap e22))), (1, (I a1)), (18, (.sl true a0.length 5 (a0.flatMap e22))), (19, (I (a0.length : Int))), (20, (I (wrap64 (x2 + 1))))] [] shn (enc_ (.z (frz_sl e22_ok (fun h => h))) (enc_ (.z .s) (enc_ (.z (frz_sl e22_ok (fun h => h))) (enc_ (.z .s) (enc_ (.z .s) enn))))) ?_
      exact ih0 a0 a1 (wrap64 (x2 + 1)) _ h
theorem impl_FirstClash.J (k : Nat) (a0 : (List S22)) (a1 : Int) (r : (Int × Int)) (h : impl_FirstClash.f k a0 a1 = some r) : J prog (.call 21 [(.sl true a0.length 5 (a0.flatMap e22)), (I a1)] [] (.tp [(I r.1), (I r.2)]) []) := by
  unfold impl_FirstClash.f at h
  obtain ⟨ih0, ih1⟩ := impl_FirstClash.lab k
  refine .call' [c_ 2, c_ 3] ?_
  refine .reg' [0, 1] [] ⟨[(0, (.sl true a0.length 5 (a0.flatMap e22))), (1, (I a1))], [], [], []⟩ [c_ 12, c_ 13, c_ 7] aln nocal ?_
  by_cases c1 : (a0.length : Int) > 300
  · rw [if_pos c1] at h
    refine .reg' [0, 1, 17] [.no, .no, .no, .v (B true)] ⟨[(0, (.sl true a0.length 5 (a0.flatMap e22))), (1, (I a1)), (17, (B true))], [], [(B (decide ((a0.length : Int) > 300)) : V) = B true], []⟩ [c_ 13, c_ 7] (alc (bT (dT c1)) aln) nocal ?_
    refine .cond' (.tmp 17) true [c_ 52, c_ 53, c_ 7] (rfl) ?_
    refine .reg' [4, 5] [] ⟨[(4, (I (-1))), (5, (I (-1)))], [], [], []⟩ [c_ 53, c_ 7] aln nocal ?_
    have h := Option.some.inj h
    subst h
    exact .fin0 [] (.tp [(I (-1)), (I (-1))]) [] aln (cnv_tp (a2c (.z .s) (a2c (.z .s) a2n)))
  · rw [if_neg c1] at h
    obtain ⟨x1, hx1, h⟩ := Option.bind_eq_some_iff.mp h
    refine .reg' [0, 1, 17] [.no, .no, .no, .v (B false), .no, .c ⟨58, [(I a1), (I 0), (I 60)], [], (B x1), [], [], [], [], (B x1), []⟩] ⟨[(0, (.sl true a0.length 5 (a0.flatMap e22))), (1, (I a1)), (17, (B (!x1)))], [], [(B (decide ((a0.length : Int) > 300)) : V) = B false, COK (hget []) [(I a1), (I 0), (I 60)] ⟨58, [(I a1), (I 0), (I 60)], [], (B x1), [], [], [], [], (B x1), []⟩], [⟨58, [(I a1), (I 0), (I 60)], [], (B x1), [], [], [], [], (B x1), []⟩]⟩ [c_ 13, c_ 7] (alc (bF (dF c1)) (alc (cok0 false (a2c (.z .s) (a2c (.z .s) (a2c (.z .s) a2n))) (.z .s) (fun h => absurd h (by decide))) aln)) (acal (impl_between.J a1 0 60 _ hx1) nocal) ?_
    by_cases c2 : x1 = true
    · rw [if_pos c2] at h
      refine .cond' (.tmp 17) false [c_ 28, c_ 29, c_ 15] (bF (nF c2)) ?_
      refine .reg' [0, 1, 18, 19, 20] [] ⟨[(0, (.sl true a0.length 5 (a0.flatMap e22))), (1, (I a1)), (18, (.sl true a0.length 5 (a0.flatMap e22))), (19, (I (a0.length : Int))), (20, (I 0))], [], [], []⟩ [l_ 58, b_ 0, c_ 15] aln nocal ?_
      exact ih0 a0 a1 0 _ h
    · rw [if_neg c2] at h
      refine .cond' (.tmp 17) true [c_ 52, c_ 53, c_ 7] (bT (nT (vF c2))) ?_
      refine .reg' [4, 5] [] ⟨[(4, (I (-1))), (5, (I (-1)))], [], [], []⟩ [c_ 53, c_ 7] aln nocal ?_
      have h := Option.some.inj h
      subst h
      exact .fin0 [] (.tp [(I (-1)), (I (-1))]) [] aln (cnv_tp (a2c (.z .s) (a2c (.z .s) a2n)))
/-! impl_Clean: function 38 -/
def impl_Clean.f (k : Nat) (a0 : S46) (a1 : (List S66)) (a2 : Int) : Option Bool := ((impl_usesOfAll.f k a0 a1).bind fun x1 => (if x1.2 = true then ((impl_between.f a2 0 60).bind fun x2 => (if x2 = true then ((impl_FirstClash.f k x1.1 a2).bind fun x3 => (some (decide (x3.1 < 0)))) else (some false))) else (some false)))
theorem impl_Clean.J (k : Nat) (a0 : S46) (a1 : (List S66)) (a2 : Int) (r : Bool) (h : impl_Clean.f k a0 a1 a2 = some r) : J prog (.call 38 [(.ag [(I a0.f0), (.sl true a0.f1.length 4 (a0.f1.flatMap e95))]), (.sl true a1.length 2 (a1.flatMap (e66 true))), (I a2)] [] (B r) []) := by
  unfold impl_Clean.f at h
  refine .call' [c_ 2, c_ 3] ?_
  refine .reg' [1, 2, 3] [] ⟨[(1, (.sl true a1.length 2 (a1.flatMap (e66 true)))), (2, (I a2)), (3, (.pt 256 0 2))], [(256, [(I a0.f0), (.sl true a0.f1.length 4 (a0.f1.flatMap e95))])], [], []⟩ [c_ 6, c_ 7] aln nocal ?_
  obtain ⟨x1, hx1, h⟩ := Option.bind_eq_some_iff.mp h
  refine .reg' [2, 7, 8] [.no, .no, .c ⟨66, [(.ag [(I a0.f0), (.sl true a0.f1.length 4 (a0.f1.flatMap e95))]), (.sl true a1.length 2 (a1.flatMap (e66 true)))], [], (.tp [(.rf 1024 0 x1.1.length 5 (x1.1.length * 5)), (B x1.2)]), [(1024, (x1.1.flatMap e22))], [], [], [(1000514, 1024)], (.tp [(.rf 1000514 0 x1.1.length 5 (x1.1.length * 5)), (B x1.2)]), [(1000514, (x1.1.flatMap e22))]⟩] ⟨[(2, (I a2)), (7, (.rf 1000514 0 x1.1.length 5 (x1.1.length * 5))), (8, (B x1.2))], [(256, [(I a0.f0), (.sl true a0.f1.length 4 (a0.f1.flatMap e95))]), (1000514, (x1.1.flatMap e22))], [2 = 2 ∧ 0 + 2 ≤ 2, COK (hget [(256, [(I a0.f0), (.sl true a0.f1.length 4 (a0.f1.flatMap e95))])]) [(.ag [(I a0.f0), (.sl true a0.f1.length 4 (a0.f1.flatMap e95))]), (.sl true a1.length 2 (a1.flatMap (e66 true)))] ⟨66, [(.ag [(I a0.f0), (.sl true a0.f1.length 4 (a0.f1.flatMap e95))]), (.sl true a1.length 2 (a1.flatMap (e66 true)))], [], (.tp [(.rf 1024 0 x1.1.length 5 (x1.1.length * 5)), (B x1.2)]), [(1024, (x1.1.flatMap e22))], [], [], [(1000514, 1024)], (.tp [(.rf 1000514 0 x1.1.length 5 (x1.1.length * 5)), (B x1.2)]), [(1000514, (x1.1.flatMap e22))]⟩], [⟨66, [(.ag [(I a0.f0), (.sl true a0.f1.length 4 (a0.f1.flatMap e95))]), (.sl true a1.length 2 (a1.flatMap (e66 true)))], [], (.tp [(.rf 1024 0 x1.1.length 5 (x1.1.length * 5)), (B x1.2)]), [(1024, (x1.1.flatMap e22))], [], [], [(1000514, 1024)], (.tp [(.rf 1000514 0 x1.1.length 5 (x1.1.length * 5)), (B x1.2)]), [(1000514, (x1.1.flatMap e22))]⟩]⟩ [c_ 28, c_ 29, c_ 15] (alc ⟨rfl, by decide⟩ (alc (cokW false (a2c (.z (frz_ag (a2c .s (a2c (frz_sl e95_ok (fun h => h)) a2n)))) (a2c (.z (frz_sl (e66_ok true) (fun h => h))) a2n)) akn (akc (.inr rfl) akn) (bck_tp (a2c (.rf (memP_mem (p := (1000514, 1024)) rfl)) (a2c (.z .s) a2n))) (akc ⟨_, _, rfl, rfl, rowB e22_c _⟩ akn) (fun h => absurd h (by decide))) aln)) (acal (impl_usesOfAll.J k a0 a1 _ hx1) nocal) ?_
  by_cases c1 : x1.2 = true
  · rw [if_pos c1] at h
    obtain ⟨x2, hx2, h⟩ := Option.bind_eq_some_iff.mp h
    refine .reg' [2, 7, 23] [.no, .no, .v (B false), .no, .c ⟨58, [(I a2), (I 0), (I 60)], [], (B x2), [], [], [], [], (B x2), []⟩] ⟨[(2, (I a2)), (7, (.rf 1000514 0 x1.1.length 5 (x1.1.length * 5))), (23, (B (!x2)))], [(256, [(I a0.f0), (.sl true a0.f1.length 4 (a0.f1.flatMap e95))]), (1000514, (x1.1.flatMap e22))], [(B (!x1.2) : V) = B false, COK (hget [(256, [(I a0.f0), (.sl true a0.f1.length 4 (a0.f1.flatMap e95))]), (1000514, (x1.1.flatMap e22))]) [(I a2), (I 0), (I 60)] ⟨58, [(I a2), (I 0), (I 60)], [], (B x2), [], [], [], [], (B x2), []⟩], [⟨58, [(I a2), (I 0), (I 60)], [], (B x2), [], [], [], [], (B x2), []⟩]⟩ [c_ 29, c_ 15] (alc (bF (nF c1)) (alc (cok0 false (a2c (.z .s) (a2c (.z .s) (a2c (.z .s) a2n))) (.z .s) (fun h => absurd h (by decide))) aln)) (acal (impl_between.J a2 0 60 _ hx2) nocal) ?_
    by_cases c2 : x2 = true
    · rw [if_pos c2] at h
      refine .cond' (.tmp 23) false [c_ 30, c_ 31] (bF (nF c2)) ?_
      obtain ⟨x3, hx3, h⟩ := Option.bind_eq_some_iff.mp h
      refine .reg' [9] [.no, .no, .c ⟨21, [(.sl true x1.1.length 5 (x1.1.flatMap e22)), (I a2)], [], (.tp [(I x3.1), (I x3.2)]), [], [1000514], [], [], (.tp [(I x3.1), (I x3.2)]), []⟩] ⟨[(9, (I x3.1))], [(256, [(I a0.f0), (.sl true a0.f1.length 4 (a0.f1.flatMap e95))]), (1000514, (x1.1.flatMap e22))], [COK (hget [(256, [(I a0.f0), (.sl true a0.f1.length 4 (a0.f1.flatMap e95))]), (1000514, (x1.1.flatMap e22))]) [(.rf 1000514 0 x1.1.length 5 (x1.1.length * 5)), (I a2)] ⟨21, [(.sl true x1.1.length 5 (x1.1.flatMap e22)), (I a2)], [], (.tp [(I x3.1), (I x3.2)]), [], [1000514], [], [], (.tp [(I x3.1), (I x3.2)]), []⟩], [⟨21, [(.sl true x1.1.length 5 (x1.1.flatMap e22)), (I a2)], [], (.tp [(I x3.1), (I x3.2)]), [], [1000514], [], [], (.tp [(I x3.1), (I x3.2)]), []⟩]⟩ [c_ 62, c_ 63] (alc (cok0 false (a2c (.z (frz_rf (k := 1000514) e22_ok (by simp) rfl rfl (row_len e22_ok _).symm)) (a2c (.z .s) a2n)) (bck_tp (a2c (.z .s) (a2c (.z .s) a2n))) (fun h => absurd h (by decide))) aln) (acal (impl_FirstClash.J k x1.1 a2 _ hx3) nocal) ?_
      refine .reg' [6] [] ⟨[(6, (B (decide (x3.1 < 0))))], [(256, [(I a0.f0), (.sl true a0.f1.length 4 (a0.f1.flatMap e95))]), (1000514, (x1.1.flatMap e22))], [], []⟩ [c_ 63] aln nocal ?_
      have h := Option.some.inj h
      subst h
      exact .fin0 [] (B (decide (x3.1 < 0))) [] aln (.z .s)
    · rw [if_neg c2] at h
      refine .cond' (.tmp 23) true [c_ 116, c_ 117, c_ 15] (bT (nT (vF c2))) ?_
      refine .reg' [6] [] ⟨[(6, (B false))], [(256, [(I a0.f0), (.sl true a0.f1.length 4 (a0.f1.flatMap e95))]), (1000514, (x1.1.flatMap e22))], [], []⟩ [c_ 117, c_ 15] aln nocal ?_
      have h := Option.some.inj h
      subst h
      exact .fin0 [] (B false) [] aln (.z .s)
  · rw [if_neg c1] at h
    refine .reg' [2, 7, 23] [.no, .no, .v (B true)] ⟨[(2, (I a2)), (7, (.rf 1000514 0 x1.1.length 5 (x1.1.length * 5))), (23, (B true))], [(256, [(I a0.f0), (.sl true a0.f1.length 4 (a0.f1.flatMap e95))]), (1000514, (x1.1.flatMap e22))], [(B (!x1.2) : V) = B true], []⟩ [c_ 29, c_ 15] (alc (bT (nT (vF c1))) aln) nocal ?_
    refine .cond' (.tmp 23) true [c_ 116, c_ 117, c_ 15] (rfl) ?_
    refine .reg' [6] [] ⟨[(6, (B false))], [(256, [(I a0.f0), (.sl true a0.f1.length 4 (a0.f1.flatMap e95))]), (1000514, (x1.1.flatMap e22))], [], []⟩ [c_ 117, c_ 15] aln nocal ?_
    have h := Option.some.inj h
    subst h
    exact .fin0 [] (B false) [] aln (.z .s)
/-! impl_Uses: function 32 -/
def impl_Uses.f (k : Nat) (a0 : S46) (a1 : (List S66)) : Option (List S22) := ((impl_usesOfAll.f k a0 a1).bind fun x1 => (some x1.1))
theorem impl_Uses.J (k : Nat) (a0 : S46) (a1 : (List S66)) (r : (List S22)) (h : impl_Uses.f k a0 a1 = some r) : J prog (.call 32 [(.ag [(I a0.f0), (.sl true a0.f1.length 4 (a0.f1.flatMap e95))]), (.sl true a1.length 2 (a1.flatMap (e66 true)))] [] (.rf 1000514 0 r.length 5 (r.length * 5)) [(1000514, (r.flatMap e22))]) := by
  unfold impl_Uses.f at h
  refine .call' [c_ 2, c_ 3] ?_
  refine .reg' [1, 2] [] ⟨[(1, (.sl true a1.length 2 (a1.flatMap (e66 true)))), (2, (.pt 256 0 2))], [(256, [(I a0.f0), (.sl true a0.f1.length 4 (a0.f1.flatMap e95))])], [], []⟩ [c_ 6, c_ 7] aln nocal ?_
  obtain ⟨x1, hx1, h⟩ := Option.bind_eq_some_iff.mp h
  refine .reg' [5] [.no, .no, .c ⟨66, [(.ag [(I a0.f0), (.sl true a0.f1.length 4 (a0.f1.flatMap e95))]), (.sl true a1.length 2 (a1.flatMap (e66 true)))], [], (.tp [(.rf 1024 0 x1.1.length 5 (x1.1.length * 5)), (B x1.2)]), [(1024, (x1.1.flatMap e22))], [], [], [(1000514, 1024)], (.tp [(.rf 1000514 0 x1.1.length 5 (x1.1.length * 5)), (B x1.2)]), [(1000514, (x1.1.flatMap e22))]⟩] ⟨[(5, (.rf 1000514 0 x1.1.length 5 (x1.1.length * 5)))], [(256, [(I a0.f0), (.sl true a0.f1.length 4 (a0.f1.flatMap e95))]), (1000514, (x1.1.flatMap e22))], [2 = 2 ∧ 0 + 2 ≤ 2, COK (hget [(256, [(I a0.f0), (.sl true a0.f1.length 4 (a0.f1.flatMap e95))])]) [(.ag [(I a0.f0), (.sl true a0.f1.length 4 (a0.f1.flatMap e95))]), (.sl true a1.length 2 (a1.flatMap (e66 true)))] ⟨66, [(.ag [(I a0.f0), (.sl true a0.f1.length 4 (a0.f1.flatMap e95))]), (.sl true a1.length 2 (a1.flatMap (e66 true)))], [], (.tp [(.rf 1024 0 x1.1.length 5 (x1.1.length * 5)), (B x1.2)]), [(1024, (x1.1.flatMap e22))], [], [], [(1000514, 1024)], (.tp [(.rf 1000514 0 x1.1.length 5 (x1.1.length * 5)), (B x1.2)]), [(1000514, (x1.1.flatMap e22))]⟩], [⟨66, [(.ag [(I a0.f0), (.sl true a0.f1.length 4 (a0.f1.flatMap e95))]), (.sl true a1.length 2 (a1.flatMap (e66 true)))], [], (.tp [(.rf 1024 0 x1.1.length 5 (x1.1.length * 5)), (B x1.2)]), [(1024, (x1.1.flatMap e22))], [], [], [(1000514, 1024)], (.tp [(.rf 1000514 0 x1.1.length 5 (x1.1.length * 5)), (B x1.2)]), [(1000514, (x1.1.flatMap e22))]⟩]⟩ [c_ 14, c_ 15] (alc ⟨rfl, by decide⟩ (alc (cokW false (a2c (.z (frz_ag (a2c .s (a2c (frz_sl e95_ok (fun h => h)) a2n)))) (a2c (.z (frz_sl (e66_ok true) (fun h => h))) a2n)) akn (akc (.inr rfl) akn) (bck_tp (a2c (.rf (memP_mem (p := (1000514, 1024)) rfl)) (a2c (.z .s) a2n))) (akc ⟨_, _, rfl, rfl, rowB e22_c _⟩ akn) (fun h => absurd h (by decide))) aln)) (acal (impl_usesOfAll.J k a0 a1 _ hx1) nocal) ?_
  refine .reg' [4] [] ⟨[(4, (.rf 1000514 0 x1.1.length 5 (x1.1.length * 5)))], [(256, [(I a0.f0), (.sl true a0.f1.length 4 (a0.f1.flatMap e95))]), (1000514, (x1.1.flatMap e22))], [], []⟩ [c_ 15] aln nocal ?_
  have h := Option.some.inj h
  subst h
  exact .fin' [] [(1000514, 1000514)] (.rf 1000514 0 x1.1.length 5 (x1.1.length * 5)) [] aln (shc 1000514 (rowF e22_ok _) shn) (.rf (memP_mem (p := (1000514, 1000514)) rfl))
/-! impl_meetAny: function 79 -/
mutual
def impl_meetAny.l0 : Nat → (List S22) → (List S22) → Int → Int → Int → Option Bool
 | 0, _, _, _, _, _ => none
 | k + 1, a0, a1, a2, a3, x1 => (if x1 < (a0.length : Int) then (if 0 ≤ x1 then (impl_meetAny.l1 k a0 a1 a2 a3 x1 0) else none) else (some false))
def impl_meetAny.l1 : Nat → (List S22) → (List S22) → Int → Int → Int → Int → Option Bool
 | 0, _, _, _, _, _, _ => none
 | k + 1, a0, a1, a2, a3, x1, x2 => (if x2 < (a1.length : Int) then (if 0 ≤ x2 then ((impl_meet.f (⟨(at_ a0 x1).f0, (at_ a0 x1).f1, (wrap64 ((at_ a0 x1).f2 + a2)), (wrap64 ((at_ a0 x1).f3 + a2)), (at_ a0 x1).f4⟩ : S22) (at_ a1 x2) a3).bind fun x3 => (if x3 = true then (some true) else (impl_meetAny.l1 k a0 a1 a2 a3 x1 (wrap64 (x2 + 1))))) else none) else (impl_meetAny.l0 k a0 a1 a2 a3 (wrap64 (x1 + 1))))
end
def impl_meetAny.f (k : Nat) (a0 : (List S22)) (a1 : (List S22)) (a2 : Int) (a3 : Int) : Option Bool := (impl_meetAny.l0 k a0 a1 a2 a3 0)
theorem impl_meetAny.lab : ∀ k, (∀ (a0 : (List S22)) (a1 : (List S22)) (a2 : Int) (a3 : Int) (x1 : Int) (r : Bool), impl_meetAny.l0 k a0 a1 a2 a3 x1 = some r → J prog (.run 79 [] [l_ 26, b_ 0, c_ 7] [(1, (.sl true a1.length 5 (a1.flatMap e22))), (2, (I a2)), (3, (I a3)), (13, (.sl true a0.length 5 (a0.flatMap e22))), (14, (I (a0.length : Int))), (15, (I x1))] [] (B r) [])) ∧ (∀ (a0 : (List S22)) (a1 : (List S22)) (a2 : Int) (a3 : Int) (x1 : Int) (x2 : Int) (r : Bool), impl_meetAny.l1 k a0 a1 a2 a3 x1 x2 = some r → J prog (.run 79 [] [l_ 13518, b_ 2, b_ 1, c_ 423, l_ 26, b_ 0, c_ 7] [(1, (.sl true a1.length 5 (a1.flatMap e22))), (2, (I a2)), (3, (I a3)), (10, (.pt 1026 0 5)), (13, (.sl true a0.length 5 (a0.flatMap e22))), (14, (I (a0.length : Int))), (15, (I x1)), (29, (.sl true a1.length 5 (a1.flatMap e22))), (30, (I (a1.length : Int))), (31, (I x2))] [(1026, [(I (at_ a0 x1).f0), (I (at_ a0 x1).f1), (I (wrap64 ((at_ a0 x1).f2 + a2))), (I (wrap64 ((at_ a0 x1).f3 + a2))), (I (at_ a0 x1).f4)])] (B r) []))
 | 0 => ⟨(by intro a0 a1 a2 a3 x1 r h; unfold impl_meetAny.l0 at h; cases h), (by intro a0 a1 a2 a3 x1 x2 r h; unfold impl_meetAny.l1 at h; cases h)⟩
 | k + 1 => by
  obtain ⟨ih0, ih1⟩ := impl_meetAny.lab k
  refine ⟨?_, ?_⟩
  · intro a0 a1 a2 a3 x1 r h
    unfold impl_meetAny.l0 at h
    refine .loop' [c_ 104, c_ 105, l_ 26, b_ 0, c_ 7] ?_
    refine .reg' [1, 2, 3, 13, 14, 15, 16] [] ⟨[(1, (.sl true a1.length 5 (a1.flatMap e22))), (2, (I a2)), (3, (I a3)), (13, (.sl true a0.length 5 (a0.flatMap e22))), (14, (I (a0.length : Int))), (15, (I x1)), (16, (B (decide (x1 < (a0.length : Int)))))], [], [], []⟩ [c_ 210, c_ 211, l_ 26, b_ 0, c_ 7] aln nocal ?_
    by_cases c1 : x1 < (a0.length : Int)
    · rw [if_pos c1] at h
      refine .cond' (.tmp 16) true [c_ 1688, c_ 1689, b_ 1, c_ 423, l_ 26, b_ 0, c_ 7] (bT (dT c1)) ?_
      by_cases c2 : 0 ≤ x1
      · rw [if_pos c2] at h
        refine .reg' [1, 2, 3, 10, 13, 14, 15] [.no, .v (.ag [(I (at_ a0 x1).f0), (I (at_ a0 x1).f1), (I (at_ a0 x1).f2), (I (at_ a0 x1).f3), (I (at_ a0 x1).f4)])] ⟨[(1, (.sl true a1.length 5 (a1.flatMap e22))), (2, (I a2)), (3, (I a3)), (10, (.pt 1026 0 5)), (13, (.sl true a0.length 5 (a0.flatMap e22))), (14, (I (a0.length : Int))), (15, (I x1))], [(1026, [(I (at_ a0 x1).f0), (I (at_ a0 x1).f1), (I (at_ a0 x1).f2), (I (at_ a0 x1).f3), (I (at_ a0 x1).f4)])], [(0 : Int) ≤ x1 ∧ x1 < (a0.length : Int), rdC prog 25 ((a0.flatMap e22).drop (x1.toNat * 5)) = (.ag [(I (at_ a0 x1).f0), (I (at_ a0 x1).f1), (I (at_ a0 x1).f2), (I (at_ a0 x1).f3), (I (at_ a0 x1).f4)]), 5 ≤ ((a0.flatMap e22).drop (x1.toNat * 5)).length, 5 = 5 ∧ 0 + 5 ≤ 5], []⟩ [c_ 3378, c_ 3379, b_ 1, c_ 423, l_ 26, b_ 0, c_ 7] (alc ⟨c2, c1⟩ (alc (ldA e22_ok rfl rfl c2 c1) (alc (okI e22_ok c2 c1 (by decide)) (alc ⟨rfl, by decide⟩ aln)))) nocal ?_
        refine .reg' [1, 2, 3, 10, 13, 14, 15] [] ⟨[(1, (.sl true a1.length 5 (a1.flatMap e22))), (2, (I a2)), (3, (I a3)), (10, (.pt 1026 0 5)), (13, (.sl true a0.length 5 (a0.flatMap e22))), (14, (I (a0.length : Int))), (15, (I x1))], [(1026, [(I (at_ a0 x1).f0), (I (at_ a0 x1).f1), (I (wrap64 ((at_ a0 x1).f2 + a2))), (I (wrap64 ((at_ a0 x1).f3 + a2))), (I (at_ a0 x1).f4)])], [5 = 5 ∧ 2 + 1 ≤ 5, 5 = 5 ∧ 3 + 1 ≤ 5, 5 = 5 ∧ 2 + 1 ≤ 5, 5 = 5 ∧ 3 + 1 ≤ 5], []⟩ [c_ 6758, c_ 6759, b_ 1, c_ 423, l_ 26, b_ 0, c_ 7] (alc ⟨rfl, by decide⟩ (alc ⟨rfl, by decide⟩ (alc ⟨rfl, by decide⟩ (alc ⟨rfl, by decide⟩ aln)))) nocal ?_
        refine .reg' [1, 2, 3, 10, 13, 14, 15, 29, 30, 31] [] ⟨[(1, (.sl true a1.length 5 (a1.flatMap e22))), (2, (I a2)), (3, (I a3)), (10, (.pt 1026 0 5)), (13, (.sl true a0.length 5 (a0.flatMap e22))), (14, (I (a0.length : Int))), (15, (I x1)), (29, (.sl true a1.length 5 (a1.flatMap e22))), (30, (I (a1.length : Int))), (31, (I 0))], [(1026, [(I (at_ a0 x1).f0), (I (at_ a0 x1).f1), (I (wrap64 ((at_ a0 x1).f2 + a2))), (I (wrap64 ((at_ a0 x1).f3 + a2))), (I (at_ a0 x1).f4)])], [], []⟩ [l_ 13518, b_ 2, b_ 1, c_ 423, l_ 26, b_ 0, c_ 7] aln nocal ?_
        exact ih1 a0 a1 a2 a3 x1 0 _ h
      · rw [if_neg c2] at h
        cases h
    · rw [if_neg c1] at h
      refine .cond' (.tmp 16) false [c_ 14, c_ 15] (bF (dF c1)) ?_
      refine .reg' [8] [] ⟨[(8, (B false))], [], [], []⟩ [c_ 15] aln nocal ?_
      have h := Option.some.inj h
      subst h
      exact .fin0 [] (B false) [] aln (.z .s)
  · intro a0 a1 a2 a3 x1 x2 r h
    unfold impl_meetAny.l1 at h
    refine .loop' [c_ 54072, c_ 54073, l_ 13518, b_ 2, b_ 1, c_ 423, l_ 26, b_ 0, c_ 7] ?_
    refine .reg' [1, 2, 3, 10, 13, 14, 15, 29, 30, 31, 32] [] ⟨[(1, (.sl true a1.length 5 (a1.flatMap e22))), (2, (I a2)), (3, (I a3)), (10, (.pt 1026 0 5)), (13, (.sl true a0.length 5 (a0.flatMap e22))), (14, (I (a0.length : Int))), (15, (I x1)), (29, (.sl true a1.length 5 (a1.flatMap e22))), (30, (I (a1.length : Int))), (31, (I x2)), (32, (B (decide (x2 < (a1.length : Int)))))], [(1026, [(I (at_ a0 x1).f0), (I (at_ a0 x1).f1), (I (wrap64 ((at_ a0 x1).f2 + a2))), (I (wrap64 ((at_ a0 x1).f3 + a2))), (I (at_ a0 x1).f4)])], [], []⟩ [c_ 108146, c_ 108147, l_ 13518, b_ 2, b_ 1, c_ 423, l_ 26, b_ 0, c_ 7] aln nocal ?_
    by_cases c3 : x2 < (a1.length : Int)
    · rw [if_pos c3] at h
      refine .cond' (.tmp 32) true [c_ 865176, c_ 865177, b_ 3, c_ 216295, l_ 13518, b_ 2, b_ 1, c_ 423, l_ 26, b_ 0, c_ 7] (bT (dT c3)) ?_
      by_cases c4 : 0 ≤ x2
      · rw [if_pos c4] at h
        refine .reg' [1, 2, 3, 10, 12, 13, 14, 15, 29, 30, 31] [.no, .v (.ag [(I (at_ a1 x2).f0), (I (at_ a1 x2).f1), (I (at_ a1 x2).f2), (I (at_ a1 x2).f3), (I (at_ a1 x2).f4)])] ⟨[(1, (.sl true a1.length 5 (a1.flatMap e22))), (2, (I a2)), (3, (I a3)), (10, (.pt 1026 0 5)), (12, (.pt 2050 0 5)), (13, (.sl true a0.length 5 (a0.flatMap e22))), (14, (I (a0.length : Int))), (15, (I x1)), (29, (.sl true a1.length 5 (a1.flatMap e22))), (30, (I (a1.length : Int))), (31, (I x2))], [(1026, [(I (at_ a0 x1).f0), (I (at_ a0 x1).f1), (I (wrap64 ((at_ a0 x1).f2 + a2))), (I (wrap64 ((at_ a0 x1).f3 + a2))), (I (at_ a0 x1).f4)]), (2050, [(I (at_ a1 x2).f0), (I (at_ a1 x2).f1), (I (at_ a1 x2).f2), (I (at_ a1 x2).f3), (I (at_ a1 x2).f4)])], [(0 : Int) ≤ x2 ∧ x2 < (a1.length : Int), rdC prog 25 ((a1.flatMap e22).drop (x2.toNat * 5)) = (.ag [(I (at_ a1 x2).f0), (I (at_ a1 x2).f1), (I (at_ a1 x2).f2), (I (at_ a1 x2).f3), (I (at_ a1 x2).f4)]), 5 ≤ ((a1.flatMap e22).drop (x2.toNat * 5)).length, 5 = 5 ∧ 0 + 5 ≤ 5], []⟩ [c_ 1730354, c_ 1730355, b_ 3, c_ 216295, l_ 13518, b_ 2, b_ 1, c_ 423, l_ 26, b_ 0, c_ 7] (alc ⟨c4, c3⟩ (alc (ldA e22_ok rfl rfl c4 c3) (alc (okI e22_ok c4 c3 (by decide)) (alc ⟨rfl, by decide⟩ aln)))) nocal ?_
        obtain ⟨x3, hx3, h⟩ := Option.bind_eq_some_iff.mp h
        refine .reg' [1, 2, 3, 10, 13, 14, 15, 29, 30, 31, 38] [.no, .no, .no, .c ⟨59, [(.ag [(I (at_ a0 x1).f0), (I (at_ a0 x1).f1), (I (wrap64 ((at_ a0 x1).f2 + a2))), (I (wrap64 ((at_ a0 x1).f3 + a2))), (I (at_ a0 x1).f4)]), (.ag [(I (at_ a1 x2).f0), (I (at_ a1 x2).f1), (I (at_ a1 x2).f2), (I (at_ a1 x2).f3), (I (at_ a1 x2).f4)]), (I a3)], [], (B x3), [], [], [], [], (B x3), []⟩] ⟨[(1, (.sl true a1.length 5 (a1.flatMap e22))), (2, (I a2)), (3, (I a3)), (10, (.pt 1026 0 5)), (13, (.sl true a0.length 5 (a0.flatMap e22))), (14, (I (a0.length : Int))), (15, (I x1)), (29, (.sl true a1.length 5 (a1.flatMap e22))), (30, (I (a1.length : Int))), (31, (I x2)), (38, (B x3))], [(1026, [(I (at_ a0 x1).f0), (I (at_ a0 x1).f1), (I (wrap64 ((at_ a0 x1).f2 + a2))), (I (wrap64 ((at_ a0 x1).f3 + a2))), (I (at_ a0 x1).f4)]), (2050, [(I (at_ a1 x2).f0), (I (at_ a1 x2).f1), (I (at_ a1 x2).f2), (I (at_ a1 x2).f3), (I (at_ a1 x2).f4)])], [5 = 5 ∧ 0 + 5 ≤ 5, 5 = 5 ∧ 0 + 5 ≤ 5, COK (hget [(1026, [(I (at_ a0 x1).f0), (I (at_ a0 x1).f1), (I (wrap64 ((at_ a0 x1).f2 + a2))), (I (wrap64 ((at_ a0 x1).f3 + a2))), (I (at_ a0 x1).f4)]), (2050, [(I (at_ a1 x2).f0), (I (at_ a1 x2).f1), (I (at_ a1 x2).f2), (I (at_ a1 x2).f3), (I (at_ a1 x2).f4)])]) [(.ag [(I (at_ a0 x1).f0), (I (at_ a0 x1).f1), (I (wrap64 ((at_ a0 x1).f2 + a2))), (I (wrap64 ((at_ a0 x1).f3 + a2))), (I (at_ a0 x1).f4)]), (.ag [(I (at_ a1 x2).f0), (I (at_ a1 x2).f1), (I (at_ a1 x2).f2), (I (at_ a1 x2).f3), (I (at_ a1 x2).f4)]), (I a3)] ⟨59, [(.ag [(I (at_ a0 x1).f0), (I (at_ a0 x1).f1), (I (wrap64 ((at_ a0 x1).f2 + a2))), (I (wrap64 ((at_ a0 x1).f3 + a2))), (I (at_ a0 x1).f4)]), (.ag [(I (at_ a1 x2).f0), (I (at_ a1 x2).f1), (I (at_ a1 x2).f2), (I (at_ a1 x2).f3), (I (at_ a1 x2).f4)]), (I a3)], [], (B x3), [], [], [], [], (B x3), []⟩], [⟨59, [(.ag [(I (at_ a0 x1).f0), (I (at_ a0 x1).f1), (I (wrap64 ((at_ a0 x1).f2 + a2))), (I (wrap64 ((at_ a0 x1).f3 + a2))), (I (at_ a0 x1).f4)]), (.ag [(I (at_ a1 x2).f0), (I (at_ a1 x2).f1), (I (at_ a1 x2).f2), (I (at_ a1 x2).f3), (I (at_ a1 x2).f4)]), (I a3)], [], (B x3), [], [], [], [], (B x3), []⟩]⟩ [c_ 1730355, b_ 3, c_ 216295, l_ 13518, b_ 2, b_ 1, c_ 423, l_ 26, b_ 0, c_ 7] (alc ⟨rfl, by decide⟩ (alc ⟨rfl, by decide⟩ (alc (cok0 false (a2c (.z (frz_ag (a2c .s (a2c .s (a2c .s (a2c .s (a2c .s a2n))))))) (a2c (.z (frz_ag (a2c .s (a2c .s (a2c .s (a2c .s (a2c .s a2n))))))) (a2c (.z .s) a2n))) (.z .s) (fun h => absurd h (by decide))) aln))) (acal (impl_meet.J (⟨(at_ a0 x1).f0, (at_ a0 x1).f1, (wrap64 ((at_ a0 x1).f2 + a2)), (wrap64 ((at_ a0 x1).f3 + a2)), (at_ a0 x1).f4⟩ : S22) (at_ a1 x2) a3 _ hx3) nocal) ?_
        by_cases c5 : x3 = true
        · rw [if_pos c5] at h
          refine .cond' (.tmp 38) true [c_ 6921420, c_ 6921421, b_ 3, c_ 216295, l_ 13518, b_ 2, b_ 1, c_ 423, l_ 26, b_ 0, c_ 7] (bT c5) ?_
          refine .reg' [8] [] ⟨[(8, (B true))], [(1026, [(I (at_ a0 x1).f0), (I (at_ a0 x1).f1), (I (wrap64 ((at_ a0 x1).f2 + a2))), (I (wrap64 ((at_ a0 x1).f3 + a2))), (I (at_ a0 x1).f4)]), (2050, [(I (at_ a1 x2).f0), (I (at_ a1 x2).f1), (I (at_ a1 x2).f2), (I (at_ a1 x2).f3), (I (at_ a1 x2).f4)])], [], []⟩ [c_ 6921421, b_ 3, c_ 216295, l_ 13518, b_ 2, b_ 1, c_ 423, l_ 26, b_ 0, c_ 7] aln nocal ?_
          have h := Option.some.inj h
          subst h
          exact .fin0 [] (B true) [] aln (.z .s)
        · rw [if_neg c5] at h
          refine .cond' (.tmp 38) false [c_ 216295, l_ 13518, b_ 2, b_ 1, c_ 423, l_ 26, b_ 0, c_ 7] (bF (vF c5)) ?_
          refine .reg' [1, 2, 3, 10, 13, 14, 15, 29, 30, 31] [] ⟨[(1, (.sl true a1.length 5 (a1.flatMap e22))), (2, (I a2)), (3, (I a3)), (10, (.pt 1026 0 5)), (13, (.sl true a0.length 5 (a0.flatMap e22))), (14, (I (a0.length : Int))), (15, (I x1)), (29, (.sl true a1.length 5 (a1.flatMap e22))), (30, (I (a1.length : Int))), (31, (I (wrap64 (x2 + 1))))], [(1026, [(I (at_ a0 x1).f0), (I (at_ a0 x1).f1), (I (wrap64 ((at_ a0 x1).f2 + a2))), (I (wrap64 ((at_ a0 x1).f3 + a2))), (I (at_ a0 x1).f4)]), (2050, [(I (at_ a1 x2).f0), (I (at_ a1 x2).f1), (I (at_ a1 x2).f2), (I (at_ a1 x2).f3), (I (at_ a1 x2).f4)])], [], []⟩ [l_ 13518, b_ 2, b_ 1, c_ 423, l_ 26, b_ 0, c_ 7] aln nocal ?_
          refine .wk' [] [(1026, 1026)] [(1, (.sl true a1.length 5 (a1.flatMap e22))), (2, (I a2)), (3, (I a3)), (10, (.pt 1026 0 5)), (13, (.sl true a0.length 5 (a0.flatMap e22))), (14, (I (a0.length : Int))), (15, (I x1)), (29, (.sl true a1.length 5 (a1.flatMap e22))), (30, (I (a1.length : Int))), (31, (I (wrap64 (x2 + 1))))] [(1026, [(I (at_ a0 x1).f0), (I (at_ a0 x1).f1), (I (wrap64 ((at_ a0 x1).f2 + a2))), (I (wrap64 ((at_ a0 x1).f3 + a2))), (I (at_ a0 x1).f4)])] (shc 1026 (a2c (.z .s) (a2c (.z .s) (a2c (.z .s) (a2c (.z .s) (a2c (.z .s) a2n))))) shn) (enc_ (.z (frz_sl e22_ok (fun h => h))) (enc_ (.z .s) (enc_ (.z .s) (enc_ (.pt (memP_mem (p := (1026, 1026)) rfl)) (enc_ (.z (frz_sl e22_ok (fun h => h))) (enc_ (.z .s) (enc_ (.z .s) (enc_ (.z (frz_sl e22_ok (fun h => h))) (enc_ (.z .s) (enc_ (.z .s) enn)))))))))) ?_
          exact ih1 a0 a1 a2 a3 x1 (wrap64 (x2 + 1)) _ h
      · rw [if_neg c4] at h
        cases h
    · rw [if_neg c3] at h
      refine .cond' (.tmp 32) false [c_ 423, l_ 26, b_ 0, c_ 7] (bF (dF c3)) ?_
      refine .reg' [1, 2, 3, 13, 14, 15] [] ⟨[(1, (.sl true a1.length 5 (a1.flatMap e22))), (2, (I a2)), (3, (I a3)), (13, (.sl true a0.length 5 (a0.flatMap e22))), (14, (I (a0.length : Int))), (15, (I (wrap64 (x1 + 1))))], [(1026, [(I (at_ a0 x1).f0), (I (at_ a0 x1).f1), (I (wrap64 ((at_ a0 x1).f2 + a2))), (I (wrap64 ((at_ a0 x1).f3 + a2))), (I (at_ a0 x1).f4)])], [], []⟩ [l_ 26, b_ 0, c_ 7] aln nocal ?_
      refine .wk' [] [] [(1, (.sl true a1.length 5 (a1.flatMap e22))), (2, (I a2)), (3, (I a3)), (13, (.sl true a0.length 5 (a0.flatMap e22))), (14, (I (a0.length : Int))), (15, (I (wrap64 (x1 + 1))))] [] shn (enc_ (.z (frz_sl e22_ok (fun h => h))) (enc_ (.z .s) (enc_ (.z .s) (enc_ (.z (frz_sl e22_ok (fun h => h))) (enc_ (.z .s) (enc_ (.z .s) enn)))))) ?_
      exact ih0 a0 a1 a2 a3 (wrap64 (x1 + 1)) _ h
theorem impl_meetAny.J (k : Nat) (a0 : (List S22)) (a1 : (List S22)) (a2 : Int) (a3 : Int) (r : Bool) (h : impl_meetAny.f k a0 a1 a2 a3 = some r) : J prog (.call 79 [(.sl true a0.length 5 (a0.flatMap e22)), (.sl true a1.length 5 (a1.flatMap e22)), (I a2), (I a3)] [] (B r) []) := by
  unfold impl_meetAny.f at h
  obtain ⟨ih0, ih1⟩ := impl_meetAny.lab k
  refine .call' [c_ 2, c_ 3] ?_
  refine .reg' [0, 1, 2, 3] [] ⟨[(0, (.sl true a0.length 5 (a0.flatMap e22))), (1, (.sl true a1.length 5 (a1.flatMap e22))), (2, (I a2)), (3, (I a3))], [], [], []⟩ [c_ 12, c_ 13, c_ 7] aln nocal ?_
  refine .reg' [1, 2, 3, 13, 14, 15] [] ⟨[(1, (.sl true a1.length 5 (a1.flatMap e22))), (2, (I a2)), (3, (I a3)), (13, (.sl true a0.length 5 (a0.flatMap e22))), (14, (I (a0.length : Int))), (15, (I 0))], [], [], []⟩ [l_ 26, b_ 0, c_ 7] aln nocal ?_
  exact ih0 a0 a1 a2 a3 0 _ h
/-! impl_PushOf: function 42 -/
def impl_PushOf.l0 : Nat → S66 → Int → (List S22) → ((List S22) × Bool) → Int → Option Int
 | 0, _, _, _, _, _ => none
 | k + 1, a2, a3, x4, x5, x6 => (if x6 ≤ 120 then (if (wrap64 ((at_ a2.f1 (wrap64 ((a2.f1.length : Int) - 1))).f2 + x6)) ≤ 100000 then ((impl_meetAny.f k x5.1 x4 x6 a3).bind fun x7 => (if x7 = true then (impl_PushOf.l0 k a2 a3 x4 x5 (wrap64 (x6 + 1))) else (some x6))) else (some (-1))) else (some (-1)))
def impl_PushOf.f (k : Nat) (a0 : S46) (a1 : (List S66)) (a2 : S66) (a3 : Int) : Option Int := ((impl_Clean.f k a0 a1 a3).bind fun x1 => (if x1 = true then ((impl_TripOk.f k a2).bind fun x2 => (if x2 = true then (if (a1.length : Int) ≥ 24 then (some (-1)) else ((impl_tripNamed.f k a1 a2.f0).bind fun x3 => (if x3 ≥ 0 then (some (-1)) else ((impl_Uses.f k a0 a1).bind fun x4 => ((impl_Net_usesOf.f k a0 a2 (a1.length : Int)).bind fun x5 => (if x5.2 = true then (if 0 ≤ (wrap64 ((a2.f1.length : Int) - 1)) then (if (wrap64 ((a2.f1.length : Int) - 1)) < (a2.f1.length : Int) then (impl_PushOf.l0 k a2 a3 x4 x5 0) else none) else none) else (some (-1)))))))) else (some (-1)))) else (some (-1))))
theorem impl_PushOf.lab : ∀ k, (∀ (a2 : S66) (a3 : Int) (x4 : (List S22)) (x5 : ((List S22) × Bool)) (x6 : Int) (r : Int), impl_PushOf.l0 k a2 a3 x4 x5 x6 = some r → J prog (.run 42 [] [l_ 1018, b_ 0, c_ 255] [(3, (I a3)), (9, (.rf 1001026 0 x4.length 5 (x4.length * 5))), (10, (.rf 1001284 0 x5.1.length 5 (x5.1.length * 5))), (12, (I (at_ a2.f1 (wrap64 ((a2.f1.length : Int) - 1))).f2)), (13, (I x6))] [(1001026, (x4.flatMap e22)), (1001284, (x5.1.flatMap e22))] (I r) []))
 | 0 => (by intro a2 a3 x4 x5 x6 r h; unfold impl_PushOf.l0 at h; cases h)
 | k + 1 => by
  have ih0 := impl_PushOf.lab k
  · intro a2 a3 x4 x5 x6 r h
    unfold impl_PushOf.l0 at h
    refine .loop' [c_ 8144, c_ 8145, c_ 4073, l_ 1018, b_ 0, c_ 255] ?_
    by_cases c8 : x6 ≤ 120
    · rw [if_pos c8] at h
      refine .reg' [3, 9, 10, 12, 13, 65] [.no, .no, .v (B true)] ⟨[(3, (I a3)), (9, (.rf 1001026 0 x4.length 5 (x4.length * 5))), (10, (.rf 1001284 0 x5.1.length 5 (x5.1.length * 5))), (12, (I (at_ a2.f1 (wrap64 ((a2.f1.length : Int) - 1))).f2)), (13, (I x6)), (65, (B (decide ((wrap64 ((at_ a2.f1 (wrap64 ((a2.f1.length : Int) - 1))).f2 + x6)) ≤ 100000))))], [(1001026, (x4.flatMap e22)), (1001284, (x5.1.flatMap e22))], [(B (decide (x6 ≤ 120)) : V) = B true], []⟩ [c_ 8145, c_ 4073, l_ 1018, b_ 0, c_ 255] (alc (bT (dT c8)) aln) nocal ?_
      by_cases c9 : (wrap64 ((at_ a2.f1 (wrap64 ((a2.f1.length : Int) - 1))).f2 + x6)) ≤ 100000
      · rw [if_pos c9] at h
        refine .cond' (.tmp 65) true [c_ 32584, c_ 32585, b_ 1, c_ 8147, l_ 1018, b_ 0, c_ 255] (bT (dT c9)) ?_
        obtain ⟨x7, hx7, h⟩ := Option.bind_eq_some_iff.mp h
        refine .reg' [3, 9, 10, 12, 13, 73] [.no, .no, .no, .no, .c ⟨79, [(.sl true x5.1.length 5 (x5.1.flatMap e22)), (.sl true x4.length 5 (x4.flatMap e22)), (I x6), (I a3)], [], (B x7), [], [1001026, 1001284], [], [], (B x7), []⟩] ⟨[(3, (I a3)), (9, (.rf 1001026 0 x4.length 5 (x4.length * 5))), (10, (.rf 1001284 0 x5.1.length 5 (x5.1.length * 5))), (12, (I (at_ a2.f1 (wrap64 ((a2.f1.length : Int) - 1))).f2)), (13, (I x6)), (73, (B (!x7)))], [(1001026, (x4.flatMap e22)), (1001284, (x5.1.flatMap e22))], [COK (hget [(1001026, (x4.flatMap e22)), (1001284, (x5.1.flatMap e22))]) [(.rf 1001284 0 x5.1.length 5 (x5.1.length * 5)), (.rf 1001026 0 x4.length 5 (x4.length * 5)), (I x6), (I a3)] ⟨79, [(.sl true x5.1.length 5 (x5.1.flatMap e22)), (.sl true x4.length 5 (x4.flatMap e22)), (I x6), (I a3)], [], (B x7), [], [1001026, 1001284], [], [], (B x7), []⟩], [⟨79, [(.sl true x5.1.length 5 (x5.1.flatMap e22)), (.sl true x4.length 5 (x4.flatMap e22)), (I x6), (I a3)], [], (B x7), [], [1001026, 1001284], [], [], (B x7), []⟩]⟩ [c_ 32585, b_ 1, c_ 8147, l_ 1018, b_ 0, c_ 255] (alc (cok0 false (a2c (.z (frz_rf (k := 1001284) e22_ok (by simp) rfl rfl (row_len e22_ok _).symm)) (a2c (.z (frz_rf (k := 1001026) e22_ok (by simp) rfl rfl (row_len e22_ok _).symm)) (a2c (.z .s) (a2c (.z .s) a2n)))) (.z .s) (fun h => absurd h (by decide))) aln) (acal (impl_meetAny.J k x5.1 x4 x6 a3 _ hx7) nocal) ?_
        by_cases c10 : x7 = true
        · rw [if_pos c10] at h
          refine .cond' (.tmp 73) false [c_ 8147, l_ 1018, b_ 0, c_ 255] (bF (nF c10)) ?_
          refine .reg' [3, 9, 10, 12, 13] [] ⟨[(3, (I a3)), (9, (.rf 1001026 0 x4.length 5 (x4.length * 5))), (10, (.rf 1001284 0 x5.1.length 5 (x5.1.length * 5))), (12, (I (at_ a2.f1 (wrap64 ((a2.f1.length : Int) - 1))).f2)), (13, (I (wrap64 (x6 + 1))))], [(1001026, (x4.flatMap e22)), (1001284, (x5.1.flatMap e22))], [], []⟩ [l_ 1018, b_ 0, c_ 255] aln nocal ?_
          exact ih0 a2 a3 x4 x5 (wrap64 (x6 + 1)) _ h
        · rw [if_neg c10] at h
          refine .cond' (.tmp 73) true [c_ 130340, c_ 130341, b_ 1, c_ 8147, l_ 1018, b_ 0, c_ 255] (bT (nT (vF c10))) ?_
          refine .reg' [8] [] ⟨[(8, (I x6))], [(1001026, (x4.flatMap e22)), (1001284, (x5.1.flatMap e22))], [], []⟩ [c_ 130341, b_ 1, c_ 8147, l_ 1018, b_ 0, c_ 255] aln nocal ?_
          have h := Option.some.inj h
          subst h
          exact .fin0 [] (I x6) [] aln (.z .s)
      · rw [if_neg c9] at h
        refine .cond' (.tmp 65) false [c_ 510, c_ 511] (bF (dF c9)) ?_
        refine .reg' [8] [] ⟨[(8, (I (-1)))], [(1001026, (x4.flatMap e22)), (1001284, (x5.1.flatMap e22))], [], []⟩ [c_ 511] aln nocal ?_
        have h := Option.some.inj h
        subst h
        exact .fin0 [] (I (-1)) [] aln (.z .s)
    · rw [if_neg c8] at h
      refine .reg' [3, 9, 10, 12, 13, 65] [.no, .no, .v (B false)] ⟨[(3, (I a3)), (9, (.rf 1001026 0 x4.length 5 (x4.length * 5))), (10, (.rf 1001284 0 x5.1.length 5 (x5.1.length * 5))), (12, (I (at_ a2.f1 (wrap64 ((a2.f1.length : Int) - 1))).f2)), (13, (I x6)), (65, (B false))], [(1001026, (x4.flatMap e22)), (1001284, (x5.1.flatMap e22))], [(B (decide (x6 ≤ 120)) : V) = B false], []⟩ [c_ 8145, c_ 4073, l_ 1018, b_ 0, c_ 255] (alc (bF (dF c8)) aln) nocal ?_
      refine .cond' (.tmp 65) false [c_ 510, c_ 511] (rfl) ?_
      refine .reg' [8] [] ⟨[(8, (I (-1)))], [(1001026, (x4.flatMap e22)), (1001284, (x5.1.flatMap e22))], [], []⟩ [c_ 511] aln nocal ?_
      have h := Option.some.inj h
      subst h
      exact .fin0 [] (I (-1)) [] aln (.z .s)
end Go.Proofs.Ytebgaiokpncacaa.Fns
