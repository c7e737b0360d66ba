/- The functions that the law FnExactSettle reaches, by the engine. Printed by a program of this seat. -/
import Derived.Test.YtebgaiokpncacaaE5
import Derived.Test.YtebgaiokpncacaaProg
import Derived.Test.YtebgaiokpncacaaFFnExactSettlex1
namespace Go.Proofs.Ytebgaiokpncacaa.Fns
open Go.Proofs.Try Go.Proofs.Ytebgaiokpncacaa.Eng Go.RowKit
set_option maxRecDepth 100000
set_option linter.unusedVariables false
set_option linter.unusedSimpArgs false
theorem spec_Uses.J (k : Nat) (a0 : S46) (a1 : (List S66)) (r : (List S22)) (h : spec_Uses.f k a0 a1 = some r) : J prog (.call 31 [(.ag [(I a0.f0), (.sl true a0.f1.length 4 (a0.f1.flatMap e95))]), (.sl true a1.length 2 (a1.flatMap (e66 true)))] [] (.rf 1024 0 r.length 5 (r.length * 5)) [(1024, (r.flatMap e22))]) := by
  unfold spec_Uses.f at h
  obtain ⟨ih0, ih1⟩ := spec_Uses.lab k
  refine .call' [c_ 2, c_ 3] ?_
  refine .reg' [1, 2] [] ⟨[(1, (.sl true a1.length 2 (a1.flatMap (e66 true)))), (2, (.pt 256 0 2))], [(256, [(I a0.f0), (.sl true a0.f1.length 4 (a0.f1.flatMap e95))])], [], []⟩ [c_ 12, c_ 13, c_ 7] aln nocal ?_
  obtain ⟨x1, hx1, h⟩ := Option.bind_eq_some_iff.mp h
  refine .reg' [1, 2, 14] [.no, .no, .c ⟨25, [(.ag [(I a0.f0), (.sl true a0.f1.length 4 (a0.f1.flatMap e95))]), (.sl true a1.length 2 (a1.flatMap (e66 true)))], [], (B x1), [], [], [], [], (B x1), []⟩] ⟨[(1, (.sl true a1.length 2 (a1.flatMap (e66 true)))), (2, (.pt 256 0 2)), (14, (B (!x1)))], [(256, [(I a0.f0), (.sl true a0.f1.length 4 (a0.f1.flatMap e95))])], [2 = 2 ∧ 0 + 2 ≤ 2, COK (hget [(256, [(I a0.f0), (.sl true a0.f1.length 4 (a0.f1.flatMap e95))])]) [(.ag [(I a0.f0), (.sl true a0.f1.length 4 (a0.f1.flatMap e95))]), (.sl true a1.length 2 (a1.flatMap (e66 true)))] ⟨25, [(.ag [(I a0.f0), (.sl true a0.f1.length 4 (a0.f1.flatMap e95))]), (.sl true a1.length 2 (a1.flatMap (e66 true)))], [], (B x1), [], [], [], [], (B x1), []⟩], [⟨25, [(.ag [(I a0.f0), (.sl true a0.f1.length 4 (a0.f1.flatMap e95))]), (.sl true a1.length 2 (a1.flatMap (e66 true)))], [], (B x1), [], [], [], [], (B x1), []⟩]⟩ [c_ 13, c_ 7] (alc ⟨rfl, by decide⟩ (alc (cok0 false (a2c (.z (frz_ag (a2c .s (a2c (frz_sl e95_ok (fun h => h)) a2n)))) (a2c (.z (frz_sl (e66_ok true) (fun h => h))) a2n)) (.z .s) (fun h => absurd h (by decide))) aln)) (acal (spec_Ridden.J k a0 a1 _ hx1) nocal) ?_
  by_cases c1 : x1 = true
  · rw [if_pos c1] at h
    refine .cond' (.tmp 14) false [c_ 14, c_ 15] (bF (nF c1)) ?_
    refine .reg' [1, 2, 5] [] ⟨[(1, (.sl true a1.length 2 (a1.flatMap (e66 true)))), (2, (.pt 256 0 2)), (5, (.rf 1024 0 (([] : List S22).length) 5 (([] : List S22).length * 5)))], [(256, [(I a0.f0), (.sl true a0.f1.length 4 (a0.f1.flatMap e95))]), (1024, (([] : List S22).flatMap e22))], [], []⟩ [c_ 60, c_ 61, c_ 31] aln nocal ?_
    refine .reg' [1, 2, 5, 6] [] ⟨[(1, (.sl true a1.length 2 (a1.flatMap (e66 true)))), (2, (.pt 256 0 2)), (5, (.rf 1024 0 (([] : List S22).length) 5 (([] : List S22).length * 5))), (6, (I 0))], [(256, [(I a0.f0), (.sl true a0.f1.length 4 (a0.f1.flatMap e95))]), (1024, (([] : List S22).flatMap e22))], [], []⟩ [l_ 122, b_ 0, c_ 31] aln nocal ?_
    exact ih0 a0 a1 ([] : List S22) 0 _ h
  · rw [if_neg c1] at h
    refine .cond' (.tmp 14) true [c_ 52, c_ 53, c_ 7] (bT (nT (vF c1))) ?_
    refine .reg' [4] [] ⟨[(4, nilS)], [(256, [(I a0.f0), (.sl true a0.f1.length 4 (a0.f1.flatMap e95))])], [], []⟩ [c_ 53, c_ 7] aln nocal ?_
    have h := Option.some.inj h
    subst h
    refine .nl' 1024 ?_
    exact .fin' [] [(1024, 1024)] nilS [] aln (shc 1024 (rowF e22_ok _) shn) (.nl (memP_mem (p := (1024, 1024)) rfl) rfl)
/-! spec_UseOk: function 13 -/
def spec_UseOk.f (a0 : S22) : Option Bool := ((spec_l01In.f a0.f0 0 59).bind fun x1 => (if x1 = true then ((spec_l01In.f a0.f1 0 1).bind fun x2 => (if x2 = true then ((spec_l01In.f a0.f3 0 100000).bind fun x3 => (if x3 = true then ((spec_l01In.f a0.f2 0 (wrap64 (a0.f3 - 1))).bind fun x4 => (if x4 = true then ((spec_l01In.f a0.f4 0 23).bind fun x5 => (some x5)) else (some false))) else (some false))) else (some false))) else (some false)))
theorem spec_UseOk.J (a0 : S22) (r : Bool) (h : spec_UseOk.f a0 = some r) : J prog (.call 13 [(.ag [(I a0.f0), (I a0.f1), (I a0.f2), (I a0.f3), (I a0.f4)])] [] (B r) []) := by
  unfold spec_UseOk.f at h
  refine .call' [c_ 2, c_ 3] ?_
  refine .reg' [1] [] ⟨[(1, (.pt 256 0 5))], [(256, [(I a0.f0), (I a0.f1), (I a0.f2), (I a0.f3), (I a0.f4)])], [], []⟩ [c_ 6, c_ 7] aln nocal ?_
  obtain ⟨x1, hx1, h⟩ := Option.bind_eq_some_iff.mp h
  by_cases c1 : x1 = true
  · rw [if_pos c1] at h
    obtain ⟨x2, hx2, h⟩ := Option.bind_eq_some_iff.mp h
    by_cases c2 : x2 = true
    · rw [if_pos c2] at h
      obtain ⟨x3, hx3, h⟩ := Option.bind_eq_some_iff.mp h
      by_cases c3 : x3 = true
      · rw [if_pos c3] at h
        obtain ⟨x4, hx4, h⟩ := Option.bind_eq_some_iff.mp h
        by_cases c4 : x4 = true
        · rw [if_pos c4] at h
          obtain ⟨x5, hx5, h⟩ := Option.bind_eq_some_iff.mp h
          refine .reg' [2] [.no, .no, .c ⟨57, [(I a0.f0), (I 0), (I 59)], [], (B x1), [], [], [], [], (B x1), []⟩, .v (B true), .no, .no, .c ⟨57, [(I a0.f1), (I 0), (I 1)], [], (B x2), [], [], [], [], (B x2), []⟩, .no, .v (B true), .no, .no, .c ⟨57, [(I a0.f3), (I 0), (I 100000)], [], (B x3), [], [], [], [], (B x3), []⟩, .no, .v (B true), .no, .no, .no, .no, .no, .c ⟨57, [(I a0.f2), (I 0), (I (wrap64 (a0.f3 - 1)))], [], (B x4), [], [], [], [], (B x4), []⟩, .no, .v (B true), .no, .no, .c ⟨57, [(I a0.f4), (I 0), (I 23)], [], (B x5), [], [], [], [], (B x5), []⟩] ⟨[(2, (B x5))], [(256, [(I a0.f0), (I a0.f1), (I a0.f2), (I a0.f3), (I a0.f4)])], [5 = 5 ∧ 0 + 1 ≤ 5, COK (hget [(256, [(I a0.f0), (I a0.f1), (I a0.f2), (I a0.f3), (I a0.f4)])]) [(I a0.f0), (I 0), (I 59)] ⟨57, [(I a0.f0), (I 0), (I 59)], [], (B x1), [], [], [], [], (B x1), []⟩, (B x1 : V) = B true, 5 = 5 ∧ 1 + 1 ≤ 5, COK (hget [(256, [(I a0.f0), (I a0.f1), (I a0.f2), (I a0.f3), (I a0.f4)])]) [(I a0.f1), (I 0), (I 1)] ⟨57, [(I a0.f1), (I 0), (I 1)], [], (B x2), [], [], [], [], (B x2), []⟩, (B x2 : V) = B true, 5 = 5 ∧ 3 + 1 ≤ 5, COK (hget [(256, [(I a0.f0), (I a0.f1), (I a0.f2), (I a0.f3), (I a0.f4)])]) [(I a0.f3), (I 0), (I 100000)] ⟨57, [(I a0.f3), (I 0), (I 100000)], [], (B x3), [], [], [], [], (B x3), []⟩, (B x3 : V) = B true, 5 = 5 ∧ 2 + 1 ≤ 5, 5 = 5 ∧ 3 + 1 ≤ 5, COK (hget [(256, [(I a0.f0), (I a0.f1), (I a0.f2), (I a0.f3), (I a0.f4)])]) [(I a0.f2), (I 0), (I (wrap64 (a0.f3 - 1)))] ⟨57, [(I a0.f2), (I 0), (I (wrap64 (a0.f3 - 1)))], [], (B x4), [], [], [], [], (B x4), []⟩, (B x4 : V) = B true, 5 = 5 ∧ 4 + 1 ≤ 5, COK (hget [(256, [(I a0.f0), (I a0.f1), (I a0.f2), (I a0.f3), (I a0.f4)])]) [(I a0.f4), (I 0), (I 23)] ⟨57, [(I a0.f4), (I 0), (I 23)], [], (B x5), [], [], [], [], (B x5), []⟩], [⟨57, [(I a0.f0), (I 0), (I 59)], [], (B x1), [], [], [], [], (B x1), []⟩, ⟨57, [(I a0.f1), (I 0), (I 1)], [], (B x2), [], [], [], [], (B x2), []⟩, ⟨57, [(I a0.f3), (I 0), (I 100000)], [], (B x3), [], [], [], [], (B x3), []⟩, ⟨57, [(I a0.f2), (I 0), (I (wrap64 (a0.f3 - 1)))], [], (B x4), [], [], [], [], (B x4), []⟩, ⟨57, [(I a0.f4), (I 0), (I 23)], [], (B x5), [], [], [], [], (B x5), []⟩]⟩ [c_ 7] (alc ⟨rfl, by decide⟩ (alc (cok0 false (a2c (.z .s) (a2c (.z .s) (a2c (.z .s) a2n))) (.z .s) (fun h => absurd h (by decide))) (alc (bT c1) (alc ⟨rfl, by decide⟩ (alc (cok0 false (a2c (.z .s) (a2c (.z .s) (a2c (.z .s) a2n))) (.z .s) (fun h => absurd h (by decide))) (alc (bT c2) (alc ⟨rfl, by decide⟩ (alc (cok0 false (a2c (.z .s) (a2c (.z .s) (a2c (.z .s) a2n))) (.z .s) (fun h => absurd h (by decide))) (alc (bT c3) (alc ⟨rfl, by decide⟩ (alc ⟨rfl, by decide⟩ (alc (cok0 false (a2c (.z .s) (a2c (.z .s) (a2c (.z .s) a2n))) (.z .s) (fun h => absurd h (by decide))) (alc (bT c4) (alc ⟨rfl, by decide⟩ (alc (cok0 false (a2c (.z .s) (a2c (.z .s) (a2c (.z .s) a2n))) (.z .s) (fun h => absurd h (by decide))) aln))))))))))))))) (acal (spec_l01In.J a0.f0 0 59 _ hx1) (acal (spec_l01In.J a0.f1 0 1 _ hx2) (acal (spec_l01In.J a0.f3 0 100000 _ hx3) (acal (spec_l01In.J a0.f2 0 (wrap64 (a0.f3 - 1)) _ hx4) (acal (spec_l01In.J a0.f4 0 23 _ hx5) nocal))))) ?_
          have h := Option.some.inj h
          subst h
          exact .fin0 [] (B x5) [] aln (.z .s)
        · rw [if_neg c4] at h
          refine .reg' [2] [.no, .no, .c ⟨57, [(I a0.f0), (I 0), (I 59)], [], (B x1), [], [], [], [], (B x1), []⟩, .v (B true), .no, .no, .c ⟨57, [(I a0.f1), (I 0), (I 1)], [], (B x2), [], [], [], [], (B x2), []⟩, .no, .v (B true), .no, .no, .c ⟨57, [(I a0.f3), (I 0), (I 100000)], [], (B x3), [], [], [], [], (B x3), []⟩, .no, .v (B true), .no, .no, .no, .no, .no, .c ⟨57, [(I a0.f2), (I 0), (I (wrap64 (a0.f3 - 1)))], [], (B x4), [], [], [], [], (B x4), []⟩, .no, .v (B false)] ⟨[(2, (B false))], [(256, [(I a0.f0), (I a0.f1), (I a0.f2), (I a0.f3), (I a0.f4)])], [5 = 5 ∧ 0 + 1 ≤ 5, COK (hget [(256, [(I a0.f0), (I a0.f1), (I a0.f2), (I a0.f3), (I a0.f4)])]) [(I a0.f0), (I 0), (I 59)] ⟨57, [(I a0.f0), (I 0), (I 59)], [], (B x1), [], [], [], [], (B x1), []⟩, (B x1 : V) = B true, 5 = 5 ∧ 1 + 1 ≤ 5, COK (hget [(256, [(I a0.f0), (I a0.f1), (I a0.f2), (I a0.f3), (I a0.f4)])]) [(I a0.f1), (I 0), (I 1)] ⟨57, [(I a0.f1), (I 0), (I 1)], [], (B x2), [], [], [], [], (B x2), []⟩, (B x2 : V) = B true, 5 = 5 ∧ 3 + 1 ≤ 5, COK (hget [(256, [(I a0.f0), (I a0.f1), (I a0.f2), (I a0.f3), (I a0.f4)])]) [(I a0.f3), (I 0), (I 100000)] ⟨57, [(I a0.f3), (I 0), (I 100000)], [], (B x3), [], [], [], [], (B x3), []⟩, (B x3 : V) = B true, 5 = 5 ∧ 2 + 1 ≤ 5, 5 = 5 ∧ 3 + 1 ≤ 5, COK (hget [(256, [(I a0.f0), (I a0.f1), (I a0.f2), (I a0.f3), (I a0.f4)])]) [(I a0.f2), (I 0), (I (wrap64 (a0.f3 - 1)))] ⟨57, [(I a0.f2), (I 0), (I (wrap64 (a0.f3 - 1)))], [], (B x4), [], [], [], [], (B x4), []⟩, (B x4 : V) = B false], [⟨57, [(I a0.f0), (I 0), (I 59)], [], (B x1), [], [], [], [], (B x1), []⟩, ⟨57, [(I a0.f1), (I 0), (I 1)], [], (B x2), [], [], [], [], (B x2), []⟩, ⟨57, [(I a0.f3), (I 0), (I 100000)], [], (B x3), [], [], [], [], (B x3), []⟩, ⟨57, [(I a0.f2), (I 0), (I (wrap64 (a0.f3 - 1)))], [], (B x4), [], [], [], [], (B x4), []⟩]⟩ [c_ 7] (alc ⟨rfl, by decide⟩ (alc (cok0 false (a2c (.z .s) (a2c (.z .s) (a2c (.z .s) a2n))) (.z .s) (fun h => absurd h (by decide))) (alc (bT c1) (alc ⟨rfl, by decide⟩ (alc (cok0 false (a2c (.z .s) (a2c (.z .s) (a2c (.z .s) a2n))) (.z .s) (fun h => absurd h (by decide))) (alc (bT c2) (alc ⟨rfl, by decide⟩ (alc (cok0 false (a2c (.z .s) (a2c (.z .s) (a2c (.z .s) a2n))) (.z .s) (fun h => absurd h (by decide))) (alc (bT c3) (alc ⟨rfl, by decide⟩ (alc ⟨rfl, by decide⟩ (alc (cok0 false (a2c (.z .s) (a2c (.z .s) (a2c (.z .s) a2n))) (.z .s) (fun h => absurd h (by decide))) (alc (bF (vF c4)) aln))))))))))))) (acal (spec_l01In.J a0.f0 0 59 _ hx1) (acal (spec_l01In.J a0.f1 0 1 _ hx2) (acal (spec_l01In.J a0.f3 0 100000 _ hx3) (acal (spec_l01In.J a0.f2 0 (wrap64 (a0.f3 - 1)) _ hx4) nocal)))) ?_
          have h := Option.some.inj h
          subst h
          exact .fin0 [] (B false) [] aln (.z .s)
      · rw [if_neg c3] at h
        refine .reg' [2] [.no, .no, .c ⟨57, [(I a0.f0), (I 0), (I 59)], [], (B x1), [], [], [], [], (B x1), []⟩, .v (B true), .no, .no, .c ⟨57, [(I a0.f1), (I 0), (I 1)], [], (B x2), [], [], [], [], (B x2), []⟩, .no, .v (B true), .no, .no, .c ⟨57, [(I a0.f3), (I 0), (I 100000)], [], (B x3), [], [], [], [], (B x3), []⟩, .no, .v (B false)] ⟨[(2, (B false))], [(256, [(I a0.f0), (I a0.f1), (I a0.f2), (I a0.f3), (I a0.f4)])], [5 = 5 ∧ 0 + 1 ≤ 5, COK (hget [(256, [(I a0.f0), (I a0.f1), (I a0.f2), (I a0.f3), (I a0.f4)])]) [(I a0.f0), (I 0), (I 59)] ⟨57, [(I a0.f0), (I 0), (I 59)], [], (B x1), [], [], [], [], (B x1), []⟩, (B x1 : V) = B true, 5 = 5 ∧ 1 + 1 ≤ 5, COK (hget [(256, [(I a0.f0), (I a0.f1), (I a0.f2), (I a0.f3), (I a0.f4)])]) [(I a0.f1), (I 0), (I 1)] ⟨57, [(I a0.f1), (I 0), (I 1)], [], (B x2), [], [], [], [], (B x2), []⟩, (B x2 : V) = B true, 5 = 5 ∧ 3 + 1 ≤ 5, COK (hget [(256, [(I a0.f0), (I a0.f1), (I a0.f2), (I a0.f3), (I a0.f4)])]) [(I a0.f3), (I 0), (I 100000)] ⟨57, [(I a0.f3), (I 0), (I 100000)], [], (B x3), [], [], [], [], (B x3), []⟩, (B x3 : V) = B false], [⟨57, [(I a0.f0), (I 0), (I 59)], [], (B x1), [], [], [], [], (B x1), []⟩, ⟨57, [(I a0.f1), (I 0), (I 1)], [], (B x2), [], [], [], [], (B x2), []⟩, ⟨57, [(I a0.f3), (I 0), (I 100000)], [], (B x3), [], [], [], [], (B x3), []⟩]⟩ [c_ 7] (alc ⟨rfl, by decide⟩ (alc (cok0 false (a2c (.z .s) (a2c (.z .s) (a2c (.z .s) a2n))) (.z .s) (fun h => absurd h (by decide))) (alc (bT c1) (alc ⟨rfl, by decide⟩ (alc (cok0 false (a2c (.z .s) (a2c (.z .s) (a2c (.z .s) a2n))) (.z .s) (fun h => absurd h (by decide))) (alc (bT c2) (alc ⟨rfl, by decide⟩ (alc (cok0 false (a2c (.z .s) (a2c (.z .s) (a2c (.z .s) a2n))) (.z .s) (fun h => absurd h (by decide))) (alc (bF (vF c3)) aln))))))))) (acal (spec_l01In.J a0.f0 0 59 _ hx1) (acal (spec_l01In.J a0.f1 0 1 _ hx2) (acal (spec_l01In.J a0.f3 0 100000 _ hx3) nocal))) ?_
        have h := Option.some.inj h
        subst h
        exact .fin0 [] (B false) [] aln (.z .s)
    · rw [if_neg c2] at h
      refine .reg' [2] [.no, .no, .c ⟨57, [(I a0.f0), (I 0), (I 59)], [], (B x1), [], [], [], [], (B x1), []⟩, .v (B true), .no, .no, .c ⟨57, [(I a0.f1), (I 0), (I 1)], [], (B x2), [], [], [], [], (B x2), []⟩, .no, .v (B false)] ⟨[(2, (B false))], [(256, [(I a0.f0), (I a0.f1), (I a0.f2), (I a0.f3), (I a0.f4)])], [5 = 5 ∧ 0 + 1 ≤ 5, COK (hget [(256, [(I a0.f0), (I a0.f1), (I a0.f2), (I a0.f3), (I a0.f4)])]) [(I a0.f0), (I 0), (I 59)] ⟨57, [(I a0.f0), (I 0), (I 59)], [], (B x1), [], [], [], [], (B x1), []⟩, (B x1 : V) = B true, 5 = 5 ∧ 1 + 1 ≤ 5, COK (hget [(256, [(I a0.f0), (I a0.f1), (I a0.f2), (I a0.f3), (I a0.f4)])]) [(I a0.f1), (I 0), (I 1)] ⟨57, [(I a0.f1), (I 0), (I 1)], [], (B x2), [], [], [], [], (B x2), []⟩, (B x2 : V) = B false], [⟨57, [(I a0.f0), (I 0), (I 59)], [], (B x1), [], [], [], [], (B x1), []⟩, ⟨57, [(I a0.f1), (I 0), (I 1)], [], (B x2), [], [], [], [], (B x2), []⟩]⟩ [c_ 7] (alc ⟨rfl, by decide⟩ (alc (cok0 false (a2c (.z .s) (a2c (.z .s) (a2c (.z .s) a2n))) (.z .s) (fun h => absurd h (by decide))) (alc (bT c1) (alc ⟨rfl, by decide⟩ (alc (cok0 false (a2c (.z .s) (a2c (.z .s) (a2c (.z .s) a2n))) (.z .s) (fun h => absurd h (by decide))) (alc (bF (vF c2)) aln)))))) (acal (spec_l01In.J a0.f0 0 59 _ hx1) (acal (spec_l01In.J a0.f1 0 1 _ hx2) nocal)) ?_
      have h := Option.some.inj h
      subst h
      exact .fin0 [] (B false) [] aln (.z .s)
  · rw [if_neg c1] at h
    refine .reg' [2] [.no, .no, .c ⟨57, [(I a0.f0), (I 0), (I 59)], [], (B x1), [], [], [], [], (B x1), []⟩, .v (B false)] ⟨[(2, (B false))], [(256, [(I a0.f0), (I a0.f1), (I a0.f2), (I a0.f3), (I a0.f4)])], [5 = 5 ∧ 0 + 1 ≤ 5, COK (hget [(256, [(I a0.f0), (I a0.f1), (I a0.f2), (I a0.f3), (I a0.f4)])]) [(I a0.f0), (I 0), (I 59)] ⟨57, [(I a0.f0), (I 0), (I 59)], [], (B x1), [], [], [], [], (B x1), []⟩, (B x1 : V) = B false], [⟨57, [(I a0.f0), (I 0), (I 59)], [], (B x1), [], [], [], [], (B x1), []⟩]⟩ [c_ 7] (alc ⟨rfl, by decide⟩ (alc (cok0 false (a2c (.z .s) (a2c (.z .s) (a2c (.z .s) a2n))) (.z .s) (fun h => absurd h (by decide))) (alc (bF (vF c1)) aln))) (acal (spec_l01In.J a0.f0 0 59 _ hx1) nocal) ?_
    have h := Option.some.inj h
    subst h
    exact .fin0 [] (B false) [] aln (.z .s)
/-! spec_Clash: function 16 -/
def spec_Clash.f (a0 : S22) (a1 : S22) (a2 : Int) : Option Bool := ((spec_UseOk.f a0).bind fun x1 => (if x1 = true then ((spec_UseOk.f a1).bind fun x2 => (if x2 = true then ((spec_l01In.f a2 0 60).bind fun x3 => (if x3 = true then (if a0.f0 = a1.f0 then (if a0.f1 = a1.f1 then (if (wrap64 (a0.f2 + a2)) ≤ a1.f2 then (if (wrap64 (a1.f2 + a2)) ≤ a0.f2 then (if (wrap64 (a0.f3 + a2)) ≤ a1.f3 then (some false) else (some (!(decide ((wrap64 (a1.f3 + a2)) ≤ a0.f3))))) else (if (wrap64 (a0.f3 + a2)) ≤ a1.f3 then (some false) else (some true))) else (if (wrap64 (a1.f2 + a2)) ≤ a0.f2 then (some (!(decide ((wrap64 (a1.f3 + a2)) ≤ a0.f3)))) else (some true))) else (if a0.f2 < a1.f3 then (some (decide (a1.f2 < a0.f3))) else (some false))) else (some false)) else (some false))) else (some false))) else (some false)))
theorem spec_Clash.J (a0 : S22) (a1 : S22) (a2 : Int) (r : Bool) (h : spec_Clash.f a0 a1 a2 = some r) : J prog (.call 16 [(.ag [(I a0.f0), (I a0.f1), (I a0.f2), (I a0.f3), (I a0.f4)]), (.ag [(I a1.f0), (I a1.f1), (I a1.f2), (I a1.f3), (I a1.f4)]), (I a2)] [] (B r) []) := by
  unfold spec_Clash.f at h
  refine .call' [c_ 2, c_ 3] ?_
  refine .reg' [2, 3, 4] [] ⟨[(2, (I a2)), (3, (.pt 256 0 5)), (4, (.pt 257 0 5))], [(256, [(I a0.f0), (I a0.f1), (I a0.f2), (I a0.f3), (I a0.f4)]), (257, [(I a1.f0), (I a1.f1), (I a1.f2), (I a1.f3), (I a1.f4)])], [], []⟩ [c_ 12, c_ 13, c_ 7] aln nocal ?_
  obtain ⟨x1, hx1, h⟩ := Option.bind_eq_some_iff.mp h
  by_cases c1 : x1 = true
  · rw [if_pos c1] at h
    obtain ⟨x2, hx2, h⟩ := Option.bind_eq_some_iff.mp h
    by_cases c2 : x2 = true
    · rw [if_pos c2] at h
      obtain ⟨x3, hx3, h⟩ := Option.bind_eq_some_iff.mp h
      by_cases c3 : x3 = true
      · rw [if_pos c3] at h
        refine .reg' [2, 3, 4, 28] [.no, .c ⟨13, [(.ag [(I a0.f0), (I a0.f1), (I a0.f2), (I a0.f3), (I a0.f4)])], [], (B x1), [], [], [], [], (B x1), []⟩, .no, .v (B false), .no, .c ⟨13, [(.ag [(I a1.f0), (I a1.f1), (I a1.f2), (I a1.f3), (I a1.f4)])], [], (B x2), [], [], [], [], (B x2), []⟩, .no, .no, .v (B false), .no, .c ⟨57, [(I a2), (I 0), (I 60)], [], (B x3), [], [], [], [], (B x3), []⟩, .no, .no, .v (B false)] ⟨[(2, (I a2)), (3, (.pt 256 0 5)), (4, (.pt 257 0 5)), (28, (B (!(a0.f0 == a1.f0))))], [(256, [(I a0.f0), (I a0.f1), (I a0.f2), (I a0.f3), (I a0.f4)]), (257, [(I a1.f0), (I a1.f1), (I a1.f2), (I a1.f3), (I a1.f4)])], [5 = 5 ∧ 0 + 5 ≤ 5, COK (hget [(256, [(I a0.f0), (I a0.f1), (I a0.f2), (I a0.f3), (I a0.f4)]), (257, [(I a1.f0), (I a1.f1), (I a1.f2), (I a1.f3), (I a1.f4)])]) [(.ag [(I a0.f0), (I a0.f1), (I a0.f2), (I a0.f3), (I a0.f4)])] ⟨13, [(.ag [(I a0.f0), (I a0.f1), (I a0.f2), (I a0.f3), (I a0.f4)])], [], (B x1), [], [], [], [], (B x1), []⟩, (B (!x1) : V) = B false, 5 = 5 ∧ 0 + 5 ≤ 5, COK (hget [(256, [(I a0.f0), (I a0.f1), (I a0.f2), (I a0.f3), (I a0.f4)]), (257, [(I a1.f0), (I a1.f1), (I a1.f2), (I a1.f3), (I a1.f4)])]) [(.ag [(I a1.f0), (I a1.f1), (I a1.f2), (I a1.f3), (I a1.f4)])] ⟨13, [(.ag [(I a1.f0), (I a1.f1), (I a1.f2), (I a1.f3), (I a1.f4)])], [], (B x2), [], [], [], [], (B x2), []⟩, (B (!x2) : V) = B false, COK (hget [(256, [(I a0.f0), (I a0.f1), (I a0.f2), (I a0.f3), (I a0.f4)]), (257, [(I a1.f0), (I a1.f1), (I a1.f2), (I a1.f3), (I a1.f4)])]) [(I a2), (I 0), (I 60)] ⟨57, [(I a2), (I 0), (I 60)], [], (B x3), [], [], [], [], (B x3), []⟩, (B (!x3) : V) = B false, 5 = 5 ∧ 0 + 1 ≤ 5, 5 = 5 ∧ 0 + 1 ≤ 5], [⟨13, [(.ag [(I a0.f0), (I a0.f1), (I a0.f2), (I a0.f3), (I a0.f4)])], [], (B x1), [], [], [], [], (B x1), []⟩, ⟨13, [(.ag [(I a1.f0), (I a1.f1), (I a1.f2), (I a1.f3), (I a1.f4)])], [], (B x2), [], [], [], [], (B x2), []⟩, ⟨57, [(I a2), (I 0), (I 60)], [], (B x3), [], [], [], [], (B x3), []⟩]⟩ [c_ 13, c_ 7] (alc ⟨rfl, by decide⟩ (alc (cok0 false (a2c (.z (frz_ag (a2c .s (a2c .s (a2c .s (a2c .s (a2c .s a2n))))))) a2n) (.z .s) (fun h => absurd h (by decide))) (alc (bF (nF c1)) (alc ⟨rfl, by decide⟩ (alc (cok0 false (a2c (.z (frz_ag (a2c .s (a2c .s (a2c .s (a2c .s (a2c .s a2n))))))) a2n) (.z .s) (fun h => absurd h (by decide))) (alc (bF (nF c2)) (alc (cok0 false (a2c (.z .s) (a2c (.z .s) (a2c (.z .s) a2n))) (.z .s) (fun h => absurd h (by decide))) (alc (bF (nF c3)) (alc ⟨rfl, by decide⟩ (alc ⟨rfl, by decide⟩ aln)))))))))) (acal (spec_UseOk.J a0 _ hx1) (acal (spec_UseOk.J a1 _ hx2) (acal (spec_l01In.J a2 0 60 _ hx3) nocal))) ?_
        by_cases c4 : a0.f0 = a1.f0
        · rw [if_pos c4] at h
          refine .cond' (.tmp 28) false [c_ 28, c_ 29, c_ 15] (bF (nF (qT c4))) ?_
          refine .reg' [2, 3, 4, 33] [] ⟨[(2, (I a2)), (3, (.pt 256 0 5)), (4, (.pt 257 0 5)), (33, (B (!(a0.f1 == a1.f1))))], [(256, [(I a0.f0), (I a0.f1), (I a0.f2), (I a0.f3), (I a0.f4)]), (257, [(I a1.f0), (I a1.f1), (I a1.f2), (I a1.f3), (I a1.f4)])], [5 = 5 ∧ 1 + 1 ≤ 5, 5 = 5 ∧ 1 + 1 ≤ 5], []⟩ [c_ 29, c_ 15] (alc ⟨rfl, by decide⟩ (alc ⟨rfl, by decide⟩ aln)) nocal ?_
          by_cases c5 : a0.f1 = a1.f1
          · rw [if_pos c5] at h
            refine .cond' (.tmp 33) false [c_ 30, c_ 31] (bF (nF (qT c5))) ?_
            by_cases c6 : (wrap64 (a0.f2 + a2)) ≤ a1.f2
            · rw [if_pos c6] at h
              refine .reg' [2, 3, 4, 7] [.no, .no, .no, .no, .no, .no, .no, .v (B true)] ⟨[(2, (I a2)), (3, (.pt 256 0 5)), (4, (.pt 257 0 5)), (7, (B (decide ((wrap64 (a0.f3 + a2)) ≤ a1.f3))))], [(256, [(I a0.f0), (I a0.f1), (I a0.f2), (I a0.f3), (I a0.f4)]), (257, [(I a1.f0), (I a1.f1), (I a1.f2), (I a1.f3), (I a1.f4)])], [5 = 5 ∧ 2 + 1 ≤ 5, 5 = 5 ∧ 2 + 1 ≤ 5, (B (decide ((wrap64 (a0.f2 + a2)) ≤ a1.f2)) : V) = B true, 5 = 5 ∧ 3 + 1 ≤ 5, 5 = 5 ∧ 3 + 1 ≤ 5], []⟩ [c_ 62, c_ 63] (alc ⟨rfl, by decide⟩ (alc ⟨rfl, by decide⟩ (alc (bT (dT c6)) (alc ⟨rfl, by decide⟩ (alc ⟨rfl, by decide⟩ aln))))) nocal ?_
              by_cases c7 : (wrap64 (a1.f2 + a2)) ≤ a0.f2
              · rw [if_pos c7] at h
                refine .reg' [7, 8] [.no, .no, .no, .no, .no, .no, .no, .v (B true)] ⟨[(7, (B (decide ((wrap64 (a0.f3 + a2)) ≤ a1.f3)))), (8, (B (decide ((wrap64 (a1.f3 + a2)) ≤ a0.f3))))], [(256, [(I a0.f0), (I a0.f1), (I a0.f2), (I a0.f3), (I a0.f4)]), (257, [(I a1.f0), (I a1.f1), (I a1.f2), (I a1.f3), (I a1.f4)])], [5 = 5 ∧ 2 + 1 ≤ 5, 5 = 5 ∧ 2 + 1 ≤ 5, (B (decide ((wrap64 (a1.f2 + a2)) ≤ a0.f2)) : V) = B true, 5 = 5 ∧ 3 + 1 ≤ 5, 5 = 5 ∧ 3 + 1 ≤ 5], []⟩ [c_ 126, c_ 127] (alc ⟨rfl, by decide⟩ (alc ⟨rfl, by decide⟩ (alc (bT (dT c7)) (alc ⟨rfl, by decide⟩ (alc ⟨rfl, by decide⟩ aln))))) nocal ?_
                by_cases c8 : (wrap64 (a0.f3 + a2)) ≤ a1.f3
                · rw [if_pos c8] at h
                  refine .reg' [6] [.no, .no, .v (B false)] ⟨[(6, (B false))], [(256, [(I a0.f0), (I a0.f1), (I a0.f2), (I a0.f3), (I a0.f4)]), (257, [(I a1.f0), (I a1.f1), (I a1.f2), (I a1.f3), (I a1.f4)])], [(B (!(decide ((wrap64 (a0.f3 + a2)) ≤ a1.f3))) : V) = B false], []⟩ [c_ 127] (alc (bF (nF (dT c8))) aln) nocal ?_
                  have h := Option.some.inj h
                  subst h
                  exact .fin0 [] (B false) [] aln (.z .s)
                · rw [if_neg c8] at h
                  refine .reg' [6] [.no, .no, .v (B true)] ⟨[(6, (B (!(decide ((wrap64 (a1.f3 + a2)) ≤ a0.f3)))))], [(256, [(I a0.f0), (I a0.f1), (I a0.f2), (I a0.f3), (I a0.f4)]), (257, [(I a1.f0), (I a1.f1), (I a1.f2), (I a1.f3), (I a1.f4)])], [(B (!(decide ((wrap64 (a0.f3 + a2)) ≤ a1.f3))) : V) = B true], []⟩ [c_ 127] (alc (bT (nT (dF c8))) aln) nocal ?_
                  have h := Option.some.inj h
                  subst h
                  exact .fin0 [] (B (!(decide ((wrap64 (a1.f3 + a2)) ≤ a0.f3)))) [] aln (.z .s)
              · rw [if_neg c7] at h
                refine .reg' [7, 8] [.no, .no, .no, .no, .no, .no, .no, .v (B false)] ⟨[(7, (B (decide ((wrap64 (a0.f3 + a2)) ≤ a1.f3)))), (8, (B false))], [(256, [(I a0.f0), (I a0.f1), (I a0.f2), (I a0.f3), (I a0.f4)]), (257, [(I a1.f0), (I a1.f1), (I a1.f2), (I a1.f3), (I a1.f4)])], [5 = 5 ∧ 2 + 1 ≤ 5, 5 = 5 ∧ 2 + 1 ≤ 5, (B (decide ((wrap64 (a1.f2 + a2)) ≤ a0.f2)) : V) = B false], []⟩ [c_ 126, c_ 127] (alc ⟨rfl, by decide⟩ (alc ⟨rfl, by decide⟩ (alc (bF (dF c7)) aln))) nocal ?_
                by_cases c9 : (wrap64 (a0.f3 + a2)) ≤ a1.f3
                · rw [if_pos c9] at h
                  refine .reg' [6] [.no, .no, .v (B false)] ⟨[(6, (B false))], [(256, [(I a0.f0), (I a0.f1), (I a0.f2), (I a0.f3), (I a0.f4)]), (257, [(I a1.f0), (I a1.f1), (I a1.f2), (I a1.f3), (I a1.f4)])], [(B (!(decide ((wrap64 (a0.f3 + a2)) ≤ a1.f3))) : V) = B false], []⟩ [c_ 127] (alc (bF (nF (dT c9))) aln) nocal ?_
                  have h := Option.some.inj h
                  subst h
                  exact .fin0 [] (B false) [] aln (.z .s)
                · rw [if_neg c9] at h
                  refine .reg' [6] [.no, .no, .v (B true)] ⟨[(6, (B true))], [(256, [(I a0.f0), (I a0.f1), (I a0.f2), (I a0.f3), (I a0.f4)]), (257, [(I a1.f0), (I a1.f1), (I a1.f2), (I a1.f3), (I a1.f4)])], [(B (!(decide ((wrap64 (a0.f3 + a2)) ≤ a1.f3))) : V) = B true], []⟩ [c_ 127] (alc (bT (nT (dF c9))) aln) nocal ?_
                  have h := Option.some.inj h
                  subst h
                  exact .fin0 [] (B true) [] aln (.z .s)
            · rw [if_neg c6] at h
              refine .reg' [2, 3, 4, 7] [.no, .no, .no, .no, .no, .no, .no, .v (B false)] ⟨[(2, (I a2)), (3, (.pt 256 0 5)), (4, (.pt 257 0 5)), (7, (B false))], [(256, [(I a0.f0), (I a0.f1), (I a0.f2), (I a0.f3), (I a0.f4)]), (257, [(I a1.f0), (I a1.f1), (I a1.f2), (I a1.f3), (I a1.f4)])], [5 = 5 ∧ 2 + 1 ≤ 5, 5 = 5 ∧ 2 + 1 ≤ 5, (B (decide ((wrap64 (a0.f2 + a2)) ≤ a1.f2)) : V) = B false], []⟩ [c_ 62, c_ 63] (alc ⟨rfl, by decide⟩ (alc ⟨rfl, by decide⟩ (alc (bF (dF c6)) aln))) nocal ?_
              by_cases c10 : (wrap64 (a1.f2 + a2)) ≤ a0.f2
              · rw [if_pos c10] at h
                refine .reg' [7, 8] [.no, .no, .no, .no, .no, .no, .no, .v (B true)] ⟨[(7, (B false)), (8, (B (decide ((wrap64 (a1.f3 + a2)) ≤ a0.f3))))], [(256, [(I a0.f0), (I a0.f1), (I a0.f2), (I a0.f3), (I a0.f4)]), (257, [(I a1.f0), (I a1.f1), (I a1.f2), (I a1.f3), (I a1.f4)])], [5 = 5 ∧ 2 + 1 ≤ 5, 5 = 5 ∧ 2 + 1 ≤ 5, (B (decide ((wrap64 (a1.f2 + a2)) ≤ a0.f2)) : V) = B true, 5 = 5 ∧ 3 + 1 ≤ 5, 5 = 5 ∧ 3 + 1 ≤ 5], []⟩ [c_ 126, c_ 127] (alc ⟨rfl, by decide⟩ (alc ⟨rfl, by decide⟩ (alc (bT (dT c10)) (alc ⟨rfl, by decide⟩ (alc ⟨rfl, by decide⟩ aln))))) nocal ?_
                refine .reg' [6] [] ⟨[(6, (B (!(decide ((wrap64 (a1.f3 + a2)) ≤ a0.f3)))))], [(256, [(I a0.f0), (I a0.f1), (I a0.f2), (I a0.f3), (I a0.f4)]), (257, [(I a1.f0), (I a1.f1), (I a1.f2), (I a1.f3), (I a1.f4)])], [], []⟩ [c_ 127] aln nocal ?_
                have h := Option.some.inj h
                subst h
                exact .fin0 [] (B (!(decide ((wrap64 (a1.f3 + a2)) ≤ a0.f3)))) [] aln (.z .s)
              · rw [if_neg c10] at h
                refine .reg' [7, 8] [.no, .no, .no, .no, .no, .no, .no, .v (B false)] ⟨[(7, (B false)), (8, (B false))], [(256, [(I a0.f0), (I a0.f1), (I a0.f2), (I a0.f3), (I a0.f4)]), (257, [(I a1.f0), (I a1.f1), (I a1.f2), (I a1.f3), (I a1.f4)])], [5 = 5 ∧ 2 + 1 ≤ 5, 5 = 5 ∧ 2 + 1 ≤ 5, (B (decide ((wrap64 (a1.f2 + a2)) ≤ a0.f2)) : V) = B false], []⟩ [c_ 126, c_ 127] (alc ⟨rfl, by decide⟩ (alc ⟨rfl, by decide⟩ (alc (bF (dF c10)) aln))) nocal ?_
                refine .reg' [6] [] ⟨[(6, (B true))], [(256, [(I a0.f0), (I a0.f1), (I a0.f2), (I a0.f3), (I a0.f4)]), (257, [(I a1.f0), (I a1.f1), (I a1.f2), (I a1.f3), (I a1.f4)])], [], []⟩ [c_ 127] aln nocal ?_
                have h := Option.some.inj h
                subst h
                exact .fin0 [] (B true) [] aln (.z .s)
          · rw [if_neg c5] at h
            refine .cond' (.tmp 33) true [c_ 116, c_ 117, c_ 15] (bT (nT (qF c5))) ?_
            by_cases c11 : a0.f2 < a1.f3
            · rw [if_pos c11] at h
              refine .reg' [6] [.no, .no, .no, .no, .no, .v (B true)] ⟨[(6, (B (decide (a1.f2 < a0.f3))))], [(256, [(I a0.f0), (I a0.f1), (I a0.f2), (I a0.f3), (I a0.f4)]), (257, [(I a1.f0), (I a1.f1), (I a1.f2), (I a1.f3), (I a1.f4)])], [5 = 5 ∧ 2 + 1 ≤ 5, 5 = 5 ∧ 3 + 1 ≤ 5, (B (decide (a0.f2 < a1.f3)) : V) = B true, 5 = 5 ∧ 2 + 1 ≤ 5, 5 = 5 ∧ 3 + 1 ≤ 5], []⟩ [c_ 117, c_ 15] (alc ⟨rfl, by decide⟩ (alc ⟨rfl, by decide⟩ (alc (bT (dT c11)) (alc ⟨rfl, by decide⟩ (alc ⟨rfl, by decide⟩ aln))))) nocal ?_
              have h := Option.some.inj h
              subst h
              exact .fin0 [] (B (decide (a1.f2 < a0.f3))) [] aln (.z .s)
            · rw [if_neg c11] at h
              refine .reg' [6] [.no, .no, .no, .no, .no, .v (B false)] ⟨[(6, (B false))], [(256, [(I a0.f0), (I a0.f1), (I a0.f2), (I a0.f3), (I a0.f4)]), (257, [(I a1.f0), (I a1.f1), (I a1.f2), (I a1.f3), (I a1.f4)])], [5 = 5 ∧ 2 + 1 ≤ 5, 5 = 5 ∧ 3 + 1 ≤ 5, (B (decide (a0.f2 < a1.f3)) : V) = B false], []⟩ [c_ 117, c_ 15] (alc ⟨rfl, by decide⟩ (alc ⟨rfl, by decide⟩ (alc (bF (dF c11)) aln))) nocal ?_
              have h := Option.some.inj h
              subst h
              exact .fin0 [] (B false) [] aln (.z .s)
        · rw [if_neg c4] at h
          refine .cond' (.tmp 28) true [c_ 52, c_ 53, c_ 7] (bT (nT (qF c4))) ?_
          refine .reg' [6] [] ⟨[(6, (B false))], [(256, [(I a0.f0), (I a0.f1), (I a0.f2), (I a0.f3), (I a0.f4)]), (257, [(I a1.f0), (I a1.f1), (I a1.f2), (I a1.f3), (I a1.f4)])], [], []⟩ [c_ 53, c_ 7] aln nocal ?_
          have h := Option.some.inj h
          subst h
          exact .fin0 [] (B false) [] aln (.z .s)
      · rw [if_neg c3] at h
        refine .reg' [2, 3, 4, 28] [.no, .c ⟨13, [(.ag [(I a0.f0), (I a0.f1), (I a0.f2), (I a0.f3), (I a0.f4)])], [], (B x1), [], [], [], [], (B x1), []⟩, .no, .v (B false), .no, .c ⟨13, [(.ag [(I a1.f0), (I a1.f1), (I a1.f2), (I a1.f3), (I a1.f4)])], [], (B x2), [], [], [], [], (B x2), []⟩, .no, .no, .v (B false), .no, .c ⟨57, [(I a2), (I 0), (I 60)], [], (B x3), [], [], [], [], (B x3), []⟩, .no, .no, .v (B true)] ⟨[(2, (I a2)), (3, (.pt 256 0 5)), (4, (.pt 257 0 5)), (28, (B true))], [(256, [(I a0.f0), (I a0.f1), (I a0.f2), (I a0.f3), (I a0.f4)]), (257, [(I a1.f0), (I a1.f1), (I a1.f2), (I a1.f3), (I a1.f4)])], [5 = 5 ∧ 0 + 5 ≤ 5, COK (hget [(256, [(I a0.f0), (I a0.f1), (I a0.f2), (I a0.f3), (I a0.f4)]), (257, [(I a1.f0), (I a1.f1), (I a1.f2), (I a1.f3), (I a1.f4)])]) [(.ag [(I a0.f0), (I a0.f1), (I a0.f2), (I a0.f3), (I a0.f4)])] ⟨13, [(.ag [(I a0.f0), (I a0.f1), (I a0.f2), (I a0.f3), (I a0.f4)])], [], (B x1), [], [], [], [], (B x1), []⟩, (B (!x1) : V) = B false, 5 = 5 ∧ 0 + 5 ≤ 5, COK (hget [(256, [(I a0.f0), (I a0.f1), (I a0.f2), (I a0.f3), (I a0.f4)]), (257, [(I a1.f0), (I a1.f1), (I a1.f2), (I a1.f3), (I a1.f4)])]) [(.ag [(I a1.f0), (I a1.f1), (I a1.f2), (I a1.f3), (I a1.f4)])] ⟨13, [(.ag [(I a1.f0), (I a1.f1), (I a1.f2), (I a1.f3), (I a1.f4)])], [], (B x2), [], [], [], [], (B x2), []⟩, (B (!x2) : V) = B false, COK (hget [(256, [(I a0.f0), (I a0.f1), (I a0.f2), (I a0.f3), (I a0.f4)]), (257, [(I a1.f0), (I a1.f1), (I a1.f2), (I a1.f3), (I a1.f4)])]) [(I a2), (I 0), (I 60)] ⟨57, [(I a2), (I 0), (I 60)], [], (B x3), [], [], [], [], (B x3), []⟩, (B (!x3) : V) = B true], [⟨13, [(.ag [(I a0.f0), (I a0.f1), (I a0.f2), (I a0.f3), (I a0.f4)])], [], (B x1), [], [], [], [], (B x1), []⟩, ⟨13, [(.ag [(I a1.f0), (I a1.f1), (I a1.f2), (I a1.f3), (I a1.f4)])], [], (B x2), [], [], [], [], (B x2), []⟩, ⟨57, [(I a2), (I 0), (I 60)], [], (B x3), [], [], [], [], (B x3), []⟩]⟩ [c_ 13, c_ 7] (alc ⟨rfl, by decide⟩ (alc (cok0 false (a2c (.z (frz_ag (a2c .s (a2c .s (a2c .s (a2c .s (a2c .s a2n))))))) a2n) (.z .s) (fun h => absurd h (by decide))) (alc (bF (nF c1)) (alc ⟨rfl, by decide⟩ (alc (cok0 false (a2c (.z (frz_ag (a2c .s (a2c .s (a2c .s (a2c .s (a2c .s a2n))))))) a2n) (.z .s) (fun h => absurd h (by decide))) (alc (bF (nF c2)) (alc (cok0 false (a2c (.z .s) (a2c (.z .s) (a2c (.z .s) a2n))) (.z .s) (fun h => absurd h (by decide))) (alc (bT (nT (vF c3))) aln)))))))) (acal (spec_UseOk.J a0 _ hx1) (acal (spec_UseOk.J a1 _ hx2) (acal (spec_l01In.J a2 0 60 _ hx3) nocal))) ?_
        refine .cond' (.tmp 28) true [c_ 52, c_ 53, c_ 7] (rfl) ?_
        refine .reg' [6] [] ⟨[(6, (B false))], [(256, [(I a0.f0), (I a0.f1), (I a0.f2), (I a0.f3), (I a0.f4)]), (257, [(I a1.f0), (I a1.f1), (I a1.f2), (I a1.f3), (I a1.f4)])], [], []⟩ [c_ 53, c_ 7] aln nocal ?_
        have h := Option.some.inj h
        subst h
        exact .fin0 [] (B false) [] aln (.z .s)
    · rw [if_neg c2] at h
      refine .reg' [2, 3, 4, 28] [.no, .c ⟨13, [(.ag [(I a0.f0), (I a0.f1), (I a0.f2), (I a0.f3), (I a0.f4)])], [], (B x1), [], [], [], [], (B x1), []⟩, .no, .v (B false), .no, .c ⟨13, [(.ag [(I a1.f0), (I a1.f1), (I a1.f2), (I a1.f3), (I a1.f4)])], [], (B x2), [], [], [], [], (B x2), []⟩, .no, .no, .v (B true)] ⟨[(2, (I a2)), (3, (.pt 256 0 5)), (4, (.pt 257 0 5)), (28, (B true))], [(256, [(I a0.f0), (I a0.f1), (I a0.f2), (I a0.f3), (I a0.f4)]), (257, [(I a1.f0), (I a1.f1), (I a1.f2), (I a1.f3), (I a1.f4)])], [5 = 5 ∧ 0 + 5 ≤ 5, COK (hget [(256, [(I a0.f0), (I a0.f1), (I a0.f2), (I a0.f3), (I a0.f4)]), (257, [(I a1.f0), (I a1.f1), (I a1.f2), (I a1.f3), (I a1.f4)])]) [(.ag [(I a0.f0), (I a0.f1), (I a0.f2), (I a0.f3), (I a0.f4)])] ⟨13, [(.ag [(I a0.f0), (I a0.f1), (I a0.f2), (I a0.f3), (I a0.f4)])], [], (B x1), [], [], [], [], (B x1), []⟩, (B (!x1) : V) = B false, 5 = 5 ∧ 0 + 5 ≤ 5, COK (hget [(256, [(I a0.f0), (I a0.f1), (I a0.f2), (I a0.f3), (I a0.f4)]), (257, [(I a1.f0), (I a1.f1), (I a1.f2), (I a1.f3), (I a1.f4)])]) [(.ag [(I a1.f0), (I a1.f1), (I a1.f2), (I a1.f3), (I a1.f4)])] ⟨13, [(.ag [(I a1.f0), (I a1.f1), (I a1.f2), (I a1.f3), (I a1.f4)])], [], (B x2), [], [], [], [], (B x2), []⟩, (B (!x2) : V) = B true], [⟨13, [(.ag [(I a0.f0), (I a0.f1), (I a0.f2), (I a0.f3), (I a0.f4)])], [], (B x1), [], [], [], [], (B x1), []⟩, ⟨13, [(.ag [(I a1.f0), (I a1.f1), (I a1.f2), (I a1.f3), (I a1.f4)])], [], (B x2), [], [], [], [], (B x2), []⟩]⟩ [c_ 13, c_ 7] (alc ⟨rfl, by decide⟩ (alc (cok0 false (a2c (.z (frz_ag (a2c .s (a2c .s (a2c .s (a2c .s (a2c .s a2n))))))) a2n) (.z .s) (fun h => absurd h (by decide))) (alc (bF (nF c1)) (alc ⟨rfl, by decide⟩ (alc (cok0 false (a2c (.z (frz_ag (a2c .s (a2c .s (a2c .s (a2c .s (a2c .s a2n))))))) a2n) (.z .s) (fun h => absurd h (by decide))) (alc (bT (nT (vF c2))) aln)))))) (acal (spec_UseOk.J a0 _ hx1) (acal (spec_UseOk.J a1 _ hx2) nocal)) ?_
      refine .cond' (.tmp 28) true [c_ 52, c_ 53, c_ 7] (rfl) ?_
      refine .reg' [6] [] ⟨[(6, (B false))], [(256, [(I a0.f0), (I a0.f1), (I a0.f2), (I a0.f3), (I a0.f4)]), (257, [(I a1.f0), (I a1.f1), (I a1.f2), (I a1.f3), (I a1.f4)])], [], []⟩ [c_ 53, c_ 7] aln nocal ?_
      have h := Option.some.inj h
      subst h
      exact .fin0 [] (B false) [] aln (.z .s)
  · rw [if_neg c1] at h
    refine .reg' [2, 3, 4, 28] [.no, .c ⟨13, [(.ag [(I a0.f0), (I a0.f1), (I a0.f2), (I a0.f3), (I a0.f4)])], [], (B x1), [], [], [], [], (B x1), []⟩, .no, .v (B true)] ⟨[(2, (I a2)), (3, (.pt 256 0 5)), (4, (.pt 257 0 5)), (28, (B true))], [(256, [(I a0.f0), (I a0.f1), (I a0.f2), (I a0.f3), (I a0.f4)]), (257, [(I a1.f0), (I a1.f1), (I a1.f2), (I a1.f3), (I a1.f4)])], [5 = 5 ∧ 0 + 5 ≤ 5, COK (hget [(256, [(I a0.f0), (I a0.f1), (I a0.f2), (I a0.f3), (I a0.f4)]), (257, [(I a1.f0), (I a1.f1), (I a1.f2), (I a1.f3), (I a1.f4)])]) [(.ag [(I a0.f0), (I a0.f1), (I a0.f2), (I a0.f3), (I a0.f4)])] ⟨13, [(.ag [(I a0.f0), (I a0.f1), (I a0.f2), (I a0.f3), (I a0.f4)])], [], (B x1), [], [], [], [], (B x1), []⟩, (B (!x1) : V) = B true], [⟨13, [(.ag [(I a0.f0), (I a0.f1), (I a0.f2), (I a0.f3), (I a0.f4)])], [], (B x1), [], [], [], [], (B x1), []⟩]⟩ [c_ 13, c_ 7] (alc ⟨rfl, by decide⟩ (alc (cok0 false (a2c (.z (frz_ag (a2c .s (a2c .s (a2c .s (a2c .s (a2c .s a2n))))))) a2n) (.z .s) (fun h => absurd h (by decide))) (alc (bT (nT (vF c1))) aln))) (acal (spec_UseOk.J a0 _ hx1) nocal) ?_
    refine .cond' (.tmp 28) true [c_ 52, c_ 53, c_ 7] (rfl) ?_
    refine .reg' [6] [] ⟨[(6, (B false))], [(256, [(I a0.f0), (I a0.f1), (I a0.f2), (I a0.f3), (I a0.f4)]), (257, [(I a1.f0), (I a1.f1), (I a1.f2), (I a1.f3), (I a1.f4)])], [], []⟩ [c_ 53, c_ 7] aln nocal ?_
    have h := Option.some.inj h
    subst h
    exact .fin0 [] (B false) [] aln (.z .s)
/-! spec_FirstClash: function 19 -/
mutual
def spec_FirstClash.l0 : Nat → (List S22) → Int → Int → Option (Int × Int)
 | 0, _, _, _ => none
 | k + 1, a0, a1, x2 => (if x2 < (a0.length : Int) then (spec_FirstClash.l1 k a0 a1 x2 (wrap64 (x2 + 1))) else (some ((-1), (-1))))
def spec_FirstClash.l1 : Nat → (List S22) → Int → Int → Int → Option (Int × Int)
 | 0, _, _, _, _ => none
 | k + 1, a0, a1, x2, x3 => (if x3 < (a0.length : Int) then (if 0 ≤ x2 then (if x2 < (a0.length : Int) then (if 0 ≤ x3 then (if (at_ a0 x2).f4 = (at_ a0 x3).f4 then (spec_FirstClash.l1 k a0 a1 x2 (wrap64 (x3 + 1))) else ((spec_Clash.f (at_ a0 x2) (at_ a0 x3) a1).bind fun x4 => (if x4 = true then (some (x2, x3)) else (spec_FirstClash.l1 k a0 a1 x2 (wrap64 (x3 + 1)))))) else none) else none) else none) else (spec_FirstClash.l0 k a0 a1 (wrap64 (x2 + 1))))
end
def spec_FirstClash.f (k : Nat) (a0 : (List S22)) (a1 : Int) : Option (Int × Int) := (if (a0.length : Int) > 300 then (some ((-1), (-1))) else ((spec_l01In.f a1 0 60).bind fun x1 => (if x1 = true then (spec_FirstClash.l0 k a0 a1 0) else (some ((-1), (-1))))))
theorem spec_FirstClash.lab : ∀ k, (∀ (a0 : (List S22)) (a1 : Int) (x2 : Int) (r : (Int × Int)), spec_FirstClash.l0 k a0 a1 x2 = some r → J prog (.run 19 [] [l_ 58, b_ 0, c_ 15] [(0, (.sl true a0.length 5 (a0.flatMap e22))), (1, (I a1)), (6, (I x2))] [] (.tp [(I r.1), (I r.2)]) [])) ∧ (∀ (a0 : (List S22)) (a1 : Int) (x2 : Int) (x3 : Int) (r : (Int × Int)), spec_FirstClash.l1 k a0 a1 x2 x3 = some r → J prog (.run 19 [] [l_ 3730, b_ 2, b_ 1, c_ 467, l_ 58, b_ 0, c_ 15] [(0, (.sl true a0.length 5 (a0.flatMap e22))), (1, (I a1)), (6, (I x2)), (7, (I x3))] [] (.tp [(I r.1), (I r.2)]) []))
 | 0 => ⟨(by intro a0 a1 x2 r h; unfold spec_FirstClash.l0 at h; cases h), (by intro a0 a1 x2 x3 r h; unfold spec_FirstClash.l1 at h; cases h)⟩
 | k + 1 => by
  obtain ⟨ih0, ih1⟩ := spec_FirstClash.lab k
  refine ⟨?_, ?_⟩
  · intro a0 a1 x2 r h
    unfold spec_FirstClash.l0 at h
    refine .loop' [c_ 464, c_ 465, c_ 233, l_ 58, b_ 0, c_ 15] ?_
    refine .reg' [0, 1, 6, 19] [] ⟨[(0, (.sl true a0.length 5 (a0.flatMap e22))), (1, (I a1)), (6, (I x2)), (19, (B (decide (x2 < (a0.length : Int)))))], [], [], []⟩ [c_ 465, c_ 233, l_ 58, b_ 0, c_ 15] aln nocal ?_
    by_cases c3 : x2 < (a0.length : Int)
    · rw [if_pos c3] at h
      refine .cond' (.tmp 19) true [c_ 1864, c_ 1865, b_ 1, c_ 467, l_ 58, b_ 0, c_ 15] (bT (dT c3)) ?_
      refine .reg' [0, 1, 6, 7] [] ⟨[(0, (.sl true a0.length 5 (a0.flatMap e22))), (1, (I a1)), (6, (I x2)), (7, (I (wrap64 (x2 + 1))))], [], [], []⟩ [l_ 3730, b_ 2, b_ 1, c_ 467, l_ 58, b_ 0, c_ 15] aln nocal ?_
      exact ih1 a0 a1 x2 (wrap64 (x2 + 1)) _ h
    · rw [if_neg c3] at h
      refine .cond' (.tmp 19) false [c_ 30, c_ 31] (bF (dF c3)) ?_
      refine .reg' [4, 5] [] ⟨[(4, (I (-1))), (5, (I (-1)))], [], [], []⟩ [c_ 31] aln nocal ?_
      have h := Option.some.inj h
      subst h
      exact .fin0 [] (.tp [(I (-1)), (I (-1))]) [] aln (cnv_tp (a2c (.z .s) (a2c (.z .s) a2n)))
  · intro a0 a1 x2 x3 r h
    unfold spec_FirstClash.l1 at h
    refine .loop' [c_ 29840, c_ 29841, c_ 14921, l_ 3730, b_ 2, b_ 1, c_ 467, l_ 58, b_ 0, c_ 15] ?_
    refine .reg' [0, 1, 6, 7, 27] [] ⟨[(0, (.sl true a0.length 5 (a0.flatMap e22))), (1, (I a1)), (6, (I x2)), (7, (I x3)), (27, (B (decide (x3 < (a0.length : Int)))))], [], [], []⟩ [c_ 29841, c_ 14921, l_ 3730, b_ 2, b_ 1, c_ 467, l_ 58, b_ 0, c_ 15] aln nocal ?_
    by_cases c4 : x3 < (a0.length : Int)
    · rw [if_pos c4] at h
      refine .cond' (.tmp 27) true [c_ 119368, c_ 119369, b_ 3, c_ 29843, l_ 3730, b_ 2, b_ 1, c_ 467, l_ 58, b_ 0, c_ 15] (bT (dT c4)) ?_
      by_cases c5 : 0 ≤ x2
      · rw [if_pos c5] at h
        by_cases c6 : x2 < (a0.length : Int)
        · rw [if_pos c6] at h
          by_cases c7 : 0 ≤ x3
          · rw [if_pos c7] at h
            by_cases c8 : (at_ a0 x2).f4 = (at_ a0 x3).f4
            · rw [if_pos c8] at h
              refine .reg' [0, 1, 6, 7, 52] [.no, .no, .no, .no, .v (I (at_ a0 x2).f4), .no, .no, .no, .no, .v (I (at_ a0 x3).f4), .no, .v (B false)] ⟨[(0, (.sl true a0.length 5 (a0.flatMap e22))), (1, (I a1)), (6, (I x2)), (7, (I x3)), (52, (B false))], [], [(0 : Int) ≤ x2 ∧ x2 < (a0.length : Int), rdC prog 3 (((a0.flatMap e22).drop (x2.toNat * 5)).drop 4) = (I (at_ a0 x2).f4), 1 ≤ (((a0.flatMap e22).drop (x2.toNat * 5)).drop 4).length, (0 : Int) ≤ x3 ∧ x3 < (a0.length : Int), rdC prog 3 (((a0.flatMap e22).drop (x3.toNat * 5)).drop 4) = (I (at_ a0 x3).f4), 1 ≤ (((a0.flatMap e22).drop (x3.toNat * 5)).drop 4).length, (B (!((at_ a0 x2).f4 == (at_ a0 x3).f4)) : V) = B false], []⟩ [c_ 119369, b_ 3, c_ 29843, l_ 3730, b_ 2, b_ 1, c_ 467, l_ 58, b_ 0, c_ 15] (alc ⟨c5, c6⟩ (alc (ldC e22_ok 4 (by decide) rfl c5 c6) (alc (okIj e22_ok c5 c6 (by decide)) (alc ⟨c7, c4⟩ (alc (ldC e22_ok 4 (by decide) rfl c7 c4) (alc (okIj e22_ok c7 c4 (by decide)) (alc (bF (nF (qT c8))) aln))))))) nocal ?_
              refine .cond' (.tmp 52) false [c_ 29843, l_ 3730, b_ 2, b_ 1, c_ 467, l_ 58, b_ 0, c_ 15] (rfl) ?_
              refine .reg' [0, 1, 6, 7] [] ⟨[(0, (.sl true a0.length 5 (a0.flatMap e22))), (1, (I a1)), (6, (I x2)), (7, (I (wrap64 (x3 + 1))))], [], [], []⟩ [l_ 3730, b_ 2, b_ 1, c_ 467, l_ 58, b_ 0, c_ 15] aln nocal ?_
              exact ih1 a0 a1 x2 (wrap64 (x3 + 1)) _ h
            · rw [if_neg c8] at h
              obtain ⟨x4, hx4, h⟩ := Option.bind_eq_some_iff.mp h
              refine .reg' [0, 1, 6, 7, 52] [.no, .no, .no, .no, .v (I (at_ a0 x2).f4), .no, .no, .no, .no, .v (I (at_ a0 x3).f4), .no, .v (B true), .no, .no, .no, .v (.ag [(I (at_ a0 x2).f0), (I (at_ a0 x2).f1), (I (at_ a0 x2).f2), (I (at_ a0 x2).f3), (I (at_ a0 x2).f4)]), .no, .no, .no, .v (.ag [(I (at_ a0 x3).f0), (I (at_ a0 x3).f1), (I (at_ a0 x3).f2), (I (at_ a0 x3).f3), (I (at_ a0 x3).f4)]), .no, .c ⟨16, [(.ag [(I (at_ a0 x2).f0), (I (at_ a0 x2).f1), (I (at_ a0 x2).f2), (I (at_ a0 x2).f3), (I (at_ a0 x2).f4)]), (.ag [(I (at_ a0 x3).f0), (I (at_ a0 x3).f1), (I (at_ a0 x3).f2), (I (at_ a0 x3).f3), (I (at_ a0 x3).f4)]), (I a1)], [], (B x4), [], [], [], [], (B x4), []⟩] ⟨[(0, (.sl true a0.length 5 (a0.flatMap e22))), (1, (I a1)), (6, (I x2)), (7, (I x3)), (52, (B x4))], [], [(0 : Int) ≤ x2 ∧ x2 < (a0.length : Int), rdC prog 3 (((a0.flatMap e22).drop (x2.toNat * 5)).drop 4) = (I (at_ a0 x2).f4), 1 ≤ (((a0.flatMap e22).drop (x2.toNat * 5)).drop 4).length, (0 : Int) ≤ x3 ∧ x3 < (a0.length : Int), rdC prog 3 (((a0.flatMap e22).drop (x3.toNat * 5)).drop 4) = (I (at_ a0 x3).f4), 1 ≤ (((a0.flatMap e22).drop (x3.toNat * 5)).drop 4).length, (B (!((at_ a0 x2).f4 == (at_ a0 x3).f4)) : V) = B true, (0 : Int) ≤ x2 ∧ x2 < (a0.length : Int), rdC prog 25 ((a0.flatMap e22).drop (x2.toNat * 5)) = (.ag [(I (at_ a0 x2).f0), (I (at_ a0 x2).f1), (I (at_ a0 x2).f2), (I (at_ a0 x2).f3), (I (at_ a0 x2).f4)]), 5 ≤ ((a0.flatMap e22).drop (x2.toNat * 5)).length, (0 : Int) ≤ x3 ∧ x3 < (a0.length : Int), rdC prog 25 ((a0.flatMap e22).drop (x3.toNat * 5)) = (.ag [(I (at_ a0 x3).f0), (I (at_ a0 x3).f1), (I (at_ a0 x3).f2), (I (at_ a0 x3).f3), (I (at_ a0 x3).f4)]), 5 ≤ ((a0.flatMap e22).drop (x3.toNat * 5)).length, COK (hget []) [(.ag [(I (at_ a0 x2).f0), (I (at_ a0 x2).f1), (I (at_ a0 x2).f2), (I (at_ a0 x2).f3), (I (at_ a0 x2).f4)]), (.ag [(I (at_ a0 x3).f0), (I (at_ a0 x3).f1), (I (at_ a0 x3).f2), (I (at_ a0 x3).f3), (I (at_ a0 x3).f4)]), (I a1)] ⟨16, [(.ag [(I (at_ a0 x2).f0), (I (at_ a0 x2).f1), (I (at_ a0 x2).f2), (I (at_ a0 x2).f3), (I (at_ a0 x2).f4)]), (.ag [(I (at_ a0 x3).f0), (I (at_ a0 x3).f1), (I (at_ a0 x3).f2), (I (at_ a0 x3).f3), (I (at_ a0 x3).f4)]), (I a1)], [], (B x4), [], [], [], [], (B x4), []⟩], [⟨16, [(.ag [(I (at_ a0 x2).f0), (I (at_ a0 x2).f1), (I (at_ a0 x2).f2), (I (at_ a0 x2).f3), (I (at_ a0 x2).f4)]), (.ag [(I (at_ a0 x3).f0), (I (at_ a0 x3).f1), (I (at_ a0 x3).f2), (I (at_ a0 x3).f3), (I (at_ a0 x3).f4)]), (I a1)], [], (B x4), [], [], [], [], (B x4), []⟩]⟩ [c_ 119369, b_ 3, c_ 29843, l_ 3730, b_ 2, b_ 1, c_ 467, l_ 58, b_ 0, c_ 15] (alc ⟨c5, c6⟩ (alc (ldC e22_ok 4 (by decide) rfl c5 c6) (alc (okIj e22_ok c5 c6 (by decide)) (alc ⟨c7, c4⟩ (alc (ldC e22_ok 4 (by decide) rfl c7 c4) (alc (okIj e22_ok c7 c4 (by decide)) (alc (bT (nT (qF c8))) (alc ⟨c5, c6⟩ (alc (ldA e22_ok rfl rfl c5 c6) (alc (okI e22_ok c5 c6 (by decide)) (alc ⟨c7, c4⟩ (alc (ldA e22_ok rfl rfl c7 c4) (alc (okI e22_ok c7 c4 (by decide)) (alc (cok0 false (a2c (.z (frz_ag (a2c .s (a2c .s (a2c .s (a2c .s (a2c .s a2n))))))) (a2c (.z (frz_ag (a2c .s (a2c .s (a2c .s (a2c .s (a2c .s a2n))))))) (a2c (.z .s) a2n))) (.z .s) (fun h => absurd h (by decide))) aln)))))))))))))) (acal (spec_Clash.J (at_ a0 x2) (at_ a0 x3) a1 _ hx4) nocal) ?_
              by_cases c9 : x4 = true
              · rw [if_pos c9] at h
                refine .cond' (.tmp 52) true [c_ 477476, c_ 477477, b_ 3, c_ 29843, l_ 3730, b_ 2, b_ 1, c_ 467, l_ 58, b_ 0, c_ 15] (bT c9) ?_
                refine .reg' [4, 5] [] ⟨[(4, (I x2)), (5, (I x3))], [], [], []⟩ [c_ 477477, b_ 3, c_ 29843, l_ 3730, b_ 2, b_ 1, c_ 467, l_ 58, b_ 0, c_ 15] aln nocal ?_
                have h := Option.some.inj h
                subst h
                exact .fin0 [] (.tp [(I x2), (I x3)]) [] aln (cnv_tp (a2c (.z .s) (a2c (.z .s) a2n)))
              · rw [if_neg c9] at h
                refine .cond' (.tmp 52) false [c_ 29843, l_ 3730, b_ 2, b_ 1, c_ 467, l_ 58, b_ 0, c_ 15] (bF (vF c9)) ?_
                refine .reg' [0, 1, 6, 7] [] ⟨[(0, (.sl true a0.length 5 (a0.flatMap e22))), (1, (I a1)), (6, (I x2)), (7, (I (wrap64 (x3 + 1))))], [], [], []⟩ [l_ 3730, b_ 2, b_ 1, c_ 467, l_ 58, b_ 0, c_ 15] aln nocal ?_
                exact ih1 a0 a1 x2 (wrap64 (x3 + 1)) _ h
          · rw [if_neg c7] at h
            cases h
        · rw [if_neg c6] at h
          cases h
      · rw [if_neg c5] at h
        cases h
    · rw [if_neg c4] at h
      refine .cond' (.tmp 27) false [c_ 467, l_ 58, b_ 0, c_ 15] (bF (dF c4)) ?_
      refine .reg' [0, 1, 6] [] ⟨[(0, (.sl true a0.length 5 (a0.flatMap e22))), (1, (I a1)), (6, (I (wrap64 (x2 + 1))))], [], [], []⟩ [l_ 58, b_ 0, c_ 15] aln nocal ?_
      exact ih0 a0 a1 (wrap64 (x2 + 1)) _ h
theorem spec_FirstClash.J (k : Nat) (a0 : (List S22)) (a1 : Int) (r : (Int × Int)) (h : spec_FirstClash.f k a0 a1 = some r) : J prog (.call 19 [(.sl true a0.length 5 (a0.flatMap e22)), (I a1)] [] (.tp [(I r.1), (I r.2)]) []) := by
  unfold spec_FirstClash.f at h
  obtain ⟨ih0, ih1⟩ := spec_FirstClash.lab k
  refine .call' [c_ 2, c_ 3] ?_
  refine .reg' [0, 1] [] ⟨[(0, (.sl true a0.length 5 (a0.flatMap e22))), (1, (I a1))], [], [], []⟩ [c_ 12, c_ 13, c_ 7] aln nocal ?_
  by_cases c1 : (a0.length : Int) > 300
  · rw [if_pos c1] at h
    refine .reg' [0, 1, 15] [.no, .no, .no, .v (B true)] ⟨[(0, (.sl true a0.length 5 (a0.flatMap e22))), (1, (I a1)), (15, (B true))], [], [(B (decide ((a0.length : Int) > 300)) : V) = B true], []⟩ [c_ 13, c_ 7] (alc (bT (dT c1)) aln) nocal ?_
    refine .cond' (.tmp 15) true [c_ 52, c_ 53, c_ 7] (rfl) ?_
    refine .reg' [4, 5] [] ⟨[(4, (I (-1))), (5, (I (-1)))], [], [], []⟩ [c_ 53, c_ 7] aln nocal ?_
    have h := Option.some.inj h
    subst h
    exact .fin0 [] (.tp [(I (-1)), (I (-1))]) [] aln (cnv_tp (a2c (.z .s) (a2c (.z .s) a2n)))
  · rw [if_neg c1] at h
    obtain ⟨x1, hx1, h⟩ := Option.bind_eq_some_iff.mp h
    refine .reg' [0, 1, 15] [.no, .no, .no, .v (B false), .no, .c ⟨57, [(I a1), (I 0), (I 60)], [], (B x1), [], [], [], [], (B x1), []⟩] ⟨[(0, (.sl true a0.length 5 (a0.flatMap e22))), (1, (I a1)), (15, (B (!x1)))], [], [(B (decide ((a0.length : Int) > 300)) : V) = B false, COK (hget []) [(I a1), (I 0), (I 60)] ⟨57, [(I a1), (I 0), (I 60)], [], (B x1), [], [], [], [], (B x1), []⟩], [⟨57, [(I a1), (I 0), (I 60)], [], (B x1), [], [], [], [], (B x1), []⟩]⟩ [c_ 13, c_ 7] (alc (bF (dF c1)) (alc (cok0 false (a2c (.z .s) (a2c (.z .s) (a2c (.z .s) a2n))) (.z .s) (fun h => absurd h (by decide))) aln)) (acal (spec_l01In.J a1 0 60 _ hx1) nocal) ?_
    by_cases c2 : x1 = true
    · rw [if_pos c2] at h
      refine .cond' (.tmp 15) false [c_ 28, c_ 29, c_ 15] (bF (nF c2)) ?_
      refine .reg' [0, 1, 6] [] ⟨[(0, (.sl true a0.length 5 (a0.flatMap e22))), (1, (I a1)), (6, (I 0))], [], [], []⟩ [l_ 58, b_ 0, c_ 15] aln nocal ?_
      exact ih0 a0 a1 0 _ h
    · rw [if_neg c2] at h
      refine .cond' (.tmp 15) true [c_ 52, c_ 53, c_ 7] (bT (nT (vF c2))) ?_
      refine .reg' [4, 5] [] ⟨[(4, (I (-1))), (5, (I (-1)))], [], [], []⟩ [c_ 53, c_ 7] aln nocal ?_
      have h := Option.some.inj h
      subst h
      exact .fin0 [] (.tp [(I (-1)), (I (-1))]) [] aln (cnv_tp (a2c (.z .s) (a2c (.z .s) a2n)))
/-! spec_Clean: function 37 -/
def spec_Clean.f (k : Nat) (a0 : S46) (a1 : (List S66)) (a2 : Int) : Option Bool := ((spec_Ridden.f k a0 a1).bind fun x1 => (if x1 = true then ((spec_l01In.f a2 0 60).bind fun x2 => (if x2 = true then ((spec_Uses.f k a0 a1).bind fun x3 => ((spec_FirstClash.f k x3 a2).bind fun x4 => (some (decide (x4.1 < 0))))) else (some false))) else (some false)))
theorem spec_Clean.J (k : Nat) (a0 : S46) (a1 : (List S66)) (a2 : Int) (r : Bool) (h : spec_Clean.f k a0 a1 a2 = some r) : J prog (.call 37 [(.ag [(I a0.f0), (.sl true a0.f1.length 4 (a0.f1.flatMap e95))]), (.sl true a1.length 2 (a1.flatMap (e66 true))), (I a2)] [] (B r) []) := by
  unfold spec_Clean.f at h
  refine .call' [c_ 2, c_ 3] ?_
  refine .reg' [1, 2, 3] [] ⟨[(1, (.sl true a1.length 2 (a1.flatMap (e66 true)))), (2, (I a2)), (3, (.pt 256 0 2))], [(256, [(I a0.f0), (.sl true a0.f1.length 4 (a0.f1.flatMap e95))])], [], []⟩ [c_ 12, c_ 13, c_ 7] aln nocal ?_
  obtain ⟨x1, hx1, h⟩ := Option.bind_eq_some_iff.mp h
  by_cases c1 : x1 = true
  · rw [if_pos c1] at h
    obtain ⟨x2, hx2, h⟩ := Option.bind_eq_some_iff.mp h
    refine .reg' [1, 2, 3, 17] [.no, .no, .c ⟨25, [(.ag [(I a0.f0), (.sl true a0.f1.length 4 (a0.f1.flatMap e95))]), (.sl true a1.length 2 (a1.flatMap (e66 true)))], [], (B x1), [], [], [], [], (B x1), []⟩, .no, .v (B false), .no, .c ⟨57, [(I a2), (I 0), (I 60)], [], (B x2), [], [], [], [], (B x2), []⟩] ⟨[(1, (.sl true a1.length 2 (a1.flatMap (e66 true)))), (2, (I a2)), (3, (.pt 256 0 2)), (17, (B (!x2)))], [(256, [(I a0.f0), (.sl true a0.f1.length 4 (a0.f1.flatMap e95))])], [2 = 2 ∧ 0 + 2 ≤ 2, COK (hget [(256, [(I a0.f0), (.sl true a0.f1.length 4 (a0.f1.flatMap e95))])]) [(.ag [(I a0.f0), (.sl true a0.f1.length 4 (a0.f1.flatMap e95))]), (.sl true a1.length 2 (a1.flatMap (e66 true)))] ⟨25, [(.ag [(I a0.f0), (.sl true a0.f1.length 4 (a0.f1.flatMap e95))]), (.sl true a1.length 2 (a1.flatMap (e66 true)))], [], (B x1), [], [], [], [], (B x1), []⟩, (B (!x1) : V) = B false, COK (hget [(256, [(I a0.f0), (.sl true a0.f1.length 4 (a0.f1.flatMap e95))])]) [(I a2), (I 0), (I 60)] ⟨57, [(I a2), (I 0), (I 60)], [], (B x2), [], [], [], [], (B x2), []⟩], [⟨25, [(.ag [(I a0.f0), (.sl true a0.f1.length 4 (a0.f1.flatMap e95))]), (.sl true a1.length 2 (a1.flatMap (e66 true)))], [], (B x1), [], [], [], [], (B x1), []⟩, ⟨57, [(I a2), (I 0), (I 60)], [], (B x2), [], [], [], [], (B x2), []⟩]⟩ [c_ 13, c_ 7] (alc ⟨rfl, by decide⟩ (alc (cok0 false (a2c (.z (frz_ag (a2c .s (a2c (frz_sl e95_ok (fun h => h)) a2n)))) (a2c (.z (frz_sl (e66_ok true) (fun h => h))) a2n)) (.z .s) (fun h => absurd h (by decide))) (alc (bF (nF c1)) (alc (cok0 false (a2c (.z .s) (a2c (.z .s) (a2c (.z .s) a2n))) (.z .s) (fun h => absurd h (by decide))) aln)))) (acal (spec_Ridden.J k a0 a1 _ hx1) (acal (spec_l01In.J a2 0 60 _ hx2) nocal)) ?_
    by_cases c2 : x2 = true
    · rw [if_pos c2] at h
      refine .cond' (.tmp 17) false [c_ 14, c_ 15] (bF (nF c2)) ?_
      obtain ⟨x3, hx3, h⟩ := Option.bind_eq_some_iff.mp h
      obtain ⟨x4, hx4, h⟩ := Option.bind_eq_some_iff.mp h
      refine .reg' [7] [.no, .no, .c ⟨31, [(.ag [(I a0.f0), (.sl true a0.f1.length 4 (a0.f1.flatMap e95))]), (.sl true a1.length 2 (a1.flatMap (e66 true)))], [], (.rf 1024 0 x3.length 5 (x3.length * 5)), [(1024, (x3.flatMap e22))], [], [], [(1001026, 1024)], (.rf 1001026 0 x3.length 5 (x3.length * 5)), [(1001026, (x3.flatMap e22))]⟩, .no, .c ⟨19, [(.sl true x3.length 5 (x3.flatMap e22)), (I a2)], [], (.tp [(I x4.1), (I x4.2)]), [], [1001026], [], [], (.tp [(I x4.1), (I x4.2)]), []⟩] ⟨[(7, (I x4.1))], [(256, [(I a0.f0), (.sl true a0.f1.length 4 (a0.f1.flatMap e95))]), (1001026, (x3.flatMap e22))], [2 = 2 ∧ 0 + 2 ≤ 2, COK (hget [(256, [(I a0.f0), (.sl true a0.f1.length 4 (a0.f1.flatMap e95))])]) [(.ag [(I a0.f0), (.sl true a0.f1.length 4 (a0.f1.flatMap e95))]), (.sl true a1.length 2 (a1.flatMap (e66 true)))] ⟨31, [(.ag [(I a0.f0), (.sl true a0.f1.length 4 (a0.f1.flatMap e95))]), (.sl true a1.length 2 (a1.flatMap (e66 true)))], [], (.rf 1024 0 x3.length 5 (x3.length * 5)), [(1024, (x3.flatMap e22))], [], [], [(1001026, 1024)], (.rf 1001026 0 x3.length 5 (x3.length * 5)), [(1001026, (x3.flatMap e22))]⟩, COK (hget [(256, [(I a0.f0), (.sl true a0.f1.length 4 (a0.f1.flatMap e95))]), (1001026, (x3.flatMap e22))]) [(.rf 1001026 0 x3.length 5 (x3.length * 5)), (I a2)] ⟨19, [(.sl true x3.length 5 (x3.flatMap e22)), (I a2)], [], (.tp [(I x4.1), (I x4.2)]), [], [1001026], [], [], (.tp [(I x4.1), (I x4.2)]), []⟩], [⟨31, [(.ag [(I a0.f0), (.sl true a0.f1.length 4 (a0.f1.flatMap e95))]), (.sl true a1.length 2 (a1.flatMap (e66 true)))], [], (.rf 1024 0 x3.length 5 (x3.length * 5)), [(1024, (x3.flatMap e22))], [], [], [(1001026, 1024)], (.rf 1001026 0 x3.length 5 (x3.length * 5)), [(1001026, (x3.flatMap e22))]⟩, ⟨19, [(.sl true x3.length 5 (x3.flatMap e22)), (I a2)], [], (.tp [(I x4.1), (I x4.2)]), [], [1001026], [], [], (.tp [(I x4.1), (I x4.2)]), []⟩]⟩ [c_ 30, c_ 31] (alc ⟨rfl, by decide⟩ (alc (cokW false (a2c (.z (frz_ag (a2c .s (a2c (frz_sl e95_ok (fun h => h)) a2n)))) (a2c (.z (frz_sl (e66_ok true) (fun h => h))) a2n)) akn (akc (.inr rfl) akn) (.rf (memP_mem (p := (1001026, 1024)) rfl)) (akc ⟨_, _, rfl, rfl, rowB e22_c _⟩ akn) (fun h => absurd h (by decide))) (alc (cok0 false (a2c (.z (frz_rf (k := 1001026) e22_ok (by simp) rfl rfl (row_len e22_ok _).symm)) (a2c (.z .s) a2n)) (bck_tp (a2c (.z .s) (a2c (.z .s) a2n))) (fun h => absurd h (by decide))) aln))) (acal (spec_Uses.J k a0 a1 _ hx3) (acal (spec_FirstClash.J k x3 a2 _ hx4) nocal)) ?_
      refine .reg' [6] [] ⟨[(6, (B (decide (x4.1 < 0))))], [(256, [(I a0.f0), (.sl true a0.f1.length 4 (a0.f1.flatMap e95))]), (1001026, (x3.flatMap e22))], [], []⟩ [c_ 31] aln nocal ?_
      have h := Option.some.inj h
      subst h
      exact .fin0 [] (B (decide (x4.1 < 0))) [] aln (.z .s)
    · rw [if_neg c2] at h
      refine .cond' (.tmp 17) true [c_ 52, c_ 53, c_ 7] (bT (nT (vF c2))) ?_
      refine .reg' [6] [] ⟨[(6, (B false))], [(256, [(I a0.f0), (.sl true a0.f1.length 4 (a0.f1.flatMap e95))])], [], []⟩ [c_ 53, c_ 7] aln nocal ?_
      have h := Option.some.inj h
      subst h
      exact .fin0 [] (B false) [] aln (.z .s)
  · rw [if_neg c1] at h
    refine .reg' [1, 2, 3, 17] [.no, .no, .c ⟨25, [(.ag [(I a0.f0), (.sl true a0.f1.length 4 (a0.f1.flatMap e95))]), (.sl true a1.length 2 (a1.flatMap (e66 true)))], [], (B x1), [], [], [], [], (B x1), []⟩, .no, .v (B true)] ⟨[(1, (.sl true a1.length 2 (a1.flatMap (e66 true)))), (2, (I a2)), (3, (.pt 256 0 2)), (17, (B true))], [(256, [(I a0.f0), (.sl true a0.f1.length 4 (a0.f1.flatMap e95))])], [2 = 2 ∧ 0 + 2 ≤ 2, COK (hget [(256, [(I a0.f0), (.sl true a0.f1.length 4 (a0.f1.flatMap e95))])]) [(.ag [(I a0.f0), (.sl true a0.f1.length 4 (a0.f1.flatMap e95))]), (.sl true a1.length 2 (a1.flatMap (e66 true)))] ⟨25, [(.ag [(I a0.f0), (.sl true a0.f1.length 4 (a0.f1.flatMap e95))]), (.sl true a1.length 2 (a1.flatMap (e66 true)))], [], (B x1), [], [], [], [], (B x1), []⟩, (B (!x1) : V) = B true], [⟨25, [(.ag [(I a0.f0), (.sl true a0.f1.length 4 (a0.f1.flatMap e95))]), (.sl true a1.length 2 (a1.flatMap (e66 true)))], [], (B x1), [], [], [], [], (B x1), []⟩]⟩ [c_ 13, c_ 7] (alc ⟨rfl, by decide⟩ (alc (cok0 false (a2c (.z (frz_ag (a2c .s (a2c (frz_sl e95_ok (fun h => h)) a2n)))) (a2c (.z (frz_sl (e66_ok true) (fun h => h))) a2n)) (.z .s) (fun h => absurd h (by decide))) (alc (bT (nT (vF c1))) aln))) (acal (spec_Ridden.J k a0 a1 _ hx1) nocal) ?_
    refine .cond' (.tmp 17) true [c_ 52, c_ 53, c_ 7] (rfl) ?_
    refine .reg' [6] [] ⟨[(6, (B false))], [(256, [(I a0.f0), (.sl true a0.f1.length 4 (a0.f1.flatMap e95))])], [], []⟩ [c_ 53, c_ 7] aln nocal ?_
    have h := Option.some.inj h
    subst h
    exact .fin0 [] (B false) [] aln (.z .s)
/-! spec_Moved: function 74 -/
def spec_Moved.l0 : Nat → S66 → Int → (List S89) → Int → Option S66
 | 0, _, _, _, _ => none
 | k + 1, a0, a1, x3, x4 => (if x4 < (a0.f1.length : Int) then (if 0 ≤ x4 then (if (x3.length + ([(⟨(at_ a0.f1 x4).f0, (wrap64 ((at_ a0.f1 x4).f1 + a1)), (wrap64 ((at_ a0.f1 x4).f2 + a1))⟩ : S89)] : List S89).length) * 24 ≤ 70368744177664 then (spec_Moved.l0 k a0 a1 (x3 ++ ([(⟨(at_ a0.f1 x4).f0, (wrap64 ((at_ a0.f1 x4).f1 + a1)), (wrap64 ((at_ a0.f1 x4).f2 + a1))⟩ : S89)] : List S89)) (wrap64 (x4 + 1))) else none) else none) else ((spec_TripOk.f k (⟨a0.f0, x3⟩ : S66)).bind fun x5 => (if x5 = true then (some (⟨a0.f0, x3⟩ : S66)) else (some (⟨ByteArray.empty, ([] : List S89)⟩ : S66)))))
def spec_Moved.f (k : Nat) (a0 : S66) (a1 : Int) : Option S66 := ((spec_TripOk.f k a0).bind fun x1 => (if x1 = true then ((spec_l01In.f a1 (-100000) 100000).bind fun x2 => (if x2 = true then (spec_Moved.l0 k a0 a1 ([] : List S89) 0) else (some (⟨ByteArray.empty, ([] : List S89)⟩ : S66)))) else (some (⟨ByteArray.empty, ([] : List S89)⟩ : S66))))
theorem spec_Moved.lab : ∀ k, (∀ (a0 : S66) (a1 : Int) (x3 : (List S89)) (x4 : Int) (r : S66), spec_Moved.l0 k a0 a1 x3 x4 = some r → J prog (.run 74 [] [l_ 122, b_ 0, c_ 31] [(1, (I a1)), (2, (.pt 256 0 2)), (4, (.pt 257 0 2)), (5, (.pt 1027 0 2)), (6, (I x4))] [(3016433, (x3.flatMap e89)), (256, [(S a0.f0), (.sl true a0.f1.length 3 (a0.f1.flatMap e89))]), (257, [(S ByteArray.empty), nilS]), (1027, [(S a0.f0), (.rf 3016433 0 x3.length 3 (x3.length * 3))])] (.ag [(S r.f0), (.rf 3016433 0 r.f1.length 3 (r.f1.length * 3))]) [(3016433, (r.f1.flatMap e89))]))
 | 0 => (by intro a0 a1 x3 x4 r h; unfold spec_Moved.l0 at h; cases h)
 | k + 1 => by
  have ih0 := spec_Moved.lab k
  · intro a0 a1 x3 x4 r h
    unfold spec_Moved.l0 at h
    refine .loop' [c_ 976, c_ 977, c_ 489, l_ 122, b_ 0, c_ 31] ?_
    refine .reg' [1, 2, 4, 5, 6, 24] [] ⟨[(1, (I a1)), (2, (.pt 256 0 2)), (4, (.pt 257 0 2)), (5, (.pt 1027 0 2)), (6, (I x4)), (24, (B (decide (x4 < (a0.f1.length : Int)))))], [(3016433, (x3.flatMap e89)), (256, [(S a0.f0), (.sl true a0.f1.length 3 (a0.f1.flatMap e89))]), (257, [(S ByteArray.empty), nilS]), (1027, [(S a0.f0), (.rf 3016433 0 x3.length 3 (x3.length * 3))])], [2 = 2 ∧ 1 + 1 ≤ 2], []⟩ [c_ 977, c_ 489, l_ 122, b_ 0, c_ 31] (alc ⟨rfl, by decide⟩ aln) nocal ?_
    by_cases c3 : x4 < (a0.f1.length : Int)
    · rw [if_pos c3] at h
      refine .cond' (.tmp 24) true [c_ 3912, c_ 3913, b_ 1, c_ 979, l_ 122, b_ 0, c_ 31] (bT (dT c3)) ?_
      by_cases c4 : 0 ≤ x4
      · rw [if_pos c4] at h
        refine .reg' [1, 2, 4, 5, 6, 7] [.no, .no, .no, .no, .v (.ag [(I (at_ a0.f1 x4).f0), (I (at_ a0.f1 x4).f1), (I (at_ a0.f1 x4).f2)])] ⟨[(1, (I a1)), (2, (.pt 256 0 2)), (4, (.pt 257 0 2)), (5, (.pt 1027 0 2)), (6, (I x4)), (7, (.pt 2053 0 3))], [(3016433, (x3.flatMap e89)), (256, [(S a0.f0), (.sl true a0.f1.length 3 (a0.f1.flatMap e89))]), (257, [(S ByteArray.empty), nilS]), (1027, [(S a0.f0), (.rf 3016433 0 x3.length 3 (x3.length * 3))]), (2053, [(I (at_ a0.f1 x4).f0), (I (at_ a0.f1 x4).f1), (I (at_ a0.f1 x4).f2)])], [2 = 2 ∧ 1 + 1 ≤ 2, (0 : Int) ≤ x4 ∧ x4 < (a0.f1.length : Int), rdC prog 90 ((a0.f1.flatMap e89).drop (x4.toNat * 3)) = (.ag [(I (at_ a0.f1 x4).f0), (I (at_ a0.f1 x4).f1), (I (at_ a0.f1 x4).f2)]), 3 ≤ ((a0.f1.flatMap e89).drop (x4.toNat * 3)).length, 3 = 3 ∧ 0 + 3 ≤ 3], []⟩ [c_ 3913, b_ 1, c_ 979, l_ 122, b_ 0, c_ 31] (alc ⟨rfl, by decide⟩ (alc ⟨c4, c3⟩ (alc (ldA e89_ok rfl rfl c4 c3) (alc (okI e89_ok c4 c3 (by decide)) (alc ⟨rfl, by decide⟩ aln))))) nocal ?_
        by_cases c5 : (x3.length + ([(⟨(at_ a0.f1 x4).f0, (wrap64 ((at_ a0.f1 x4).f1 + a1)), (wrap64 ((at_ a0.f1 x4).f2 + a1))⟩ : S89)] : List S89).length) * 24 ≤ 70368744177664
        · rw [if_pos c5] at h
          refine .reg' [1, 2, 4, 5, 6] [.no, .no, .no, .no, .no, .no, .no, .no, .no, .no, .no, .no, .no, .no, .w (.rf 3016433 0 ((x3 ++ ([(⟨(at_ a0.f1 x4).f0, (wrap64 ((at_ a0.f1 x4).f1 + a1)), (wrap64 ((at_ a0.f1 x4).f2 + a1))⟩ : S89)] : List S89)).length) 3 ((x3 ++ ([(⟨(at_ a0.f1 x4).f0, (wrap64 ((at_ a0.f1 x4).f1 + a1)), (wrap64 ((at_ a0.f1 x4).f2 + a1))⟩ : S89)] : List S89)).length * 3)) ((x3 ++ ([(⟨(at_ a0.f1 x4).f0, (wrap64 ((at_ a0.f1 x4).f1 + a1)), (wrap64 ((at_ a0.f1 x4).f2 + a1))⟩ : S89)] : List S89)).flatMap e89)] ⟨[(1, (I a1)), (2, (.pt 256 0 2)), (4, (.pt 257 0 2)), (5, (.pt 1027 0 2)), (6, (I x4))], [(3016433, ((x3 ++ ([(⟨(at_ a0.f1 x4).f0, (wrap64 ((at_ a0.f1 x4).f1 + a1)), (wrap64 ((at_ a0.f1 x4).f2 + a1))⟩ : S89)] : List S89)).flatMap e89)), (256, [(S a0.f0), (.sl true a0.f1.length 3 (a0.f1.flatMap e89))]), (257, [(S ByteArray.empty), nilS]), (1027, [(S a0.f0), (.rf 3016433 0 ((x3 ++ ([(⟨(at_ a0.f1 x4).f0, (wrap64 ((at_ a0.f1 x4).f1 + a1)), (wrap64 ((at_ a0.f1 x4).f2 + a1))⟩ : S89)] : List S89)).length) 3 ((x3 ++ ([(⟨(at_ a0.f1 x4).f0, (wrap64 ((at_ a0.f1 x4).f1 + a1)), (wrap64 ((at_ a0.f1 x4).f2 + a1))⟩ : S89)] : List S89)).length * 3))]), (2053, [(I (at_ a0.f1 x4).f0), (I (at_ a0.f1 x4).f1), (I (at_ a0.f1 x4).f2)]), (2317, (([(⟨(at_ a0.f1 x4).f0, (wrap64 ((at_ a0.f1 x4).f1 + a1)), (wrap64 ((at_ a0.f1 x4).f2 + a1))⟩ : S89)] : List S89).flatMap e89))], [2 = 2 ∧ 1 + 1 ≤ 2, 3 = 3 ∧ 0 + 1 ≤ 3, 3 = 3 ∧ 1 + 1 ≤ 3, 3 = 3 ∧ 2 + 1 ≤ 3, V.rf 3016433 0 (x3.length + ([(⟨(at_ a0.f1 x4).f0, (wrap64 ((at_ a0.f1 x4).f1 + a1)), (wrap64 ((at_ a0.f1 x4).f2 + a1))⟩ : S89)] : List S89).length) 3 (x3.length * 3 + ([(⟨(at_ a0.f1 x4).f0, (wrap64 ((at_ a0.f1 x4).f1 + a1)), (wrap64 ((at_ a0.f1 x4).f2 + a1))⟩ : S89)] : List S89).length * 3) = (.rf 3016433 0 ((x3 ++ ([(⟨(at_ a0.f1 x4).f0, (wrap64 ((at_ a0.f1 x4).f1 + a1)), (wrap64 ((at_ a0.f1 x4).f2 + a1))⟩ : S89)] : List S89)).length) 3 ((x3 ++ ([(⟨(at_ a0.f1 x4).f0, (wrap64 ((at_ a0.f1 x4).f1 + a1)), (wrap64 ((at_ a0.f1 x4).f2 + a1))⟩ : S89)] : List S89)).length * 3)), x3.flatMap e89 ++ (((([(⟨(at_ a0.f1 x4).f0, (wrap64 ((at_ a0.f1 x4).f1 + a1)), (wrap64 ((at_ a0.f1 x4).f2 + a1))⟩ : S89)] : List S89).flatMap e89).drop 0).take (([(⟨(at_ a0.f1 x4).f0, (wrap64 ((at_ a0.f1 x4).f1 + a1)), (wrap64 ((at_ a0.f1 x4).f2 + a1))⟩ : S89)] : List S89).length * 3)) = ((x3 ++ ([(⟨(at_ a0.f1 x4).f0, (wrap64 ((at_ a0.f1 x4).f1 + a1)), (wrap64 ((at_ a0.f1 x4).f2 + a1))⟩ : S89)] : List S89)).flatMap e89), (([(⟨(at_ a0.f1 x4).f0, (wrap64 ((at_ a0.f1 x4).f1 + a1)), (wrap64 ((at_ a0.f1 x4).f2 + a1))⟩ : S89)] : List S89).length * 3 = (([(⟨(at_ a0.f1 x4).f0, (wrap64 ((at_ a0.f1 x4).f1 + a1)), (wrap64 ((at_ a0.f1 x4).f2 + a1))⟩ : S89)] : List S89).flatMap e89).length ∧ 0 + ([(⟨(at_ a0.f1 x4).f0, (wrap64 ((at_ a0.f1 x4).f1 + a1)), (wrap64 ((at_ a0.f1 x4).f2 + a1))⟩ : S89)] : List S89).length * 3 ≤ (([(⟨(at_ a0.f1 x4).f0, (wrap64 ((at_ a0.f1 x4).f1 + a1)), (wrap64 ((at_ a0.f1 x4).f2 + a1))⟩ : S89)] : List S89).flatMap e89).length) ∧ x3.length * 3 = (x3.flatMap e89).length ∧ x3.length * 3 = (x3.flatMap e89).length ∧ (x3.length + ([(⟨(at_ a0.f1 x4).f0, (wrap64 ((at_ a0.f1 x4).f1 + a1)), (wrap64 ((at_ a0.f1 x4).f2 + a1))⟩ : S89)] : List S89).length) * 24 ≤ 70368744177664, 2 = 2 ∧ 1 + 1 ≤ 2], []⟩ [c_ 979, l_ 122, b_ 0, c_ 31] (alc ⟨rfl, by decide⟩ (alc ⟨rfl, by decide⟩ (alc ⟨rfl, by decide⟩ (alc ⟨rfl, by decide⟩ (alc (apV rfl) (alc (apR e89_ok rfl) (alc (apO e89_ok rfl c5 rfl) (alc ⟨rfl, by decide⟩ aln)))))))) nocal ?_
          refine .reg' [1, 2, 4, 5, 6] [] ⟨[(1, (I a1)), (2, (.pt 256 0 2)), (4, (.pt 257 0 2)), (5, (.pt 1027 0 2)), (6, (I (wrap64 (x4 + 1))))], [(3016433, ((x3 ++ ([(⟨(at_ a0.f1 x4).f0, (wrap64 ((at_ a0.f1 x4).f1 + a1)), (wrap64 ((at_ a0.f1 x4).f2 + a1))⟩ : S89)] : List S89)).flatMap e89)), (256, [(S a0.f0), (.sl true a0.f1.length 3 (a0.f1.flatMap e89))]), (257, [(S ByteArray.empty), nilS]), (1027, [(S a0.f0), (.rf 3016433 0 ((x3 ++ ([(⟨(at_ a0.f1 x4).f0, (wrap64 ((at_ a0.f1 x4).f1 + a1)), (wrap64 ((at_ a0.f1 x4).f2 + a1))⟩ : S89)] : List S89)).length) 3 ((x3 ++ ([(⟨(at_ a0.f1 x4).f0, (wrap64 ((at_ a0.f1 x4).f1 + a1)), (wrap64 ((at_ a0.f1 x4).f2 + a1))⟩ : S89)] : List S89)).length * 3))]), (2053, [(I (at_ a0.f1 x4).f0), (I (at_ a0.f1 x4).f1), (I (at_ a0.f1 x4).f2)]), (2317, (([(⟨(at_ a0.f1 x4).f0, (wrap64 ((at_ a0.f1 x4).f1 + a1)), (wrap64 ((at_ a0.f1 x4).f2 + a1))⟩ : S89)] : List S89).flatMap e89))], [], []⟩ [l_ 122, b_ 0, c_ 31] aln nocal ?_
          refine .wk' [] [(3016433, 3016433), (256, 256), (257, 257), (1027, 1027)] [(1, (I a1)), (2, (.pt 256 0 2)), (4, (.pt 257 0 2)), (5, (.pt 1027 0 2)), (6, (I (wrap64 (x4 + 1))))] [(3016433, ((x3 ++ ([(⟨(at_ a0.f1 x4).f0, (wrap64 ((at_ a0.f1 x4).f1 + a1)), (wrap64 ((at_ a0.f1 x4).f2 + a1))⟩ : S89)] : List S89)).flatMap e89)), (256, [(S a0.f0), (.sl true a0.f1.length 3 (a0.f1.flatMap e89))]), (257, [(S ByteArray.empty), nilS]), (1027, [(S a0.f0), (.rf 3016433 0 ((x3 ++ ([(⟨(at_ a0.f1 x4).f0, (wrap64 ((at_ a0.f1 x4).f1 + a1)), (wrap64 ((at_ a0.f1 x4).f2 + a1))⟩ : S89)] : List S89)).length) 3 ((x3 ++ ([(⟨(at_ a0.f1 x4).f0, (wrap64 ((at_ a0.f1 x4).f1 + a1)), (wrap64 ((at_ a0.f1 x4).f2 + a1))⟩ : S89)] : List S89)).length * 3))])] (shc 3016433 (rowF e89_ok _) (shc 256 (a2c (.z .s) (a2c (.z (frz_sl e89_ok (fun h => h))) a2n)) (shc 257 (a2c (.z .s) (a2c (.z .s) a2n)) (shc 1027 (a2c (.z .s) (a2c (.rf (memP_mem (p := (3016433, 3016433)) rfl)) a2n)) shn)))) (enc_ (.z .s) (enc_ (.pt (memP_mem (p := (256, 256)) rfl)) (enc_ (.pt (memP_mem (p := (257, 257)) rfl)) (enc_ (.pt (memP_mem (p := (1027, 1027)) rfl)) (enc_ (.z .s) enn))))) ?_
          exact ih0 a0 a1 (x3 ++ ([(⟨(at_ a0.f1 x4).f0, (wrap64 ((at_ a0.f1 x4).f1 + a1)), (wrap64 ((at_ a0.f1 x4).f2 + a1))⟩ : S89)] : List S89)) (wrap64 (x4 + 1)) _ h
        · rw [if_neg c5] at h
          cases h
      · rw [if_neg c4] at h
        cases h
    · rw [if_neg c3] at h
      refine .cond' (.tmp 24) false [c_ 124, c_ 125, c_ 63] (bF (dF c3)) ?_
      obtain ⟨x5, hx5, h⟩ := Option.bind_eq_some_iff.mp h
      refine .reg' [4, 5, 50] [.no, .c ⟨72, [(.ag [(S a0.f0), (.sl true x3.length 3 (x3.flatMap e89))])], [], (B x5), [], [3016433], [], [], (B x5), []⟩] ⟨[(4, (.pt 257 0 2)), (5, (.pt 1027 0 2)), (50, (B (!x5)))], [(3016433, (x3.flatMap e89)), (256, [(S a0.f0), (.sl true a0.f1.length 3 (a0.f1.flatMap e89))]), (257, [(S ByteArray.empty), nilS]), (1027, [(S a0.f0), (.rf 3016433 0 x3.length 3 (x3.length * 3))])], [2 = 2 ∧ 0 + 2 ≤ 2, COK (hget [(3016433, (x3.flatMap e89)), (256, [(S a0.f0), (.sl true a0.f1.length 3 (a0.f1.flatMap e89))]), (257, [(S ByteArray.empty), nilS]), (1027, [(S a0.f0), (.rf 3016433 0 x3.length 3 (x3.length * 3))])]) [(.ag [(S a0.f0), (.rf 3016433 0 x3.length 3 (x3.length * 3))])] ⟨72, [(.ag [(S a0.f0), (.sl true x3.length 3 (x3.flatMap e89))])], [], (B x5), [], [3016433], [], [], (B x5), []⟩], [⟨72, [(.ag [(S a0.f0), (.sl true x3.length 3 (x3.flatMap e89))])], [], (B x5), [], [3016433], [], [], (B x5), []⟩]⟩ [c_ 125, c_ 63] (alc ⟨rfl, by decide⟩ (alc (cok0 false (a2c (cnv_ag (a2c (.z .s) (a2c (.z (frz_rf (k := 3016433) e89_ok (by simp) rfl rfl (row_len e89_ok _).symm)) a2n))) a2n) (.z .s) (fun h => absurd h (by decide))) aln)) (acal (spec_TripOk.J k (⟨a0.f0, x3⟩ : S66) _ hx5) nocal) ?_
      by_cases c6 : x5 = true
      · rw [if_pos c6] at h
        refine .cond' (.tmp 50) false [c_ 126, c_ 127] (bF (nF c6)) ?_
        refine .reg' [4] [] ⟨[(4, (.pt 257 0 2))], [(3016433, (x3.flatMap e89)), (256, [(S a0.f0), (.sl true a0.f1.length 3 (a0.f1.flatMap e89))]), (257, [(S a0.f0), (.rf 3016433 0 x3.length 3 (x3.length * 3))]), (1027, [(S a0.f0), (.rf 3016433 0 x3.length 3 (x3.length * 3))])], [2 = 2 ∧ 0 + 2 ≤ 2, 2 = 2 ∧ 0 + 2 ≤ 2], []⟩ [c_ 127] (alc ⟨rfl, by decide⟩ (alc ⟨rfl, by decide⟩ aln)) nocal ?_
        have h := Option.some.inj h
        subst h
        exact .fin' [] [(3016433, 3016433)] (.ag [(S a0.f0), (.rf 3016433 0 x3.length 3 (x3.length * 3))]) [2 = 2 ∧ 0 + 2 ≤ 2] (alc ⟨rfl, by decide⟩ aln) (shc 3016433 (rowF e89_ok _) shn) (cnv_ag (a2c (.z .s) (a2c (.rf (memP_mem (p := (3016433, 3016433)) rfl)) a2n)))
      · rw [if_neg c6] at h
        refine .cond' (.tmp 50) true [c_ 500, c_ 501, c_ 63] (bT (nT (vF c6))) ?_
        refine .reg' [4] [] ⟨[(4, (.pt 257 0 2))], [(3016433, (x3.flatMap e89)), (256, [(S a0.f0), (.sl true a0.f1.length 3 (a0.f1.flatMap e89))]), (257, [(S ByteArray.empty), nilS]), (1027, [(S a0.f0), (.rf 3016433 0 x3.length 3 (x3.length * 3))])], [2 = 2 ∧ 0 + 2 ≤ 2], []⟩ [c_ 501, c_ 63] (alc ⟨rfl, by decide⟩ aln) nocal ?_
        have h := Option.some.inj h
        subst h
        refine .nl' 3016434 ?_
        exact .fin' [] [(3016434, 3016433)] (.ag [(S ByteArray.empty), nilS]) [2 = 2 ∧ 0 + 2 ≤ 2] (alc ⟨rfl, by decide⟩ aln) (shc 3016434 (rowF e89_ok _) shn) (cnv_ag (a2c (.z .s) (a2c (.nl (memP_mem (p := (3016434, 3016433)) rfl) rfl) a2n)))
theorem spec_Moved.J (k : Nat) (a0 : S66) (a1 : Int) (r : S66) (h : spec_Moved.f k a0 a1 = some r) : J prog (.call 74 [(.ag [(S a0.f0), (.sl true a0.f1.length 3 (a0.f1.flatMap e89))]), (I a1)] [] (.ag [(S r.f0), (.rf 3016433 0 r.f1.length 3 (r.f1.length * 3))]) [(3016433, (r.f1.flatMap e89))]) := by
  unfold spec_Moved.f at h
  have ih0 := spec_Moved.lab k
  refine .call' [c_ 2, c_ 3] ?_
  refine .reg' [1, 2, 4] [] ⟨[(1, (I a1)), (2, (.pt 256 0 2)), (4, (.pt 257 0 2))], [(256, [(S a0.f0), (.sl true a0.f1.length 3 (a0.f1.flatMap e89))]), (257, [(S ByteArray.empty), nilS])], [], []⟩ [c_ 12, c_ 13, c_ 7] aln nocal ?_
  obtain ⟨x1, hx1, h⟩ := Option.bind_eq_some_iff.mp h
  by_cases c1 : x1 = true
  · rw [if_pos c1] at h
    obtain ⟨x2, hx2, h⟩ := Option.bind_eq_some_iff.mp h
    refine .reg' [1, 2, 4, 15] [.no, .c ⟨72, [(.ag [(S a0.f0), (.sl true a0.f1.length 3 (a0.f1.flatMap e89))])], [], (B x1), [], [], [], [], (B x1), []⟩, .no, .v (B false), .no, .c ⟨57, [(I a1), (I (-100000)), (I 100000)], [], (B x2), [], [], [], [], (B x2), []⟩] ⟨[(1, (I a1)), (2, (.pt 256 0 2)), (4, (.pt 257 0 2)), (15, (B (!x2)))], [(256, [(S a0.f0), (.sl true a0.f1.length 3 (a0.f1.flatMap e89))]), (257, [(S ByteArray.empty), nilS])], [2 = 2 ∧ 0 + 2 ≤ 2, COK (hget [(256, [(S a0.f0), (.sl true a0.f1.length 3 (a0.f1.flatMap e89))]), (257, [(S ByteArray.empty), nilS])]) [(.ag [(S a0.f0), (.sl true a0.f1.length 3 (a0.f1.flatMap e89))])] ⟨72, [(.ag [(S a0.f0), (.sl true a0.f1.length 3 (a0.f1.flatMap e89))])], [], (B x1), [], [], [], [], (B x1), []⟩, (B (!x1) : V) = B false, COK (hget [(256, [(S a0.f0), (.sl true a0.f1.length 3 (a0.f1.flatMap e89))]), (257, [(S ByteArray.empty), nilS])]) [(I a1), (I (-100000)), (I 100000)] ⟨57, [(I a1), (I (-100000)), (I 100000)], [], (B x2), [], [], [], [], (B x2), []⟩], [⟨72, [(.ag [(S a0.f0), (.sl true a0.f1.length 3 (a0.f1.flatMap e89))])], [], (B x1), [], [], [], [], (B x1), []⟩, ⟨57, [(I a1), (I (-100000)), (I 100000)], [], (B x2), [], [], [], [], (B x2), []⟩]⟩ [c_ 13, c_ 7] (alc ⟨rfl, by decide⟩ (alc (cok0 false (a2c (.z (frz_ag (a2c .s (a2c (frz_sl e89_ok (fun h => h)) a2n)))) a2n) (.z .s) (fun h => absurd h (by decide))) (alc (bF (nF c1)) (alc (cok0 false (a2c (.z .s) (a2c (.z .s) (a2c (.z .s) a2n))) (.z .s) (fun h => absurd h (by decide))) aln)))) (acal (spec_TripOk.J k a0 _ hx1) (acal (spec_l01In.J a1 (-100000) 100000 _ hx2) nocal)) ?_
    by_cases c2 : x2 = true
    · rw [if_pos c2] at h
      refine .cond' (.tmp 15) false [c_ 14, c_ 15] (bF (nF c2)) ?_
      refine .reg' [1, 2, 4, 5] [] ⟨[(1, (I a1)), (2, (.pt 256 0 2)), (4, (.pt 257 0 2)), (5, (.pt 1027 0 2))], [(256, [(S a0.f0), (.sl true a0.f1.length 3 (a0.f1.flatMap e89))]), (257, [(S ByteArray.empty), nilS]), (1027, [(S a0.f0), nilS])], [2 = 2 ∧ 0 + 1 ≤ 2, 2 = 2 ∧ 0 + 2 ≤ 2], []⟩ [c_ 60, c_ 61, c_ 31] (alc ⟨rfl, by decide⟩ (alc ⟨rfl, by decide⟩ aln)) nocal ?_
      refine .reg' [1, 2, 4, 5, 6] [] ⟨[(1, (I a1)), (2, (.pt 256 0 2)), (4, (.pt 257 0 2)), (5, (.pt 1027 0 2)), (6, (I 0))], [(256, [(S a0.f0), (.sl true a0.f1.length 3 (a0.f1.flatMap e89))]), (257, [(S ByteArray.empty), nilS]), (1027, [(S a0.f0), nilS])], [], []⟩ [l_ 122, b_ 0, c_ 31] aln nocal ?_
      refine .nl' 3016433 ?_
      refine .wk' [] [(3016433, 3016433), (256, 256), (257, 257), (1027, 1027)] [(1, (I a1)), (2, (.pt 256 0 2)), (4, (.pt 257 0 2)), (5, (.pt 1027 0 2)), (6, (I 0))] [(3016433, (([] : List S89).flatMap e89)), (256, [(S a0.f0), (.sl true a0.f1.length 3 (a0.f1.flatMap e89))]), (257, [(S ByteArray.empty), nilS]), (1027, [(S a0.f0), (.rf 3016433 0 (([] : List S89).length) 3 (([] : List S89).length * 3))])] (shc 3016433 (rowF e89_ok _) (shc 256 (a2c (.z .s) (a2c (.z (frz_sl e89_ok (fun h => h))) a2n)) (shc 257 (a2c (.z .s) (a2c (.z .s) a2n)) (shc 1027 (a2c (.z .s) (a2c (.nl (memP_mem (p := (3016433, 3016433)) rfl) rfl) a2n)) shn)))) (enc_ (.z .s) (enc_ (.pt (memP_mem (p := (256, 256)) rfl)) (enc_ (.pt (memP_mem (p := (257, 257)) rfl)) (enc_ (.pt (memP_mem (p := (1027, 1027)) rfl)) (enc_ (.z .s) enn))))) ?_
      exact ih0 a0 a1 ([] : List S89) 0 _ h
    · rw [if_neg c2] at h
      refine .cond' (.tmp 15) true [c_ 52, c_ 53, c_ 7] (bT (nT (vF c2))) ?_
      refine .reg' [4] [] ⟨[(4, (.pt 257 0 2))], [(256, [(S a0.f0), (.sl true a0.f1.length 3 (a0.f1.flatMap e89))]), (257, [(S ByteArray.empty), nilS])], [2 = 2 ∧ 0 + 2 ≤ 2], []⟩ [c_ 53, c_ 7] (alc ⟨rfl, by decide⟩ aln) nocal ?_
      have h := Option.some.inj h
      subst h
      refine .nl' 3016433 ?_
      exact .fin' [] [(3016433, 3016433)] (.ag [(S ByteArray.empty), nilS]) [2 = 2 ∧ 0 + 2 ≤ 2] (alc ⟨rfl, by decide⟩ aln) (shc 3016433 (rowF e89_ok _) shn) (cnv_ag (a2c (.z .s) (a2c (.nl (memP_mem (p := (3016433, 3016433)) rfl) rfl) a2n)))
  · rw [if_neg c1] at h
    refine .reg' [1, 2, 4, 15] [.no, .c ⟨72, [(.ag [(S a0.f0), (.sl true a0.f1.length 3 (a0.f1.flatMap e89))])], [], (B x1), [], [], [], [], (B x1), []⟩, .no, .v (B true)] ⟨[(1, (I a1)), (2, (.pt 256 0 2)), (4, (.pt 257 0 2)), (15, (B true))], [(256, [(S a0.f0), (.sl true a0.f1.length 3 (a0.f1.flatMap e89))]), (257, [(S ByteArray.empty), nilS])], [2 = 2 ∧ 0 + 2 ≤ 2, COK (hget [(256, [(S a0.f0), (.sl true a0.f1.length 3 (a0.f1.flatMap e89))]), (257, [(S ByteArray.empty), nilS])]) [(.ag [(S a0.f0), (.sl true a0.f1.length 3 (a0.f1.flatMap e89))])] ⟨72, [(.ag [(S a0.f0), (.sl true a0.f1.length 3 (a0.f1.flatMap e89))])], [], (B x1), [], [], [], [], (B x1), []⟩, (B (!x1) : V) = B true], [⟨72, [(.ag [(S a0.f0), (.sl true a0.f1.length 3 (a0.f1.flatMap e89))])], [], (B x1), [], [], [], [], (B x1), []⟩]⟩ [c_ 13, c_ 7] (alc ⟨rfl, by decide⟩ (alc (cok0 false (a2c (.z (frz_ag (a2c .s (a2c (frz_sl e89_ok (fun h => h)) a2n)))) a2n) (.z .s) (fun h => absurd h (by decide))) (alc (bT (nT (vF c1))) aln))) (acal (spec_TripOk.J k a0 _ hx1) nocal) ?_
    refine .cond' (.tmp 15) true [c_ 52, c_ 53, c_ 7] (rfl) ?_
    refine .reg' [4] [] ⟨[(4, (.pt 257 0 2))], [(256, [(S a0.f0), (.sl true a0.f1.length 3 (a0.f1.flatMap e89))]), (257, [(S ByteArray.empty), nilS])], [2 = 2 ∧ 0 + 2 ≤ 2], []⟩ [c_ 53, c_ 7] (alc ⟨rfl, by decide⟩ aln) nocal ?_
    have h := Option.some.inj h
    subst h
    refine .nl' 3016433 ?_
    exact .fin' [] [(3016433, 3016433)] (.ag [(S ByteArray.empty), nilS]) [2 = 2 ∧ 0 + 2 ≤ 2] (alc ⟨rfl, by decide⟩ aln) (shc 3016433 (rowF e89_ok _) shn) (cnv_ag (a2c (.z .s) (a2c (.nl (memP_mem (p := (3016433, 3016433)) rfl) rfl) a2n)))
/-! spec_l09With: function 73 -/
def spec_l09With.l0 : Nat → (List S66) → S66 → (List S66) → Int → Option (List S66)
 | 0, _, _, _, _ => none
 | k + 1, a0, a1, x1, x2 => (if x2 < (a0.length : Int) then (if 0 ≤ x2 then (if (x1.length + ([(at_ a0 x2)] : List S66).length) * 40 ≤ 70368744177664 then (spec_l09With.l0 k a0 a1 (x1 ++ ([(at_ a0 x2)] : List S66)) (wrap64 (x2 + 1))) else none) else none) else (if (x1.length + ([a1] : List S66).length) * 40 ≤ 70368744177664 then (some (x1 ++ ([a1] : List S66))) else none))
def spec_l09With.f (k : Nat) (a0 : (List S66)) (a1 : S66) : Option (List S66) := (spec_l09With.l0 k a0 a1 ([] : List S66) 0)
theorem spec_l09With.lab : ∀ k, (∀ (a0 : (List S66)) (a1 : S66) (x1 : (List S66)) (x2 : Int) (r : (List S66)), spec_l09With.l0 k a0 a1 x1 x2 = some r → J prog (.run 73 [] [l_ 58, b_ 0, c_ 15] [(0, (.sl false a0.length 2 (a0.flatMap (e66 false)))), (3, (.pt 256 0 2)), (5, (.rf 512 0 x1.length 2 (x1.length * 2))), (6, (I x2))] [(256, [(S a1.f0), (.sl false a1.f1.length 3 (a1.f1.flatMap e89))]), (512, (x1.flatMap (e66 false)))] (.rf 512 0 r.length 2 (r.length * 2)) [(512, (r.flatMap (e66 false)))]))
 | 0 => (by intro a0 a1 x1 x2 r h; unfold spec_l09With.l0 at h; cases h)
 | k + 1 => by
  have ih0 := spec_l09With.lab k
  · intro a0 a1 x1 x2 r h
    unfold spec_l09With.l0 at h
    refine .loop' [c_ 464, c_ 465, c_ 233, l_ 58, b_ 0, c_ 15] ?_
    refine .reg' [0, 3, 5, 6, 11] [] ⟨[(0, (.sl false a0.length 2 (a0.flatMap (e66 false)))), (3, (.pt 256 0 2)), (5, (.rf 512 0 x1.length 2 (x1.length * 2))), (6, (I x2)), (11, (B (decide (x2 < (a0.length : Int)))))], [(256, [(S a1.f0), (.sl false a1.f1.length 3 (a1.f1.flatMap e89))]), (512, (x1.flatMap (e66 false)))], [], []⟩ [c_ 465, c_ 233, l_ 58, b_ 0, c_ 15] aln nocal ?_
    by_cases c1 : x2 < (a0.length : Int)
    · rw [if_pos c1] at h
      refine .cond' (.tmp 11) true [c_ 932, b_ 1, c_ 467, l_ 58, b_ 0, c_ 15] (bT (dT c1)) ?_
      by_cases c2 : 0 ≤ x2
      · rw [if_pos c2] at h
        by_cases c3 : (x1.length + ([(at_ a0 x2)] : List S66).length) * 40 ≤ 70368744177664
        · rw [if_pos c3] at h
          refine .reg' [0, 3, 5, 6] [.no, .no, .no, .no, .v (.ag [(S (at_ a0 x2).f0), (.sl false (at_ a0 x2).f1.length 3 ((at_ a0 x2).f1.flatMap e89))]), .no, .w (.rf 512 0 ((x1 ++ ([(at_ a0 x2)] : List S66)).length) 2 ((x1 ++ ([(at_ a0 x2)] : List S66)).length * 2)) ((x1 ++ ([(at_ a0 x2)] : List S66)).flatMap (e66 false))] ⟨[(0, (.sl false a0.length 2 (a0.flatMap (e66 false)))), (3, (.pt 256 0 2)), (5, (.rf 512 0 ((x1 ++ ([(at_ a0 x2)] : List S66)).length) 2 ((x1 ++ ([(at_ a0 x2)] : List S66)).length * 2))), (6, (I x2))], [(256, [(S a1.f0), (.sl false a1.f1.length 3 (a1.f1.flatMap e89))]), (512, ((x1 ++ ([(at_ a0 x2)] : List S66)).flatMap (e66 false))), (1541, (([(at_ a0 x2)] : List S66).flatMap (e66 false)))], [(0 : Int) ≤ x2 ∧ x2 < (a0.length : Int), rdC prog 67 ((a0.flatMap (e66 false)).drop (x2.toNat * 2)) = (.ag [(S (at_ a0 x2).f0), (.sl false (at_ a0 x2).f1.length 3 ((at_ a0 x2).f1.flatMap e89))]), 2 ≤ ((a0.flatMap (e66 false)).drop (x2.toNat * 2)).length, V.rf 512 0 (x1.length + ([(at_ a0 x2)] : List S66).length) 2 (x1.length * 2 + ([(at_ a0 x2)] : List S66).length * 2) = (.rf 512 0 ((x1 ++ ([(at_ a0 x2)] : List S66)).length) 2 ((x1 ++ ([(at_ a0 x2)] : List S66)).length * 2)), x1.flatMap (e66 false) ++ (((([(at_ a0 x2)] : List S66).flatMap (e66 false)).drop 0).take (([(at_ a0 x2)] : List S66).length * 2)) = ((x1 ++ ([(at_ a0 x2)] : List S66)).flatMap (e66 false)), (([(at_ a0 x2)] : List S66).length * 2 = (([(at_ a0 x2)] : List S66).flatMap (e66 false)).length ∧ 0 + ([(at_ a0 x2)] : List S66).length * 2 ≤ (([(at_ a0 x2)] : List S66).flatMap (e66 false)).length) ∧ x1.length * 2 = (x1.flatMap (e66 false)).length ∧ x1.length * 2 = (x1.flatMap (e66 false)).length ∧ (x1.length + ([(at_ a0 x2)] : List S66).length) * 40 ≤ 70368744177664], []⟩ [c_ 467, l_ 58, b_ 0, c_ 15] (alc ⟨c2, c1⟩ (alc (ldA (e66_ok false) rfl rfl c2 c1) (alc (okI (e66_ok false) c2 c1 (by decide)) (alc (apV rfl) (alc (apR (e66_ok false) rfl) (alc (apO (e66_ok false) rfl c3 rfl) aln)))))) nocal ?_
          refine .reg' [0, 3, 5, 6] [] ⟨[(0, (.sl false a0.length 2 (a0.flatMap (e66 false)))), (3, (.pt 256 0 2)), (5, (.rf 512 0 ((x1 ++ ([(at_ a0 x2)] : List S66)).length) 2 ((x1 ++ ([(at_ a0 x2)] : List S66)).length * 2))), (6, (I (wrap64 (x2 + 1))))], [(256, [(S a1.f0), (.sl false a1.f1.length 3 (a1.f1.flatMap e89))]), (512, ((x1 ++ ([(at_ a0 x2)] : List S66)).flatMap (e66 false))), (1541, (([(at_ a0 x2)] : List S66).flatMap (e66 false)))], [], []⟩ [l_ 58, b_ 0, c_ 15] aln nocal ?_
          refine .wk' [] [(256, 256), (512, 512)] [(0, (.sl false a0.length 2 (a0.flatMap (e66 false)))), (3, (.pt 256 0 2)), (5, (.rf 512 0 ((x1 ++ ([(at_ a0 x2)] : List S66)).length) 2 ((x1 ++ ([(at_ a0 x2)] : List S66)).length * 2))), (6, (I (wrap64 (x2 + 1))))] [(256, [(S a1.f0), (.sl false a1.f1.length 3 (a1.f1.flatMap e89))]), (512, ((x1 ++ ([(at_ a0 x2)] : List S66)).flatMap (e66 false)))] (shc 256 (a2c (.z .s) (a2c (.z (frz_sl e89_ok (fun h => h))) a2n)) (shc 512 (rowF (e66_ok false) _) shn)) (enc_ (.z (frz_sl (e66_ok false) (fun h => h))) (enc_ (.pt (memP_mem (p := (256, 256)) rfl)) (enc_ (.rf (memP_mem (p := (512, 512)) rfl)) (enc_ (.z .s) enn)))) ?_
          exact ih0 a0 a1 (x1 ++ ([(at_ a0 x2)] : List S66)) (wrap64 (x2 + 1)) _ h
        · rw [if_neg c3] at h
          cases h
      · rw [if_neg c2] at h
        cases h
    · rw [if_neg c1] at h
      refine .cond' (.tmp 11) false [c_ 30, c_ 31] (bF (dF c1)) ?_
      by_cases c4 : (x1.length + ([a1] : List S66).length) * 40 ≤ 70368744177664
      · rw [if_pos c4] at h
        refine .reg' [4] [.no, .no, .no, .w (.rf 512 0 ((x1 ++ ([a1] : List S66)).length) 2 ((x1 ++ ([a1] : List S66)).length * 2)) ((x1 ++ ([a1] : List S66)).flatMap (e66 false))] ⟨[(4, (.rf 512 0 ((x1 ++ ([a1] : List S66)).length) 2 ((x1 ++ ([a1] : List S66)).length * 2)))], [(256, [(S a1.f0), (.sl false a1.f1.length 3 (a1.f1.flatMap e89))]), (512, ((x1 ++ ([a1] : List S66)).flatMap (e66 false))), (1794, (([a1] : List S66).flatMap (e66 false)))], [2 = 2 ∧ 0 + 2 ≤ 2, V.rf 512 0 (x1.length + ([a1] : List S66).length) 2 (x1.length * 2 + ([a1] : List S66).length * 2) = (.rf 512 0 ((x1 ++ ([a1] : List S66)).length) 2 ((x1 ++ ([a1] : List S66)).length * 2)), x1.flatMap (e66 false) ++ (((([a1] : List S66).flatMap (e66 false)).drop 0).take (([a1] : List S66).length * 2)) = ((x1 ++ ([a1] : List S66)).flatMap (e66 false)), (([a1] : List S66).length * 2 = (([a1] : List S66).flatMap (e66 false)).length ∧ 0 + ([a1] : List S66).length * 2 ≤ (([a1] : List S66).flatMap (e66 false)).length) ∧ x1.length * 2 = (x1.flatMap (e66 false)).length ∧ x1.length * 2 = (x1.flatMap (e66 false)).length ∧ (x1.length + ([a1] : List S66).length) * 40 ≤ 70368744177664], []⟩ [c_ 31] (alc ⟨rfl, by decide⟩ (alc (apV rfl) (alc (apR (e66_ok false) rfl) (alc (apO (e66_ok false) rfl c4 rfl) aln)))) nocal ?_
        have h := Option.some.inj h
        subst h
        exact .fin' [] [(512, 512)] (.rf 512 0 ((x1 ++ ([a1] : List S66)).length) 2 ((x1 ++ ([a1] : List S66)).length * 2)) [] aln (shc 512 (rowF (e66_ok false) _) shn) (.rf (memP_mem (p := (512, 512)) rfl))
      · rw [if_neg c4] at h
        cases h
theorem spec_l09With.J (k : Nat) (a0 : (List S66)) (a1 : S66) (r : (List S66)) (h : spec_l09With.f k a0 a1 = some r) : J prog (.call 73 [(.sl false a0.length 2 (a0.flatMap (e66 false))), (.ag [(S a1.f0), (.sl false a1.f1.length 3 (a1.f1.flatMap e89))])] [] (.rf 512 0 r.length 2 (r.length * 2)) [(512, (r.flatMap (e66 false)))]) := by
  unfold spec_l09With.f at h
  have ih0 := spec_l09With.lab k
  refine .call' [c_ 2, c_ 3] ?_
  refine .reg' [0, 3] [] ⟨[(0, (.sl false a0.length 2 (a0.flatMap (e66 false)))), (3, (.pt 256 0 2))], [(256, [(S a1.f0), (.sl false a1.f1.length 3 (a1.f1.flatMap e89))])], [], []⟩ [c_ 6, c_ 7] aln nocal ?_
  refine .reg' [0, 3, 5] [] ⟨[(0, (.sl false a0.length 2 (a0.flatMap (e66 false)))), (3, (.pt 256 0 2)), (5, (.rf 512 0 (([] : List S66).length) 2 (([] : List S66).length * 2)))], [(256, [(S a1.f0), (.sl false a1.f1.length 3 (a1.f1.flatMap e89))]), (512, (([] : List S66).flatMap (e66 false)))], [], []⟩ [c_ 28, c_ 29, c_ 15] aln nocal ?_
  refine .reg' [0, 3, 5, 6] [] ⟨[(0, (.sl false a0.length 2 (a0.flatMap (e66 false)))), (3, (.pt 256 0 2)), (5, (.rf 512 0 (([] : List S66).length) 2 (([] : List S66).length * 2))), (6, (I 0))], [(256, [(S a1.f0), (.sl false a1.f1.length 3 (a1.f1.flatMap e89))]), (512, (([] : List S66).flatMap (e66 false)))], [], []⟩ [l_ 58, b_ 0, c_ 15] aln nocal ?_
  exact ih0 a0 a1 ([] : List S66) 0 _ h
/-! spec_PushOf: function 40 -/
def spec_PushOf.l0 : Nat → S46 → (List S66) → S66 → Int → Int → Option Int
 | 0, _, _, _, _, _ => none
 | k + 1, a0, a1, a2, a3, x4 => (if x4 ≤ 120 then ((spec_Moved.f k a2 x4).bind fun x5 => ((spec_l09With.f k a1 x5).bind fun x6 => ((spec_Clean.f k a0 x6 a3).bind fun x7 => (if x7 = true then (some x4) else (spec_PushOf.l0 k a0 a1 a2 a3 (wrap64 (x4 + 1))))))) else (some (-1)))
def spec_PushOf.f (k : Nat) (a0 : S46) (a1 : (List S66)) (a2 : S66) (a3 : Int) : Option Int := ((spec_Ridden.f k a0 a1).bind fun x1 => (if x1 = true then ((spec_TripOk.f k a2).bind fun x2 => (if x2 = true then ((spec_Clean.f k a0 a1 a3).bind fun x3 => (if x3 = true then (spec_PushOf.l0 k a0 a1 a2 a3 0) else (some (-1)))) else (some (-1)))) else (some (-1))))
end Go.Proofs.Ytebgaiokpncacaa.Fns
