/- The functions that the law FnExactUses reaches, by the engine. Printed by a program of this seat. -/
import Derived.Test.YtebgaiokpncacaaE5
import Derived.Test.YtebgaiokpncacaaProg
import Derived.Test.YtebgaiokpncacaaFFnExactUsesx1
namespace Go.Proofs.Ytebgaiokpncacaa.Fns
open Go.Proofs.Try Go.Proofs.Ytebgaiokpncacaa.Eng Go.RowKit
set_option maxRecDepth 100000
set_option linter.unusedVariables false
set_option linter.unusedSimpArgs false
theorem spec_Uses.J (k : Nat) (a0 : S46) (a1 : (List S66)) (r : (List S22)) (h : spec_Uses.f k a0 a1 = some r) : J prog (.call 31 [(.ag [(I a0.f0), (.sl true a0.f1.length 4 (a0.f1.flatMap e95))]), (.sl true a1.length 2 (a1.flatMap (e66 true)))] [] (.rf 1024 0 r.length 5 (r.length * 5)) [(1024, (r.flatMap e22))]) := by
  unfold spec_Uses.f at h
  obtain ⟨ih0, ih1⟩ := spec_Uses.lab k
  refine .call' [c_ 2, c_ 3] ?_
  refine .reg' [1, 2] [] ⟨[(1, (.sl true a1.length 2 (a1.flatMap (e66 true)))), (2, (.pt 256 0 2))], [(256, [(I a0.f0), (.sl true a0.f1.length 4 (a0.f1.flatMap e95))])], [], []⟩ [c_ 12, c_ 13, c_ 7] aln nocal ?_
  obtain ⟨x1, hx1, h⟩ := Option.bind_eq_some_iff.mp h
  refine .reg' [1, 2, 14] [.no, .no, .c ⟨25, [(.ag [(I a0.f0), (.sl true a0.f1.length 4 (a0.f1.flatMap e95))]), (.sl true a1.length 2 (a1.flatMap (e66 true)))], [], (B x1), [], [], [], [], (B x1), []⟩] ⟨[(1, (.sl true a1.length 2 (a1.flatMap (e66 true)))), (2, (.pt 256 0 2)), (14, (B (!x1)))], [(256, [(I a0.f0), (.sl true a0.f1.length 4 (a0.f1.flatMap e95))])], [2 = 2 ∧ 0 + 2 ≤ 2, COK (hget [(256, [(I a0.f0), (.sl true a0.f1.length 4 (a0.f1.flatMap e95))])]) [(.ag [(I a0.f0), (.sl true a0.f1.length 4 (a0.f1.flatMap e95))]), (.sl true a1.length 2 (a1.flatMap (e66 true)))] ⟨25, [(.ag [(I a0.f0), (.sl true a0.f1.length 4 (a0.f1.flatMap e95))]), (.sl true a1.length 2 (a1.flatMap (e66 true)))], [], (B x1), [], [], [], [], (B x1), []⟩], [⟨25, [(.ag [(I a0.f0), (.sl true a0.f1.length 4 (a0.f1.flatMap e95))]), (.sl true a1.length 2 (a1.flatMap (e66 true)))], [], (B x1), [], [], [], [], (B x1), []⟩]⟩ [c_ 13, c_ 7] (alc ⟨rfl, by decide⟩ (alc (cok0 false (a2c (.z (frz_ag (a2c .s (a2c (frz_sl e95_ok (fun h => h)) a2n)))) (a2c (.z (frz_sl (e66_ok true) (fun h => h))) a2n)) (.z .s) (fun h => absurd h (by decide))) aln)) (acal (spec_Ridden.J k a0 a1 _ hx1) nocal) ?_
  by_cases c1 : x1 = true
  · rw [if_pos c1] at h
    refine .cond' (.tmp 14) false [c_ 14, c_ 15] (bF (nF c1)) ?_
    refine .reg' [1, 2, 5] [] ⟨[(1, (.sl true a1.length 2 (a1.flatMap (e66 true)))), (2, (.pt 256 0 2)), (5, (.rf 1024 0 (([] : List S22).length) 5 (([] : List S22).length * 5)))], [(256, [(I a0.f0), (.sl true a0.f1.length 4 (a0.f1.flatMap e95))]), (1024, (([] : List S22).flatMap e22))], [], []⟩ [c_ 60, c_ 61, c_ 31] aln nocal ?_
    refine .reg' [1, 2, 5, 6] [] ⟨[(1, (.sl true a1.length 2 (a1.flatMap (e66 true)))), (2, (.pt 256 0 2)), (5, (.rf 1024 0 (([] : List S22).length) 5 (([] : List S22).length * 5))), (6, (I 0))], [(256, [(I a0.f0), (.sl true a0.f1.length 4 (a0.f1.flatMap e95))]), (1024, (([] : List S22).flatMap e22))], [], []⟩ [l_ 122, b_ 0, c_ 31] aln nocal ?_
    exact ih0 a0 a1 ([] : List S22) 0 _ h
  · rw [if_neg c1] at h
    refine .cond' (.tmp 14) true [c_ 52, c_ 53, c_ 7] (bT (nT (vF c1))) ?_
    refine .reg' [4] [] ⟨[(4, nilS)], [(256, [(I a0.f0), (.sl true a0.f1.length 4 (a0.f1.flatMap e95))])], [], []⟩ [c_ 53, c_ 7] aln nocal ?_
    have h := Option.some.inj h
    subst h
    refine .nl' 1024 ?_
    exact .fin' [] [(1024, 1024)] nilS [] aln (shc 1024 (rowF e22_ok _) shn) (.nl (memP_mem (p := (1024, 1024)) rfl) rfl)
/-! impl_between: function 58 -/
def impl_between.f (a0 : Int) (a1 : Int) (a2 : Int) : Option Bool := (if a0 ≥ a1 then (some (decide (a0 ≤ a2))) else (some false))
theorem impl_between.J (a0 : Int) (a1 : Int) (a2 : Int) (r : Bool) (h : impl_between.f a0 a1 a2 = some r) : J prog (.call 58 [(I a0), (I a1), (I a2)] [] (B r) []) := by
  unfold impl_between.f at h
  refine .call' [c_ 2, c_ 3] ?_
  refine .reg' [0, 1, 2] [] ⟨[(0, (I a0)), (1, (I a1)), (2, (I a2))], [], [], []⟩ [c_ 6, c_ 7] aln nocal ?_
  by_cases c1 : a0 ≥ a1
  · rw [if_pos c1] at h
    refine .reg' [6] [.no, .no, .no, .v (B true)] ⟨[(6, (B (decide (a0 ≤ a2))))], [], [(B (decide (a0 ≥ a1)) : V) = B true], []⟩ [c_ 7] (alc (bT (dT c1)) aln) nocal ?_
    have h := Option.some.inj h
    subst h
    exact .fin0 [] (B (decide (a0 ≤ a2))) [] aln (.z .s)
  · rw [if_neg c1] at h
    refine .reg' [6] [.no, .no, .no, .v (B false)] ⟨[(6, (B false))], [], [(B (decide (a0 ≥ a1)) : V) = B false], []⟩ [c_ 7] (alc (bF (dF c1)) aln) nocal ?_
    have h := Option.some.inj h
    subst h
    exact .fin0 [] (B false) [] aln (.z .s)
/-! impl_Net_node: function 102 -/
def impl_Net_node.f (a0 : S46) (a1 : Int) : Option Bool := ((impl_between.f a1 0 (wrap64 (a0.f0 - 1))).bind fun x1 => (some x1))
theorem impl_Net_node.J (a0 : S46) (a1 : Int) (r : Bool) (h : impl_Net_node.f a0 a1 = some r) : J prog (.call 102 [(.ag [(I a0.f0), (.sl true a0.f1.length 4 (a0.f1.flatMap e95))]), (I a1)] [] (B r) []) := by
  unfold impl_Net_node.f at h
  refine .call' [c_ 2, c_ 3] ?_
  refine .reg' [1, 2] [] ⟨[(1, (I a1)), (2, (.pt 256 0 2))], [(256, [(I a0.f0), (.sl true a0.f1.length 4 (a0.f1.flatMap e95))])], [], []⟩ [c_ 6, c_ 7] aln nocal ?_
  obtain ⟨x1, hx1, h⟩ := Option.bind_eq_some_iff.mp h
  refine .reg' [4] [.no, .no, .no, .no, .c ⟨58, [(I a1), (I 0), (I (wrap64 (a0.f0 - 1)))], [], (B x1), [], [], [], [], (B x1), []⟩] ⟨[(4, (B x1))], [(256, [(I a0.f0), (.sl true a0.f1.length 4 (a0.f1.flatMap e95))])], [2 = 2 ∧ 0 + 1 ≤ 2, COK (hget [(256, [(I a0.f0), (.sl true a0.f1.length 4 (a0.f1.flatMap e95))])]) [(I a1), (I 0), (I (wrap64 (a0.f0 - 1)))] ⟨58, [(I a1), (I 0), (I (wrap64 (a0.f0 - 1)))], [], (B x1), [], [], [], [], (B x1), []⟩], [⟨58, [(I a1), (I 0), (I (wrap64 (a0.f0 - 1)))], [], (B x1), [], [], [], [], (B x1), []⟩]⟩ [c_ 7] (alc ⟨rfl, by decide⟩ (alc (cok0 false (a2c (.z .s) (a2c (.z .s) (a2c (.z .s) a2n))) (.z .s) (fun h => absurd h (by decide))) aln)) (acal (impl_between.J a1 0 (wrap64 (a0.f0 - 1)) _ hx1) nocal) ?_
  have h := Option.some.inj h
  subst h
  exact .fin0 [] (B x1) [] aln (.z .s)
/-! impl_NetOk: function 87 -/
def impl_NetOk.l0 : Nat → S46 → Int → Option Bool
 | 0, _, _ => none
 | k + 1, a0, x2 => (if x2 < (a0.f1.length : Int) then (if 0 ≤ x2 then ((impl_Net_node.f a0 ((at_ a0.f1 x2).f0)).bind fun x3 => (if x3 = true then ((impl_Net_node.f a0 ((at_ a0.f1 x2).f1)).bind fun x4 => (if x4 = true then (if (at_ a0.f1 x2).f0 = (at_ a0.f1 x2).f1 then (some false) else ((impl_between.f ((at_ a0.f1 x2).f2) 1 100000).bind fun x5 => (if x5 = true then ((impl_between.f ((at_ a0.f1 x2).f3) 1 90).bind fun x6 => (if x6 = true then (impl_NetOk.l0 k a0 (wrap64 (x2 + 1))) else (some false))) else (some false)))) else (some false))) else (some false))) else none) else (some true))
def impl_NetOk.f (k : Nat) (a0 : S46) : Option Bool := ((impl_between.f a0.f0 1 30).bind fun x1 => (if x1 = true then (if (a0.f1.length : Int) > 60 then (some false) else (impl_NetOk.l0 k a0 0)) else (some false)))
theorem impl_NetOk.lab : ∀ k, (∀ (a0 : S46) (x2 : Int) (r : Bool), impl_NetOk.l0 k a0 x2 = some r → J prog (.run 87 [] [l_ 58, b_ 0, c_ 15] [(1, (.pt 256 0 2)), (16, (.sl true a0.f1.length 4 (a0.f1.flatMap e95))), (17, (I (a0.f1.length : Int))), (18, (I x2))] [(256, [(I a0.f0), (.sl true a0.f1.length 4 (a0.f1.flatMap e95))])] (B r) []))
 | 0 => (by intro a0 x2 r h; unfold impl_NetOk.l0 at h; cases h)
 | k + 1 => by
  have ih0 := impl_NetOk.lab k
  · intro a0 x2 r h
    unfold impl_NetOk.l0 at h
    refine .loop' [c_ 232, c_ 233, l_ 58, b_ 0, c_ 15] ?_
    refine .reg' [1, 16, 17, 18, 19] [] ⟨[(1, (.pt 256 0 2)), (16, (.sl true a0.f1.length 4 (a0.f1.flatMap e95))), (17, (I (a0.f1.length : Int))), (18, (I x2)), (19, (B (decide (x2 < (a0.f1.length : Int)))))], [(256, [(I a0.f0), (.sl true a0.f1.length 4 (a0.f1.flatMap e95))])], [], []⟩ [c_ 466, c_ 467, l_ 58, b_ 0, c_ 15] aln nocal ?_
    by_cases c3 : x2 < (a0.f1.length : Int)
    · rw [if_pos c3] at h
      refine .cond' (.tmp 19) true [c_ 3736, c_ 3737, b_ 1, c_ 935, l_ 58, b_ 0, c_ 15] (bT (dT c3)) ?_
      by_cases c4 : 0 ≤ x2
      · rw [if_pos c4] at h
        refine .reg' [1, 4, 16, 17, 18] [.no, .v (.ag [(I (at_ a0.f1 x2).f0), (I (at_ a0.f1 x2).f1), (I (at_ a0.f1 x2).f2), (I (at_ a0.f1 x2).f3)])] ⟨[(1, (.pt 256 0 2)), (4, (.pt 1538 0 4)), (16, (.sl true a0.f1.length 4 (a0.f1.flatMap e95))), (17, (I (a0.f1.length : Int))), (18, (I x2))], [(256, [(I a0.f0), (.sl true a0.f1.length 4 (a0.f1.flatMap e95))]), (1538, [(I (at_ a0.f1 x2).f0), (I (at_ a0.f1 x2).f1), (I (at_ a0.f1 x2).f2), (I (at_ a0.f1 x2).f3)])], [(0 : Int) ≤ x2 ∧ x2 < (a0.f1.length : Int), rdC prog 96 ((a0.f1.flatMap e95).drop (x2.toNat * 4)) = (.ag [(I (at_ a0.f1 x2).f0), (I (at_ a0.f1 x2).f1), (I (at_ a0.f1 x2).f2), (I (at_ a0.f1 x2).f3)]), 4 ≤ ((a0.f1.flatMap e95).drop (x2.toNat * 4)).length, 4 = 4 ∧ 0 + 4 ≤ 4], []⟩ [c_ 7474, c_ 7475, b_ 1, c_ 935, l_ 58, b_ 0, c_ 15] (alc ⟨c4, c3⟩ (alc (ldA e95_ok rfl rfl c4 c3) (alc (okI e95_ok c4 c3 (by decide)) (alc ⟨rfl, by decide⟩ aln)))) nocal ?_
        obtain ⟨x3, hx3, h⟩ := Option.bind_eq_some_iff.mp h
        by_cases c5 : x3 = true
        · rw [if_pos c5] at h
          obtain ⟨x4, hx4, h⟩ := Option.bind_eq_some_iff.mp h
          by_cases c6 : x4 = true
          · rw [if_pos c6] at h
            by_cases c7 : (at_ a0.f1 x2).f0 = (at_ a0.f1 x2).f1
            · rw [if_pos c7] at h
              refine .reg' [1, 16, 17, 18, 52] [.no, .no, .no, .c ⟨102, [(.ag [(I a0.f0), (.sl true a0.f1.length 4 (a0.f1.flatMap e95))]), (I (at_ a0.f1 x2).f0)], [], (B x3), [], [], [], [], (B x3), []⟩, .no, .v (B false), .no, .no, .no, .c ⟨102, [(.ag [(I a0.f0), (.sl true a0.f1.length 4 (a0.f1.flatMap e95))]), (I (at_ a0.f1 x2).f1)], [], (B x4), [], [], [], [], (B x4), []⟩, .no, .no, .v (B false), .no, .no, .no, .no, .no, .no, .v (B true)] ⟨[(1, (.pt 256 0 2)), (16, (.sl true a0.f1.length 4 (a0.f1.flatMap e95))), (17, (I (a0.f1.length : Int))), (18, (I x2)), (52, (B true))], [(256, [(I a0.f0), (.sl true a0.f1.length 4 (a0.f1.flatMap e95))]), (1538, [(I (at_ a0.f1 x2).f0), (I (at_ a0.f1 x2).f1), (I (at_ a0.f1 x2).f2), (I (at_ a0.f1 x2).f3)])], [2 = 2 ∧ 0 + 2 ≤ 2, 4 = 4 ∧ 0 + 1 ≤ 4, COK (hget [(256, [(I a0.f0), (.sl true a0.f1.length 4 (a0.f1.flatMap e95))]), (1538, [(I (at_ a0.f1 x2).f0), (I (at_ a0.f1 x2).f1), (I (at_ a0.f1 x2).f2), (I (at_ a0.f1 x2).f3)])]) [(.ag [(I a0.f0), (.sl true a0.f1.length 4 (a0.f1.flatMap e95))]), (I (at_ a0.f1 x2).f0)] ⟨102, [(.ag [(I a0.f0), (.sl true a0.f1.length 4 (a0.f1.flatMap e95))]), (I (at_ a0.f1 x2).f0)], [], (B x3), [], [], [], [], (B x3), []⟩, (B (!x3) : V) = B false, 2 = 2 ∧ 0 + 2 ≤ 2, 4 = 4 ∧ 1 + 1 ≤ 4, COK (hget [(256, [(I a0.f0), (.sl true a0.f1.length 4 (a0.f1.flatMap e95))]), (1538, [(I (at_ a0.f1 x2).f0), (I (at_ a0.f1 x2).f1), (I (at_ a0.f1 x2).f2), (I (at_ a0.f1 x2).f3)])]) [(.ag [(I a0.f0), (.sl true a0.f1.length 4 (a0.f1.flatMap e95))]), (I (at_ a0.f1 x2).f1)] ⟨102, [(.ag [(I a0.f0), (.sl true a0.f1.length 4 (a0.f1.flatMap e95))]), (I (at_ a0.f1 x2).f1)], [], (B x4), [], [], [], [], (B x4), []⟩, (B (!x4) : V) = B false, 4 = 4 ∧ 0 + 1 ≤ 4, 4 = 4 ∧ 1 + 1 ≤ 4, (B ((at_ a0.f1 x2).f0 == (at_ a0.f1 x2).f1) : V) = B true], [⟨102, [(.ag [(I a0.f0), (.sl true a0.f1.length 4 (a0.f1.flatMap e95))]), (I (at_ a0.f1 x2).f0)], [], (B x3), [], [], [], [], (B x3), []⟩, ⟨102, [(.ag [(I a0.f0), (.sl true a0.f1.length 4 (a0.f1.flatMap e95))]), (I (at_ a0.f1 x2).f1)], [], (B x4), [], [], [], [], (B x4), []⟩]⟩ [c_ 7475, b_ 1, c_ 935, l_ 58, b_ 0, c_ 15] (alc ⟨rfl, by decide⟩ (alc ⟨rfl, by decide⟩ (alc (cok0 false (a2c (.z (frz_ag (a2c .s (a2c (frz_sl e95_ok (fun h => h)) a2n)))) (a2c (.z .s) a2n)) (.z .s) (fun h => absurd h (by decide))) (alc (bF (nF c5)) (alc ⟨rfl, by decide⟩ (alc ⟨rfl, by decide⟩ (alc (cok0 false (a2c (.z (frz_ag (a2c .s (a2c (frz_sl e95_ok (fun h => h)) a2n)))) (a2c (.z .s) a2n)) (.z .s) (fun h => absurd h (by decide))) (alc (bF (nF c6)) (alc ⟨rfl, by decide⟩ (alc ⟨rfl, by decide⟩ (alc (bT (qT c7)) aln))))))))))) (acal (impl_Net_node.J a0 ((at_ a0.f1 x2).f0) _ hx3) (acal (impl_Net_node.J a0 ((at_ a0.f1 x2).f1) _ hx4) nocal)) ?_
              refine .cond' (.tmp 52) true [c_ 29900, c_ 29901, b_ 1, c_ 935, l_ 58, b_ 0, c_ 15] (rfl) ?_
              refine .reg' [2] [] ⟨[(2, (B false))], [(256, [(I a0.f0), (.sl true a0.f1.length 4 (a0.f1.flatMap e95))]), (1538, [(I (at_ a0.f1 x2).f0), (I (at_ a0.f1 x2).f1), (I (at_ a0.f1 x2).f2), (I (at_ a0.f1 x2).f3)])], [], []⟩ [c_ 29901, b_ 1, c_ 935, l_ 58, b_ 0, c_ 15] aln nocal ?_
              have h := Option.some.inj h
              subst h
              exact .fin0 [] (B false) [] aln (.z .s)
            · rw [if_neg c7] at h
              obtain ⟨x5, hx5, h⟩ := Option.bind_eq_some_iff.mp h
              by_cases c8 : x5 = true
              · rw [if_pos c8] at h
                obtain ⟨x6, hx6, h⟩ := Option.bind_eq_some_iff.mp h
                refine .reg' [1, 16, 17, 18, 52] [.no, .no, .no, .c ⟨102, [(.ag [(I a0.f0), (.sl true a0.f1.length 4 (a0.f1.flatMap e95))]), (I (at_ a0.f1 x2).f0)], [], (B x3), [], [], [], [], (B x3), []⟩, .no, .v (B false), .no, .no, .no, .c ⟨102, [(.ag [(I a0.f0), (.sl true a0.f1.length 4 (a0.f1.flatMap e95))]), (I (at_ a0.f1 x2).f1)], [], (B x4), [], [], [], [], (B x4), []⟩, .no, .no, .v (B false), .no, .no, .no, .no, .no, .no, .v (B false), .no, .no, .c ⟨58, [(I (at_ a0.f1 x2).f2), (I 1), (I 100000)], [], (B x5), [], [], [], [], (B x5), []⟩, .no, .no, .v (B false), .no, .no, .c ⟨58, [(I (at_ a0.f1 x2).f3), (I 1), (I 90)], [], (B x6), [], [], [], [], (B x6), []⟩] ⟨[(1, (.pt 256 0 2)), (16, (.sl true a0.f1.length 4 (a0.f1.flatMap e95))), (17, (I (a0.f1.length : Int))), (18, (I x2)), (52, (B (!x6)))], [(256, [(I a0.f0), (.sl true a0.f1.length 4 (a0.f1.flatMap e95))]), (1538, [(I (at_ a0.f1 x2).f0), (I (at_ a0.f1 x2).f1), (I (at_ a0.f1 x2).f2), (I (at_ a0.f1 x2).f3)])], [2 = 2 ∧ 0 + 2 ≤ 2, 4 = 4 ∧ 0 + 1 ≤ 4, COK (hget [(256, [(I a0.f0), (.sl true a0.f1.length 4 (a0.f1.flatMap e95))]), (1538, [(I (at_ a0.f1 x2).f0), (I (at_ a0.f1 x2).f1), (I (at_ a0.f1 x2).f2), (I (at_ a0.f1 x2).f3)])]) [(.ag [(I a0.f0), (.sl true a0.f1.length 4 (a0.f1.flatMap e95))]), (I (at_ a0.f1 x2).f0)] ⟨102, [(.ag [(I a0.f0), (.sl true a0.f1.length 4 (a0.f1.flatMap e95))]), (I (at_ a0.f1 x2).f0)], [], (B x3), [], [], [], [], (B x3), []⟩, (B (!x3) : V) = B false, 2 = 2 ∧ 0 + 2 ≤ 2, 4 = 4 ∧ 1 + 1 ≤ 4, COK (hget [(256, [(I a0.f0), (.sl true a0.f1.length 4 (a0.f1.flatMap e95))]), (1538, [(I (at_ a0.f1 x2).f0), (I (at_ a0.f1 x2).f1), (I (at_ a0.f1 x2).f2), (I (at_ a0.f1 x2).f3)])]) [(.ag [(I a0.f0), (.sl true a0.f1.length 4 (a0.f1.flatMap e95))]), (I (at_ a0.f1 x2).f1)] ⟨102, [(.ag [(I a0.f0), (.sl true a0.f1.length 4 (a0.f1.flatMap e95))]), (I (at_ a0.f1 x2).f1)], [], (B x4), [], [], [], [], (B x4), []⟩, (B (!x4) : V) = B false, 4 = 4 ∧ 0 + 1 ≤ 4, 4 = 4 ∧ 1 + 1 ≤ 4, (B ((at_ a0.f1 x2).f0 == (at_ a0.f1 x2).f1) : V) = B false, 4 = 4 ∧ 2 + 1 ≤ 4, COK (hget [(256, [(I a0.f0), (.sl true a0.f1.length 4 (a0.f1.flatMap e95))]), (1538, [(I (at_ a0.f1 x2).f0), (I (at_ a0.f1 x2).f1), (I (at_ a0.f1 x2).f2), (I (at_ a0.f1 x2).f3)])]) [(I (at_ a0.f1 x2).f2), (I 1), (I 100000)] ⟨58, [(I (at_ a0.f1 x2).f2), (I 1), (I 100000)], [], (B x5), [], [], [], [], (B x5), []⟩, (B (!x5) : V) = B false, 4 = 4 ∧ 3 + 1 ≤ 4, COK (hget [(256, [(I a0.f0), (.sl true a0.f1.length 4 (a0.f1.flatMap e95))]), (1538, [(I (at_ a0.f1 x2).f0), (I (at_ a0.f1 x2).f1), (I (at_ a0.f1 x2).f2), (I (at_ a0.f1 x2).f3)])]) [(I (at_ a0.f1 x2).f3), (I 1), (I 90)] ⟨58, [(I (at_ a0.f1 x2).f3), (I 1), (I 90)], [], (B x6), [], [], [], [], (B x6), []⟩], [⟨102, [(.ag [(I a0.f0), (.sl true a0.f1.length 4 (a0.f1.flatMap e95))]), (I (at_ a0.f1 x2).f0)], [], (B x3), [], [], [], [], (B x3), []⟩, ⟨102, [(.ag [(I a0.f0), (.sl true a0.f1.length 4 (a0.f1.flatMap e95))]), (I (at_ a0.f1 x2).f1)], [], (B x4), [], [], [], [], (B x4), []⟩, ⟨58, [(I (at_ a0.f1 x2).f2), (I 1), (I 100000)], [], (B x5), [], [], [], [], (B x5), []⟩, ⟨58, [(I (at_ a0.f1 x2).f3), (I 1), (I 90)], [], (B x6), [], [], [], [], (B x6), []⟩]⟩ [c_ 7475, b_ 1, c_ 935, l_ 58, b_ 0, c_ 15] (alc ⟨rfl, by decide⟩ (alc ⟨rfl, by decide⟩ (alc (cok0 false (a2c (.z (frz_ag (a2c .s (a2c (frz_sl e95_ok (fun h => h)) a2n)))) (a2c (.z .s) a2n)) (.z .s) (fun h => absurd h (by decide))) (alc (bF (nF c5)) (alc ⟨rfl, by decide⟩ (alc ⟨rfl, by decide⟩ (alc (cok0 false (a2c (.z (frz_ag (a2c .s (a2c (frz_sl e95_ok (fun h => h)) a2n)))) (a2c (.z .s) a2n)) (.z .s) (fun h => absurd h (by decide))) (alc (bF (nF c6)) (alc ⟨rfl, by decide⟩ (alc ⟨rfl, by decide⟩ (alc (bF (qF c7)) (alc ⟨rfl, by decide⟩ (alc (cok0 false (a2c (.z .s) (a2c (.z .s) (a2c (.z .s) a2n))) (.z .s) (fun h => absurd h (by decide))) (alc (bF (nF c8)) (alc ⟨rfl, by decide⟩ (alc (cok0 false (a2c (.z .s) (a2c (.z .s) (a2c (.z .s) a2n))) (.z .s) (fun h => absurd h (by decide))) aln)))))))))))))))) (acal (impl_Net_node.J a0 ((at_ a0.f1 x2).f0) _ hx3) (acal (impl_Net_node.J a0 ((at_ a0.f1 x2).f1) _ hx4) (acal (impl_between.J ((at_ a0.f1 x2).f2) 1 100000 _ hx5) (acal (impl_between.J ((at_ a0.f1 x2).f3) 1 90 _ hx6) nocal)))) ?_
                by_cases c9 : x6 = true
                · rw [if_pos c9] at h
                  refine .cond' (.tmp 52) false [c_ 935, l_ 58, b_ 0, c_ 15] (bF (nF c9)) ?_
                  refine .reg' [1, 16, 17, 18] [] ⟨[(1, (.pt 256 0 2)), (16, (.sl true a0.f1.length 4 (a0.f1.flatMap e95))), (17, (I (a0.f1.length : Int))), (18, (I (wrap64 (x2 + 1))))], [(256, [(I a0.f0), (.sl true a0.f1.length 4 (a0.f1.flatMap e95))]), (1538, [(I (at_ a0.f1 x2).f0), (I (at_ a0.f1 x2).f1), (I (at_ a0.f1 x2).f2), (I (at_ a0.f1 x2).f3)])], [], []⟩ [l_ 58, b_ 0, c_ 15] aln nocal ?_
                  refine .wk' [] [(256, 256)] [(1, (.pt 256 0 2)), (16, (.sl true a0.f1.length 4 (a0.f1.flatMap e95))), (17, (I (a0.f1.length : Int))), (18, (I (wrap64 (x2 + 1))))] [(256, [(I a0.f0), (.sl true a0.f1.length 4 (a0.f1.flatMap e95))])] (shc 256 (a2c (.z .s) (a2c (.z (frz_sl e95_ok (fun h => h))) a2n)) shn) (enc_ (.pt (memP_mem (p := (256, 256)) rfl)) (enc_ (.z (frz_sl e95_ok (fun h => h))) (enc_ (.z .s) (enc_ (.z .s) enn)))) ?_
                  exact ih0 a0 (wrap64 (x2 + 1)) _ h
                · rw [if_neg c9] at h
                  refine .cond' (.tmp 52) true [c_ 29900, c_ 29901, b_ 1, c_ 935, l_ 58, b_ 0, c_ 15] (bT (nT (vF c9))) ?_
                  refine .reg' [2] [] ⟨[(2, (B false))], [(256, [(I a0.f0), (.sl true a0.f1.length 4 (a0.f1.flatMap e95))]), (1538, [(I (at_ a0.f1 x2).f0), (I (at_ a0.f1 x2).f1), (I (at_ a0.f1 x2).f2), (I (at_ a0.f1 x2).f3)])], [], []⟩ [c_ 29901, b_ 1, c_ 935, l_ 58, b_ 0, c_ 15] aln nocal ?_
                  have h := Option.some.inj h
                  subst h
                  exact .fin0 [] (B false) [] aln (.z .s)
              · rw [if_neg c8] at h
                refine .reg' [1, 16, 17, 18, 52] [.no, .no, .no, .c ⟨102, [(.ag [(I a0.f0), (.sl true a0.f1.length 4 (a0.f1.flatMap e95))]), (I (at_ a0.f1 x2).f0)], [], (B x3), [], [], [], [], (B x3), []⟩, .no, .v (B false), .no, .no, .no, .c ⟨102, [(.ag [(I a0.f0), (.sl true a0.f1.length 4 (a0.f1.flatMap e95))]), (I (at_ a0.f1 x2).f1)], [], (B x4), [], [], [], [], (B x4), []⟩, .no, .no, .v (B false), .no, .no, .no, .no, .no, .no, .v (B false), .no, .no, .c ⟨58, [(I (at_ a0.f1 x2).f2), (I 1), (I 100000)], [], (B x5), [], [], [], [], (B x5), []⟩, .no, .no, .v (B true)] ⟨[(1, (.pt 256 0 2)), (16, (.sl true a0.f1.length 4 (a0.f1.flatMap e95))), (17, (I (a0.f1.length : Int))), (18, (I x2)), (52, (B true))], [(256, [(I a0.f0), (.sl true a0.f1.length 4 (a0.f1.flatMap e95))]), (1538, [(I (at_ a0.f1 x2).f0), (I (at_ a0.f1 x2).f1), (I (at_ a0.f1 x2).f2), (I (at_ a0.f1 x2).f3)])], [2 = 2 ∧ 0 + 2 ≤ 2, 4 = 4 ∧ 0 + 1 ≤ 4, COK (hget [(256, [(I a0.f0), (.sl true a0.f1.length 4 (a0.f1.flatMap e95))]), (1538, [(I (at_ a0.f1 x2).f0), (I (at_ a0.f1 x2).f1), (I (at_ a0.f1 x2).f2), (I (at_ a0.f1 x2).f3)])]) [(.ag [(I a0.f0), (.sl true a0.f1.length 4 (a0.f1.flatMap e95))]), (I (at_ a0.f1 x2).f0)] ⟨102, [(.ag [(I a0.f0), (.sl true a0.f1.length 4 (a0.f1.flatMap e95))]), (I (at_ a0.f1 x2).f0)], [], (B x3), [], [], [], [], (B x3), []⟩, (B (!x3) : V) = B false, 2 = 2 ∧ 0 + 2 ≤ 2, 4 = 4 ∧ 1 + 1 ≤ 4, COK (hget [(256, [(I a0.f0), (.sl true a0.f1.length 4 (a0.f1.flatMap e95))]), (1538, [(I (at_ a0.f1 x2).f0), (I (at_ a0.f1 x2).f1), (I (at_ a0.f1 x2).f2), (I (at_ a0.f1 x2).f3)])]) [(.ag [(I a0.f0), (.sl true a0.f1.length 4 (a0.f1.flatMap e95))]), (I (at_ a0.f1 x2).f1)] ⟨102, [(.ag [(I a0.f0), (.sl true a0.f1.length 4 (a0.f1.flatMap e95))]), (I (at_ a0.f1 x2).f1)], [], (B x4), [], [], [], [], (B x4), []⟩, (B (!x4) : V) = B false, 4 = 4 ∧ 0 + 1 ≤ 4, 4 = 4 ∧ 1 + 1 ≤ 4, (B ((at_ a0.f1 x2).f0 == (at_ a0.f1 x2).f1) : V) = B false, 4 = 4 ∧ 2 + 1 ≤ 4, COK (hget [(256, [(I a0.f0), (.sl true a0.f1.length 4 (a0.f1.flatMap e95))]), (1538, [(I (at_ a0.f1 x2).f0), (I (at_ a0.f1 x2).f1), (I (at_ a0.f1 x2).f2), (I (at_ a0.f1 x2).f3)])]) [(I (at_ a0.f1 x2).f2), (I 1), (I 100000)] ⟨58, [(I (at_ a0.f1 x2).f2), (I 1), (I 100000)], [], (B x5), [], [], [], [], (B x5), []⟩, (B (!x5) : V) = B true], [⟨102, [(.ag [(I a0.f0), (.sl true a0.f1.length 4 (a0.f1.flatMap e95))]), (I (at_ a0.f1 x2).f0)], [], (B x3), [], [], [], [], (B x3), []⟩, ⟨102, [(.ag [(I a0.f0), (.sl true a0.f1.length 4 (a0.f1.flatMap e95))]), (I (at_ a0.f1 x2).f1)], [], (B x4), [], [], [], [], (B x4), []⟩, ⟨58, [(I (at_ a0.f1 x2).f2), (I 1), (I 100000)], [], (B x5), [], [], [], [], (B x5), []⟩]⟩ [c_ 7475, b_ 1, c_ 935, l_ 58, b_ 0, c_ 15] (alc ⟨rfl, by decide⟩ (alc ⟨rfl, by decide⟩ (alc (cok0 false (a2c (.z (frz_ag (a2c .s (a2c (frz_sl e95_ok (fun h => h)) a2n)))) (a2c (.z .s) a2n)) (.z .s) (fun h => absurd h (by decide))) (alc (bF (nF c5)) (alc ⟨rfl, by decide⟩ (alc ⟨rfl, by decide⟩ (alc (cok0 false (a2c (.z (frz_ag (a2c .s (a2c (frz_sl e95_ok (fun h => h)) a2n)))) (a2c (.z .s) a2n)) (.z .s) (fun h => absurd h (by decide))) (alc (bF (nF c6)) (alc ⟨rfl, by decide⟩ (alc ⟨rfl, by decide⟩ (alc (bF (qF c7)) (alc ⟨rfl, by decide⟩ (alc (cok0 false (a2c (.z .s) (a2c (.z .s) (a2c (.z .s) a2n))) (.z .s) (fun h => absurd h (by decide))) (alc (bT (nT (vF c8))) aln)))))))))))))) (acal (impl_Net_node.J a0 ((at_ a0.f1 x2).f0) _ hx3) (acal (impl_Net_node.J a0 ((at_ a0.f1 x2).f1) _ hx4) (acal (impl_between.J ((at_ a0.f1 x2).f2) 1 100000 _ hx5) nocal))) ?_
                refine .cond' (.tmp 52) true [c_ 29900, c_ 29901, b_ 1, c_ 935, l_ 58, b_ 0, c_ 15] (rfl) ?_
                refine .reg' [2] [] ⟨[(2, (B false))], [(256, [(I a0.f0), (.sl true a0.f1.length 4 (a0.f1.flatMap e95))]), (1538, [(I (at_ a0.f1 x2).f0), (I (at_ a0.f1 x2).f1), (I (at_ a0.f1 x2).f2), (I (at_ a0.f1 x2).f3)])], [], []⟩ [c_ 29901, b_ 1, c_ 935, l_ 58, b_ 0, c_ 15] aln nocal ?_
                have h := Option.some.inj h
                subst h
                exact .fin0 [] (B false) [] aln (.z .s)
          · rw [if_neg c6] at h
            refine .reg' [1, 16, 17, 18, 52] [.no, .no, .no, .c ⟨102, [(.ag [(I a0.f0), (.sl true a0.f1.length 4 (a0.f1.flatMap e95))]), (I (at_ a0.f1 x2).f0)], [], (B x3), [], [], [], [], (B x3), []⟩, .no, .v (B false), .no, .no, .no, .c ⟨102, [(.ag [(I a0.f0), (.sl true a0.f1.length 4 (a0.f1.flatMap e95))]), (I (at_ a0.f1 x2).f1)], [], (B x4), [], [], [], [], (B x4), []⟩, .no, .no, .v (B true)] ⟨[(1, (.pt 256 0 2)), (16, (.sl true a0.f1.length 4 (a0.f1.flatMap e95))), (17, (I (a0.f1.length : Int))), (18, (I x2)), (52, (B true))], [(256, [(I a0.f0), (.sl true a0.f1.length 4 (a0.f1.flatMap e95))]), (1538, [(I (at_ a0.f1 x2).f0), (I (at_ a0.f1 x2).f1), (I (at_ a0.f1 x2).f2), (I (at_ a0.f1 x2).f3)])], [2 = 2 ∧ 0 + 2 ≤ 2, 4 = 4 ∧ 0 + 1 ≤ 4, COK (hget [(256, [(I a0.f0), (.sl true a0.f1.length 4 (a0.f1.flatMap e95))]), (1538, [(I (at_ a0.f1 x2).f0), (I (at_ a0.f1 x2).f1), (I (at_ a0.f1 x2).f2), (I (at_ a0.f1 x2).f3)])]) [(.ag [(I a0.f0), (.sl true a0.f1.length 4 (a0.f1.flatMap e95))]), (I (at_ a0.f1 x2).f0)] ⟨102, [(.ag [(I a0.f0), (.sl true a0.f1.length 4 (a0.f1.flatMap e95))]), (I (at_ a0.f1 x2).f0)], [], (B x3), [], [], [], [], (B x3), []⟩, (B (!x3) : V) = B false, 2 = 2 ∧ 0 + 2 ≤ 2, 4 = 4 ∧ 1 + 1 ≤ 4, COK (hget [(256, [(I a0.f0), (.sl true a0.f1.length 4 (a0.f1.flatMap e95))]), (1538, [(I (at_ a0.f1 x2).f0), (I (at_ a0.f1 x2).f1), (I (at_ a0.f1 x2).f2), (I (at_ a0.f1 x2).f3)])]) [(.ag [(I a0.f0), (.sl true a0.f1.length 4 (a0.f1.flatMap e95))]), (I (at_ a0.f1 x2).f1)] ⟨102, [(.ag [(I a0.f0), (.sl true a0.f1.length 4 (a0.f1.flatMap e95))]), (I (at_ a0.f1 x2).f1)], [], (B x4), [], [], [], [], (B x4), []⟩, (B (!x4) : V) = B true], [⟨102, [(.ag [(I a0.f0), (.sl true a0.f1.length 4 (a0.f1.flatMap e95))]), (I (at_ a0.f1 x2).f0)], [], (B x3), [], [], [], [], (B x3), []⟩, ⟨102, [(.ag [(I a0.f0), (.sl true a0.f1.length 4 (a0.f1.flatMap e95))]), (I (at_ a0.f1 x2).f1)], [], (B x4), [], [], [], [], (B x4), []⟩]⟩ [c_ 7475, b_ 1, c_ 935, l_ 58, b_ 0, c_ 15] (alc ⟨rfl, by decide⟩ (alc ⟨rfl, by decide⟩ (alc (cok0 false (a2c (.z (frz_ag (a2c .s (a2c (frz_sl e95_ok (fun h => h)) a2n)))) (a2c (.z .s) a2n)) (.z .s) (fun h => absurd h (by decide))) (alc (bF (nF c5)) (alc ⟨rfl, by decide⟩ (alc ⟨rfl, by decide⟩ (alc (cok0 false (a2c (.z (frz_ag (a2c .s (a2c (frz_sl e95_ok (fun h => h)) a2n)))) (a2c (.z .s) a2n)) (.z .s) (fun h => absurd h (by decide))) (alc (bT (nT (vF c6))) aln)))))))) (acal (impl_Net_node.J a0 ((at_ a0.f1 x2).f0) _ hx3) (acal (impl_Net_node.J a0 ((at_ a0.f1 x2).f1) _ hx4) nocal)) ?_
            refine .cond' (.tmp 52) true [c_ 29900, c_ 29901, b_ 1, c_ 935, l_ 58, b_ 0, c_ 15] (rfl) ?_
            refine .reg' [2] [] ⟨[(2, (B false))], [(256, [(I a0.f0), (.sl true a0.f1.length 4 (a0.f1.flatMap e95))]), (1538, [(I (at_ a0.f1 x2).f0), (I (at_ a0.f1 x2).f1), (I (at_ a0.f1 x2).f2), (I (at_ a0.f1 x2).f3)])], [], []⟩ [c_ 29901, b_ 1, c_ 935, l_ 58, b_ 0, c_ 15] aln nocal ?_
            have h := Option.some.inj h
            subst h
            exact .fin0 [] (B false) [] aln (.z .s)
        · rw [if_neg c5] at h
          refine .reg' [1, 16, 17, 18, 52] [.no, .no, .no, .c ⟨102, [(.ag [(I a0.f0), (.sl true a0.f1.length 4 (a0.f1.flatMap e95))]), (I (at_ a0.f1 x2).f0)], [], (B x3), [], [], [], [], (B x3), []⟩, .no, .v (B true)] ⟨[(1, (.pt 256 0 2)), (16, (.sl true a0.f1.length 4 (a0.f1.flatMap e95))), (17, (I (a0.f1.length : Int))), (18, (I x2)), (52, (B true))], [(256, [(I a0.f0), (.sl true a0.f1.length 4 (a0.f1.flatMap e95))]), (1538, [(I (at_ a0.f1 x2).f0), (I (at_ a0.f1 x2).f1), (I (at_ a0.f1 x2).f2), (I (at_ a0.f1 x2).f3)])], [2 = 2 ∧ 0 + 2 ≤ 2, 4 = 4 ∧ 0 + 1 ≤ 4, COK (hget [(256, [(I a0.f0), (.sl true a0.f1.length 4 (a0.f1.flatMap e95))]), (1538, [(I (at_ a0.f1 x2).f0), (I (at_ a0.f1 x2).f1), (I (at_ a0.f1 x2).f2), (I (at_ a0.f1 x2).f3)])]) [(.ag [(I a0.f0), (.sl true a0.f1.length 4 (a0.f1.flatMap e95))]), (I (at_ a0.f1 x2).f0)] ⟨102, [(.ag [(I a0.f0), (.sl true a0.f1.length 4 (a0.f1.flatMap e95))]), (I (at_ a0.f1 x2).f0)], [], (B x3), [], [], [], [], (B x3), []⟩, (B (!x3) : V) = B true], [⟨102, [(.ag [(I a0.f0), (.sl true a0.f1.length 4 (a0.f1.flatMap e95))]), (I (at_ a0.f1 x2).f0)], [], (B x3), [], [], [], [], (B x3), []⟩]⟩ [c_ 7475, b_ 1, c_ 935, l_ 58, b_ 0, c_ 15] (alc ⟨rfl, by decide⟩ (alc ⟨rfl, by decide⟩ (alc (cok0 false (a2c (.z (frz_ag (a2c .s (a2c (frz_sl e95_ok (fun h => h)) a2n)))) (a2c (.z .s) a2n)) (.z .s) (fun h => absurd h (by decide))) (alc (bT (nT (vF c5))) aln)))) (acal (impl_Net_node.J a0 ((at_ a0.f1 x2).f0) _ hx3) nocal) ?_
          refine .cond' (.tmp 52) true [c_ 29900, c_ 29901, b_ 1, c_ 935, l_ 58, b_ 0, c_ 15] (rfl) ?_
          refine .reg' [2] [] ⟨[(2, (B false))], [(256, [(I a0.f0), (.sl true a0.f1.length 4 (a0.f1.flatMap e95))]), (1538, [(I (at_ a0.f1 x2).f0), (I (at_ a0.f1 x2).f1), (I (at_ a0.f1 x2).f2), (I (at_ a0.f1 x2).f3)])], [], []⟩ [c_ 29901, b_ 1, c_ 935, l_ 58, b_ 0, c_ 15] aln nocal ?_
          have h := Option.some.inj h
          subst h
          exact .fin0 [] (B false) [] aln (.z .s)
      · rw [if_neg c4] at h
        cases h
    · rw [if_neg c3] at h
      refine .cond' (.tmp 19) false [c_ 30, c_ 31] (bF (dF c3)) ?_
      refine .reg' [2] [] ⟨[(2, (B true))], [(256, [(I a0.f0), (.sl true a0.f1.length 4 (a0.f1.flatMap e95))])], [], []⟩ [c_ 31] aln nocal ?_
      have h := Option.some.inj h
      subst h
      exact .fin0 [] (B true) [] aln (.z .s)
theorem impl_NetOk.J (k : Nat) (a0 : S46) (r : Bool) (h : impl_NetOk.f k a0 = some r) : J prog (.call 87 [(.ag [(I a0.f0), (.sl true a0.f1.length 4 (a0.f1.flatMap e95))])] [] (B r) []) := by
  unfold impl_NetOk.f at h
  have ih0 := impl_NetOk.lab k
  refine .call' [c_ 2, c_ 3] ?_
  refine .reg' [1] [] ⟨[(1, (.pt 256 0 2))], [(256, [(I a0.f0), (.sl true a0.f1.length 4 (a0.f1.flatMap e95))])], [], []⟩ [c_ 12, c_ 13, c_ 7] aln nocal ?_
  obtain ⟨x1, hx1, h⟩ := Option.bind_eq_some_iff.mp h
  by_cases c1 : x1 = true
  · rw [if_pos c1] at h
    refine .reg' [1, 14] [.no, .no, .c ⟨58, [(I a0.f0), (I 1), (I 30)], [], (B x1), [], [], [], [], (B x1), []⟩, .no, .v (B false)] ⟨[(1, (.pt 256 0 2)), (14, (B (decide ((a0.f1.length : Int) > 60))))], [(256, [(I a0.f0), (.sl true a0.f1.length 4 (a0.f1.flatMap e95))])], [2 = 2 ∧ 0 + 1 ≤ 2, COK (hget [(256, [(I a0.f0), (.sl true a0.f1.length 4 (a0.f1.flatMap e95))])]) [(I a0.f0), (I 1), (I 30)] ⟨58, [(I a0.f0), (I 1), (I 30)], [], (B x1), [], [], [], [], (B x1), []⟩, (B (!x1) : V) = B false, 2 = 2 ∧ 1 + 1 ≤ 2], [⟨58, [(I a0.f0), (I 1), (I 30)], [], (B x1), [], [], [], [], (B x1), []⟩]⟩ [c_ 13, c_ 7] (alc ⟨rfl, by decide⟩ (alc (cok0 false (a2c (.z .s) (a2c (.z .s) (a2c (.z .s) a2n))) (.z .s) (fun h => absurd h (by decide))) (alc (bF (nF c1)) (alc ⟨rfl, by decide⟩ aln)))) (acal (impl_between.J a0.f0 1 30 _ hx1) nocal) ?_
    by_cases c2 : (a0.f1.length : Int) > 60
    · rw [if_pos c2] at h
      refine .cond' (.tmp 14) true [c_ 52, c_ 53, c_ 7] (bT (dT c2)) ?_
      refine .reg' [2] [] ⟨[(2, (B false))], [(256, [(I a0.f0), (.sl true a0.f1.length 4 (a0.f1.flatMap e95))])], [], []⟩ [c_ 53, c_ 7] aln nocal ?_
      have h := Option.some.inj h
      subst h
      exact .fin0 [] (B false) [] aln (.z .s)
    · rw [if_neg c2] at h
      refine .cond' (.tmp 14) false [c_ 28, c_ 29, c_ 15] (bF (dF c2)) ?_
      refine .reg' [1, 16, 17, 18] [] ⟨[(1, (.pt 256 0 2)), (16, (.sl true a0.f1.length 4 (a0.f1.flatMap e95))), (17, (I (a0.f1.length : Int))), (18, (I 0))], [(256, [(I a0.f0), (.sl true a0.f1.length 4 (a0.f1.flatMap e95))])], [2 = 2 ∧ 1 + 1 ≤ 2], []⟩ [l_ 58, b_ 0, c_ 15] (alc ⟨rfl, by decide⟩ aln) nocal ?_
      exact ih0 a0 0 _ h
  · rw [if_neg c1] at h
    refine .reg' [1, 14] [.no, .no, .c ⟨58, [(I a0.f0), (I 1), (I 30)], [], (B x1), [], [], [], [], (B x1), []⟩, .no, .v (B true)] ⟨[(1, (.pt 256 0 2)), (14, (B true))], [(256, [(I a0.f0), (.sl true a0.f1.length 4 (a0.f1.flatMap e95))])], [2 = 2 ∧ 0 + 1 ≤ 2, COK (hget [(256, [(I a0.f0), (.sl true a0.f1.length 4 (a0.f1.flatMap e95))])]) [(I a0.f0), (I 1), (I 30)] ⟨58, [(I a0.f0), (I 1), (I 30)], [], (B x1), [], [], [], [], (B x1), []⟩, (B (!x1) : V) = B true], [⟨58, [(I a0.f0), (I 1), (I 30)], [], (B x1), [], [], [], [], (B x1), []⟩]⟩ [c_ 13, c_ 7] (alc ⟨rfl, by decide⟩ (alc (cok0 false (a2c (.z .s) (a2c (.z .s) (a2c (.z .s) a2n))) (.z .s) (fun h => absurd h (by decide))) (alc (bT (nT (vF c1))) aln))) (acal (impl_between.J a0.f0 1 30 _ hx1) nocal) ?_
    refine .cond' (.tmp 14) true [c_ 52, c_ 53, c_ 7] (rfl) ?_
    refine .reg' [2] [] ⟨[(2, (B false))], [(256, [(I a0.f0), (.sl true a0.f1.length 4 (a0.f1.flatMap e95))])], [], []⟩ [c_ 53, c_ 7] aln nocal ?_
    have h := Option.some.inj h
    subst h
    exact .fin0 [] (B false) [] aln (.z .s)
/-! impl_nameOk: function 92 -/
def impl_nameOk.l0 : Nat → ByteArray → Int → Option Bool
 | 0, _, _ => none
 | k + 1, a0, x1 => (if x1 < (a0.size : Int) then (if 0 ≤ x1 then (if (bt a0 x1) < 97 then (if (bt a0 x1) < 48 then (some false) else (if (bt a0 x1) > 57 then (some false) else (impl_nameOk.l0 k a0 (wrap64 (x1 + 1))))) else (if (bt a0 x1) > 122 then (if (bt a0 x1) < 48 then (some false) else (if (bt a0 x1) > 57 then (some false) else (impl_nameOk.l0 k a0 (wrap64 (x1 + 1))))) else (impl_nameOk.l0 k a0 (wrap64 (x1 + 1))))) else none) else (some true))
def impl_nameOk.f (k : Nat) (a0 : ByteArray) : Option Bool := (if (a0.size : Int) < 1 then (some false) else (if (a0.size : Int) > 12 then (some false) else (impl_nameOk.l0 k a0 0)))
theorem impl_nameOk.lab : ∀ k, (∀ (a0 : ByteArray) (x1 : Int) (r : Bool), impl_nameOk.l0 k a0 x1 = some r → J prog (.run 92 [] [l_ 58, b_ 0, c_ 15] [(0, (S a0)), (3, (I x1))] [] (B r) []))
 | 0 => (by intro a0 x1 r h; unfold impl_nameOk.l0 at h; cases h)
 | k + 1 => by
  have ih0 := impl_nameOk.lab k
  · intro a0 x1 r h
    unfold impl_nameOk.l0 at h
    refine .loop' [c_ 464, c_ 465, c_ 233, l_ 58, b_ 0, c_ 15] ?_
    refine .reg' [0, 3, 15] [] ⟨[(0, (S a0)), (3, (I x1)), (15, (B (decide (x1 < (a0.size : Int)))))], [], [], []⟩ [c_ 465, c_ 233, l_ 58, b_ 0, c_ 15] aln nocal ?_
    by_cases c3 : x1 < (a0.size : Int)
    · rw [if_pos c3] at h
      refine .cond' (.tmp 15) true [c_ 1864, c_ 1865, b_ 1, c_ 467, l_ 58, b_ 0, c_ 15] (bT (dT c3)) ?_
      by_cases c4 : 0 ≤ x1
      · rw [if_pos c4] at h
        by_cases c5 : (bt a0 x1) < 97
        · rw [if_pos c5] at h
          by_cases c6 : (bt a0 x1) < 48
          · rw [if_pos c6] at h
            refine .reg' [0, 3, 39] [.no, .no, .no, .no, .v (B true), .no, .no, .no, .no, .no, .no, .no, .no, .no, .no, .v (B true)] ⟨[(0, (S a0)), (3, (I x1)), (39, (B true))], [], [(0 : Int) ≤ x1 ∧ x1 < (a0.size : Int), (B (decide ((bt a0 x1) < 97)) : V) = B true, (0 : Int) ≤ x1 ∧ x1 < (a0.size : Int), (B (decide ((bt a0 x1) < 48)) : V) = B true], []⟩ [c_ 1865, b_ 1, c_ 467, l_ 58, b_ 0, c_ 15] (alc ⟨c4, c3⟩ (alc (bT (dT c5)) (alc ⟨c4, c3⟩ (alc (bT (dT c6)) aln)))) nocal ?_
            refine .cond' (.tmp 39) true [c_ 7460, c_ 7461, b_ 1, c_ 467, l_ 58, b_ 0, c_ 15] (rfl) ?_
            refine .reg' [2] [] ⟨[(2, (B false))], [], [], []⟩ [c_ 7461, b_ 1, c_ 467, l_ 58, b_ 0, c_ 15] aln nocal ?_
            have h := Option.some.inj h
            subst h
            exact .fin0 [] (B false) [] aln (.z .s)
          · rw [if_neg c6] at h
            refine .reg' [0, 3, 39] [.no, .no, .no, .no, .v (B true), .no, .no, .no, .no, .no, .no, .no, .no, .no, .no, .v (B false)] ⟨[(0, (S a0)), (3, (I x1)), (39, (B (decide ((bt a0 x1) > 57))))], [], [(0 : Int) ≤ x1 ∧ x1 < (a0.size : Int), (B (decide ((bt a0 x1) < 97)) : V) = B true, (0 : Int) ≤ x1 ∧ x1 < (a0.size : Int), (B (decide ((bt a0 x1) < 48)) : V) = B false, (0 : Int) ≤ x1 ∧ x1 < (a0.size : Int)], []⟩ [c_ 1865, b_ 1, c_ 467, l_ 58, b_ 0, c_ 15] (alc ⟨c4, c3⟩ (alc (bT (dT c5)) (alc ⟨c4, c3⟩ (alc (bF (dF c6)) (alc ⟨c4, c3⟩ aln))))) nocal ?_
            by_cases c7 : (bt a0 x1) > 57
            · rw [if_pos c7] at h
              refine .cond' (.tmp 39) true [c_ 7460, c_ 7461, b_ 1, c_ 467, l_ 58, b_ 0, c_ 15] (bT (dT c7)) ?_
              refine .reg' [2] [] ⟨[(2, (B false))], [], [], []⟩ [c_ 7461, b_ 1, c_ 467, l_ 58, b_ 0, c_ 15] aln nocal ?_
              have h := Option.some.inj h
              subst h
              exact .fin0 [] (B false) [] aln (.z .s)
            · rw [if_neg c7] at h
              refine .cond' (.tmp 39) false [c_ 467, l_ 58, b_ 0, c_ 15] (bF (dF c7)) ?_
              refine .reg' [0, 3] [] ⟨[(0, (S a0)), (3, (I (wrap64 (x1 + 1))))], [], [], []⟩ [l_ 58, b_ 0, c_ 15] aln nocal ?_
              exact ih0 a0 (wrap64 (x1 + 1)) _ h
        · rw [if_neg c5] at h
          by_cases c8 : (bt a0 x1) > 122
          · rw [if_pos c8] at h
            by_cases c9 : (bt a0 x1) < 48
            · rw [if_pos c9] at h
              refine .reg' [0, 3, 39] [.no, .no, .no, .no, .v (B false), .no, .no, .no, .no, .no, .v (B true), .no, .no, .no, .no, .v (B true)] ⟨[(0, (S a0)), (3, (I x1)), (39, (B true))], [], [(0 : Int) ≤ x1 ∧ x1 < (a0.size : Int), (B (decide ((bt a0 x1) < 97)) : V) = B false, (0 : Int) ≤ x1 ∧ x1 < (a0.size : Int), (B (decide ((bt a0 x1) > 122)) : V) = B true, (0 : Int) ≤ x1 ∧ x1 < (a0.size : Int), (B (decide ((bt a0 x1) < 48)) : V) = B true], []⟩ [c_ 1865, b_ 1, c_ 467, l_ 58, b_ 0, c_ 15] (alc ⟨c4, c3⟩ (alc (bF (dF c5)) (alc ⟨c4, c3⟩ (alc (bT (dT c8)) (alc ⟨c4, c3⟩ (alc (bT (dT c9)) aln)))))) nocal ?_
              refine .cond' (.tmp 39) true [c_ 7460, c_ 7461, b_ 1, c_ 467, l_ 58, b_ 0, c_ 15] (rfl) ?_
              refine .reg' [2] [] ⟨[(2, (B false))], [], [], []⟩ [c_ 7461, b_ 1, c_ 467, l_ 58, b_ 0, c_ 15] aln nocal ?_
              have h := Option.some.inj h
              subst h
              exact .fin0 [] (B false) [] aln (.z .s)
            · rw [if_neg c9] at h
              refine .reg' [0, 3, 39] [.no, .no, .no, .no, .v (B false), .no, .no, .no, .no, .no, .v (B true), .no, .no, .no, .no, .v (B false)] ⟨[(0, (S a0)), (3, (I x1)), (39, (B (decide ((bt a0 x1) > 57))))], [], [(0 : Int) ≤ x1 ∧ x1 < (a0.size : Int), (B (decide ((bt a0 x1) < 97)) : V) = B false, (0 : Int) ≤ x1 ∧ x1 < (a0.size : Int), (B (decide ((bt a0 x1) > 122)) : V) = B true, (0 : Int) ≤ x1 ∧ x1 < (a0.size : Int), (B (decide ((bt a0 x1) < 48)) : V) = B false, (0 : Int) ≤ x1 ∧ x1 < (a0.size : Int)], []⟩ [c_ 1865, b_ 1, c_ 467, l_ 58, b_ 0, c_ 15] (alc ⟨c4, c3⟩ (alc (bF (dF c5)) (alc ⟨c4, c3⟩ (alc (bT (dT c8)) (alc ⟨c4, c3⟩ (alc (bF (dF c9)) (alc ⟨c4, c3⟩ aln))))))) nocal ?_
              by_cases c10 : (bt a0 x1) > 57
              · rw [if_pos c10] at h
                refine .cond' (.tmp 39) true [c_ 7460, c_ 7461, b_ 1, c_ 467, l_ 58, b_ 0, c_ 15] (bT (dT c10)) ?_
                refine .reg' [2] [] ⟨[(2, (B false))], [], [], []⟩ [c_ 7461, b_ 1, c_ 467, l_ 58, b_ 0, c_ 15] aln nocal ?_
                have h := Option.some.inj h
                subst h
                exact .fin0 [] (B false) [] aln (.z .s)
              · rw [if_neg c10] at h
                refine .cond' (.tmp 39) false [c_ 467, l_ 58, b_ 0, c_ 15] (bF (dF c10)) ?_
                refine .reg' [0, 3] [] ⟨[(0, (S a0)), (3, (I (wrap64 (x1 + 1))))], [], [], []⟩ [l_ 58, b_ 0, c_ 15] aln nocal ?_
                exact ih0 a0 (wrap64 (x1 + 1)) _ h
          · rw [if_neg c8] at h
            refine .reg' [0, 3, 39] [.no, .no, .no, .no, .v (B false), .no, .no, .no, .no, .no, .v (B false)] ⟨[(0, (S a0)), (3, (I x1)), (39, (B false))], [], [(0 : Int) ≤ x1 ∧ x1 < (a0.size : Int), (B (decide ((bt a0 x1) < 97)) : V) = B false, (0 : Int) ≤ x1 ∧ x1 < (a0.size : Int), (B (decide ((bt a0 x1) > 122)) : V) = B false], []⟩ [c_ 1865, b_ 1, c_ 467, l_ 58, b_ 0, c_ 15] (alc ⟨c4, c3⟩ (alc (bF (dF c5)) (alc ⟨c4, c3⟩ (alc (bF (dF c8)) aln)))) nocal ?_
            refine .cond' (.tmp 39) false [c_ 467, l_ 58, b_ 0, c_ 15] (rfl) ?_
            refine .reg' [0, 3] [] ⟨[(0, (S a0)), (3, (I (wrap64 (x1 + 1))))], [], [], []⟩ [l_ 58, b_ 0, c_ 15] aln nocal ?_
            exact ih0 a0 (wrap64 (x1 + 1)) _ h
      · rw [if_neg c4] at h
        cases h
    · rw [if_neg c3] at h
      refine .cond' (.tmp 15) false [c_ 30, c_ 31] (bF (dF c3)) ?_
      refine .reg' [2] [] ⟨[(2, (B true))], [], [], []⟩ [c_ 31] aln nocal ?_
      have h := Option.some.inj h
      subst h
      exact .fin0 [] (B true) [] aln (.z .s)
theorem impl_nameOk.J (k : Nat) (a0 : ByteArray) (r : Bool) (h : impl_nameOk.f k a0 = some r) : J prog (.call 92 [(S a0)] [] (B r) []) := by
  unfold impl_nameOk.f at h
  have ih0 := impl_nameOk.lab k
  refine .call' [c_ 2, c_ 3] ?_
  refine .reg' [0] [] ⟨[(0, (S a0))], [], [], []⟩ [c_ 12, c_ 13, c_ 7] aln nocal ?_
  by_cases c1 : (a0.size : Int) < 1
  · rw [if_pos c1] at h
    refine .reg' [0, 11] [.no, .no, .no, .v (B true)] ⟨[(0, (S a0)), (11, (B true))], [], [(B (decide ((a0.size : Int) < 1)) : V) = B true], []⟩ [c_ 13, c_ 7] (alc (bT (dT c1)) aln) nocal ?_
    refine .cond' (.tmp 11) true [c_ 52, c_ 53, c_ 7] (rfl) ?_
    refine .reg' [2] [] ⟨[(2, (B false))], [], [], []⟩ [c_ 53, c_ 7] aln nocal ?_
    have h := Option.some.inj h
    subst h
    exact .fin0 [] (B false) [] aln (.z .s)
  · rw [if_neg c1] at h
    refine .reg' [0, 11] [.no, .no, .no, .v (B false)] ⟨[(0, (S a0)), (11, (B (decide ((a0.size : Int) > 12))))], [], [(B (decide ((a0.size : Int) < 1)) : V) = B false], []⟩ [c_ 13, c_ 7] (alc (bF (dF c1)) aln) nocal ?_
    by_cases c2 : (a0.size : Int) > 12
    · rw [if_pos c2] at h
      refine .cond' (.tmp 11) true [c_ 52, c_ 53, c_ 7] (bT (dT c2)) ?_
      refine .reg' [2] [] ⟨[(2, (B false))], [], [], []⟩ [c_ 53, c_ 7] aln nocal ?_
      have h := Option.some.inj h
      subst h
      exact .fin0 [] (B false) [] aln (.z .s)
    · rw [if_neg c2] at h
      refine .cond' (.tmp 11) false [c_ 28, c_ 29, c_ 15] (bF (dF c2)) ?_
      refine .reg' [0, 3] [] ⟨[(0, (S a0)), (3, (I 0))], [], [], []⟩ [l_ 58, b_ 0, c_ 15] aln nocal ?_
      exact ih0 a0 0 _ h
/-! impl_isMinute: function 93 -/
def impl_isMinute.f (a0 : Int) : Option Bool := ((impl_between.f a0 0 100000).bind fun x1 => (some x1))
theorem impl_isMinute.J (a0 : Int) (r : Bool) (h : impl_isMinute.f a0 = some r) : J prog (.call 93 [(I a0)] [] (B r) []) := by
  unfold impl_isMinute.f at h
  refine .call' [c_ 2, c_ 3] ?_
  refine .reg' [0] [] ⟨[(0, (I a0))], [], [], []⟩ [c_ 6, c_ 7] aln nocal ?_
  obtain ⟨x1, hx1, h⟩ := Option.bind_eq_some_iff.mp h
  refine .reg' [2] [.no, .c ⟨58, [(I a0), (I 0), (I 100000)], [], (B x1), [], [], [], [], (B x1), []⟩] ⟨[(2, (B x1))], [], [COK (hget []) [(I a0), (I 0), (I 100000)] ⟨58, [(I a0), (I 0), (I 100000)], [], (B x1), [], [], [], [], (B x1), []⟩], [⟨58, [(I a0), (I 0), (I 100000)], [], (B x1), [], [], [], [], (B x1), []⟩]⟩ [c_ 7] (alc (cok0 false (a2c (.z .s) (a2c (.z .s) (a2c (.z .s) a2n))) (.z .s) (fun h => absurd h (by decide))) aln) (acal (impl_between.J a0 0 100000 _ hx1) nocal) ?_
  have h := Option.some.inj h
  subst h
  exact .fin0 [] (B x1) [] aln (.z .s)
/-! impl_TripOk: function 76 -/
def impl_TripOk.l0 : Nat → S66 → Int → Option Bool
 | 0, _, _ => none
 | k + 1, a0, x3 => (if x3 < (a0.f1.length : Int) then (if 0 ≤ x3 then ((impl_between.f ((at_ a0.f1 x3).f0) 0 29).bind fun x4 => (if x4 = true then ((impl_isMinute.f ((at_ a0.f1 x3).f1)).bind fun x5 => (if x5 = true then ((impl_isMinute.f ((at_ a0.f1 x3).f2)).bind fun x6 => (if x6 = true then (if (at_ a0.f1 x3).f1 > (at_ a0.f1 x3).f2 then (some false) else (if x3 > 0 then (if 0 ≤ (wrap64 (x3 - 1)) then (if (wrap64 (x3 - 1)) < (a0.f1.length : Int) then (if (at_ a0.f1 x3).f1 ≤ (at_ a0.f1 (wrap64 (x3 - 1))).f2 then (some false) else (if (at_ a0.f1 x3).f0 = (at_ a0.f1 (wrap64 (x3 - 1))).f0 then (some false) else (impl_TripOk.l0 k a0 (wrap64 (x3 + 1))))) else none) else none) else (impl_TripOk.l0 k a0 (wrap64 (x3 + 1))))) else (some false))) else (some false))) else (some false))) else none) else (some true))
def impl_TripOk.f (k : Nat) (a0 : S66) : Option Bool := ((impl_nameOk.f k a0.f0).bind fun x1 => (if x1 = true then ((impl_between.f (a0.f1.length : Int) 2 12).bind fun x2 => (if x2 = true then (impl_TripOk.l0 k a0 0) else (some false))) else (some false)))
theorem impl_TripOk.lab : ∀ k, (∀ (a0 : S66) (x3 : Int) (r : Bool), impl_TripOk.l0 k a0 x3 = some r → J prog (.run 76 [] [l_ 58, b_ 0, c_ 15] [(1, (.pt 256 0 2)), (17, (.sl true a0.f1.length 3 (a0.f1.flatMap e89))), (18, (I (a0.f1.length : Int))), (19, (I x3))] [(256, [(S a0.f0), (.sl true a0.f1.length 3 (a0.f1.flatMap e89))])] (B r) []))
 | 0 => (by intro a0 x3 r h; unfold impl_TripOk.l0 at h; cases h)
 | k + 1 => by
  have ih0 := impl_TripOk.lab k
  · intro a0 x3 r h
    unfold impl_TripOk.l0 at h
    refine .loop' [c_ 232, c_ 233, l_ 58, b_ 0, c_ 15] ?_
    refine .reg' [1, 17, 18, 19, 20] [] ⟨[(1, (.pt 256 0 2)), (17, (.sl true a0.f1.length 3 (a0.f1.flatMap e89))), (18, (I (a0.f1.length : Int))), (19, (I x3)), (20, (B (decide (x3 < (a0.f1.length : Int)))))], [(256, [(S a0.f0), (.sl true a0.f1.length 3 (a0.f1.flatMap e89))])], [], []⟩ [c_ 466, c_ 467, l_ 58, b_ 0, c_ 15] aln nocal ?_
    by_cases c3 : x3 < (a0.f1.length : Int)
    · rw [if_pos c3] at h
      refine .cond' (.tmp 20) true [c_ 3736, c_ 3737, b_ 1, c_ 935, l_ 58, b_ 0, c_ 15] (bT (dT c3)) ?_
      by_cases c4 : 0 ≤ x3
      · rw [if_pos c4] at h
        refine .reg' [1, 3, 4, 17, 18, 19] [.no, .no, .v (.ag [(I (at_ a0.f1 x3).f0), (I (at_ a0.f1 x3).f1), (I (at_ a0.f1 x3).f2)])] ⟨[(1, (.pt 256 0 2)), (3, (I x3)), (4, (.pt 1539 0 3)), (17, (.sl true a0.f1.length 3 (a0.f1.flatMap e89))), (18, (I (a0.f1.length : Int))), (19, (I x3))], [(256, [(S a0.f0), (.sl true a0.f1.length 3 (a0.f1.flatMap e89))]), (1539, [(I (at_ a0.f1 x3).f0), (I (at_ a0.f1 x3).f1), (I (at_ a0.f1 x3).f2)])], [(0 : Int) ≤ x3 ∧ x3 < (a0.f1.length : Int), rdC prog 90 ((a0.f1.flatMap e89).drop (x3.toNat * 3)) = (.ag [(I (at_ a0.f1 x3).f0), (I (at_ a0.f1 x3).f1), (I (at_ a0.f1 x3).f2)]), 3 ≤ ((a0.f1.flatMap e89).drop (x3.toNat * 3)).length, 3 = 3 ∧ 0 + 3 ≤ 3], []⟩ [c_ 14948, c_ 14949, c_ 7475, b_ 1, c_ 935, l_ 58, b_ 0, c_ 15] (alc ⟨c4, c3⟩ (alc (ldA e89_ok rfl rfl c4 c3) (alc (okI e89_ok c4 c3 (by decide)) (alc ⟨rfl, by decide⟩ aln)))) nocal ?_
        obtain ⟨x4, hx4, h⟩ := Option.bind_eq_some_iff.mp h
        by_cases c5 : x4 = true
        · rw [if_pos c5] at h
          obtain ⟨x5, hx5, h⟩ := Option.bind_eq_some_iff.mp h
          by_cases c6 : x5 = true
          · rw [if_pos c6] at h
            obtain ⟨x6, hx6, h⟩ := Option.bind_eq_some_iff.mp h
            by_cases c7 : x6 = true
            · rw [if_pos c7] at h
              refine .reg' [1, 3, 4, 17, 18, 19, 46] [.no, .no, .c ⟨58, [(I (at_ a0.f1 x3).f0), (I 0), (I 29)], [], (B x4), [], [], [], [], (B x4), []⟩, .no, .v (B false), .no, .no, .c ⟨93, [(I (at_ a0.f1 x3).f1)], [], (B x5), [], [], [], [], (B x5), []⟩, .no, .no, .v (B false), .no, .no, .c ⟨93, [(I (at_ a0.f1 x3).f2)], [], (B x6), [], [], [], [], (B x6), []⟩, .no, .no, .v (B false)] ⟨[(1, (.pt 256 0 2)), (3, (I x3)), (4, (.pt 1539 0 3)), (17, (.sl true a0.f1.length 3 (a0.f1.flatMap e89))), (18, (I (a0.f1.length : Int))), (19, (I x3)), (46, (B (decide ((at_ a0.f1 x3).f1 > (at_ a0.f1 x3).f2))))], [(256, [(S a0.f0), (.sl true a0.f1.length 3 (a0.f1.flatMap e89))]), (1539, [(I (at_ a0.f1 x3).f0), (I (at_ a0.f1 x3).f1), (I (at_ a0.f1 x3).f2)])], [3 = 3 ∧ 0 + 1 ≤ 3, COK (hget [(256, [(S a0.f0), (.sl true a0.f1.length 3 (a0.f1.flatMap e89))]), (1539, [(I (at_ a0.f1 x3).f0), (I (at_ a0.f1 x3).f1), (I (at_ a0.f1 x3).f2)])]) [(I (at_ a0.f1 x3).f0), (I 0), (I 29)] ⟨58, [(I (at_ a0.f1 x3).f0), (I 0), (I 29)], [], (B x4), [], [], [], [], (B x4), []⟩, (B (!x4) : V) = B false, 3 = 3 ∧ 1 + 1 ≤ 3, COK (hget [(256, [(S a0.f0), (.sl true a0.f1.length 3 (a0.f1.flatMap e89))]), (1539, [(I (at_ a0.f1 x3).f0), (I (at_ a0.f1 x3).f1), (I (at_ a0.f1 x3).f2)])]) [(I (at_ a0.f1 x3).f1)] ⟨93, [(I (at_ a0.f1 x3).f1)], [], (B x5), [], [], [], [], (B x5), []⟩, (B (!x5) : V) = B false, 3 = 3 ∧ 2 + 1 ≤ 3, COK (hget [(256, [(S a0.f0), (.sl true a0.f1.length 3 (a0.f1.flatMap e89))]), (1539, [(I (at_ a0.f1 x3).f0), (I (at_ a0.f1 x3).f1), (I (at_ a0.f1 x3).f2)])]) [(I (at_ a0.f1 x3).f2)] ⟨93, [(I (at_ a0.f1 x3).f2)], [], (B x6), [], [], [], [], (B x6), []⟩, (B (!x6) : V) = B false, 3 = 3 ∧ 1 + 1 ≤ 3, 3 = 3 ∧ 2 + 1 ≤ 3], [⟨58, [(I (at_ a0.f1 x3).f0), (I 0), (I 29)], [], (B x4), [], [], [], [], (B x4), []⟩, ⟨93, [(I (at_ a0.f1 x3).f1)], [], (B x5), [], [], [], [], (B x5), []⟩, ⟨93, [(I (at_ a0.f1 x3).f2)], [], (B x6), [], [], [], [], (B x6), []⟩]⟩ [c_ 14949, c_ 7475, b_ 1, c_ 935, l_ 58, b_ 0, c_ 15] (alc ⟨rfl, by decide⟩ (alc (cok0 false (a2c (.z .s) (a2c (.z .s) (a2c (.z .s) a2n))) (.z .s) (fun h => absurd h (by decide))) (alc (bF (nF c5)) (alc ⟨rfl, by decide⟩ (alc (cok0 false (a2c (.z .s) a2n) (.z .s) (fun h => absurd h (by decide))) (alc (bF (nF c6)) (alc ⟨rfl, by decide⟩ (alc (cok0 false (a2c (.z .s) a2n) (.z .s) (fun h => absurd h (by decide))) (alc (bF (nF c7)) (alc ⟨rfl, by decide⟩ (alc ⟨rfl, by decide⟩ aln))))))))))) (acal (impl_between.J ((at_ a0.f1 x3).f0) 0 29 _ hx4) (acal (impl_isMinute.J ((at_ a0.f1 x3).f1) _ hx5) (acal (impl_isMinute.J ((at_ a0.f1 x3).f2) _ hx6) nocal))) ?_
              by_cases c8 : (at_ a0.f1 x3).f1 > (at_ a0.f1 x3).f2
              · rw [if_pos c8] at h
                refine .cond' (.tmp 46) true [c_ 59796, c_ 59797, c_ 7475, b_ 1, c_ 935, l_ 58, b_ 0, c_ 15] (bT (dT c8)) ?_
                refine .reg' [2] [] ⟨[(2, (B false))], [(256, [(S a0.f0), (.sl true a0.f1.length 3 (a0.f1.flatMap e89))]), (1539, [(I (at_ a0.f1 x3).f0), (I (at_ a0.f1 x3).f1), (I (at_ a0.f1 x3).f2)])], [], []⟩ [c_ 59797, c_ 7475, b_ 1, c_ 935, l_ 58, b_ 0, c_ 15] aln nocal ?_
                have h := Option.some.inj h
                subst h
                exact .fin0 [] (B false) [] aln (.z .s)
              · rw [if_neg c8] at h
                refine .cond' (.tmp 46) false [c_ 14950, c_ 14951, b_ 1, c_ 935, l_ 58, b_ 0, c_ 15] (bF (dF c8)) ?_
                by_cases c9 : x3 > 0
                · rw [if_pos c9] at h
                  by_cases c10 : 0 ≤ (wrap64 (x3 - 1))
                  · rw [if_pos c10] at h
                    by_cases c11 : (wrap64 (x3 - 1)) < (a0.f1.length : Int)
                    · rw [if_pos c11] at h
                      by_cases c12 : (at_ a0.f1 x3).f1 ≤ (at_ a0.f1 (wrap64 (x3 - 1))).f2
                      · rw [if_pos c12] at h
                        refine .reg' [1, 17, 18, 19, 72] [.no, .no, .v (B true), .no, .no, .no, .no, .no, .no, .no, .no, .v (I (at_ a0.f1 (wrap64 (x3 - 1))).f2), .no, .v (B true)] ⟨[(1, (.pt 256 0 2)), (17, (.sl true a0.f1.length 3 (a0.f1.flatMap e89))), (18, (I (a0.f1.length : Int))), (19, (I x3)), (72, (B true))], [(256, [(S a0.f0), (.sl true a0.f1.length 3 (a0.f1.flatMap e89))]), (1539, [(I (at_ a0.f1 x3).f0), (I (at_ a0.f1 x3).f1), (I (at_ a0.f1 x3).f2)])], [(B (decide (x3 > 0)) : V) = B true, 3 = 3 ∧ 1 + 1 ≤ 3, 2 = 2 ∧ 1 + 1 ≤ 2, (0 : Int) ≤ (wrap64 (x3 - 1)) ∧ (wrap64 (x3 - 1)) < (a0.f1.length : Int), rdC prog 3 (((a0.f1.flatMap e89).drop ((wrap64 (x3 - 1)).toNat * 3)).drop 2) = (I (at_ a0.f1 (wrap64 (x3 - 1))).f2), 1 ≤ (((a0.f1.flatMap e89).drop ((wrap64 (x3 - 1)).toNat * 3)).drop 2).length, (B (decide ((at_ a0.f1 x3).f1 ≤ (at_ a0.f1 (wrap64 (x3 - 1))).f2)) : V) = B true], []⟩ [c_ 14951, b_ 1, c_ 935, l_ 58, b_ 0, c_ 15] (alc (bT (dT c9)) (alc ⟨rfl, by decide⟩ (alc ⟨rfl, by decide⟩ (alc ⟨c10, c11⟩ (alc (ldC e89_ok 2 (by decide) rfl c10 c11) (alc (okIj e89_ok c10 c11 (by decide)) (alc (bT (dT c12)) aln))))))) nocal ?_
                        refine .cond' (.tmp 72) true [c_ 59804, c_ 59805, b_ 1, c_ 935, l_ 58, b_ 0, c_ 15] (rfl) ?_
                        refine .reg' [2] [] ⟨[(2, (B false))], [(256, [(S a0.f0), (.sl true a0.f1.length 3 (a0.f1.flatMap e89))]), (1539, [(I (at_ a0.f1 x3).f0), (I (at_ a0.f1 x3).f1), (I (at_ a0.f1 x3).f2)])], [], []⟩ [c_ 59805, b_ 1, c_ 935, l_ 58, b_ 0, c_ 15] aln nocal ?_
                        have h := Option.some.inj h
                        subst h
                        exact .fin0 [] (B false) [] aln (.z .s)
                      · rw [if_neg c12] at h
                        refine .reg' [1, 17, 18, 19, 72] [.no, .no, .v (B true), .no, .no, .no, .no, .no, .no, .no, .no, .v (I (at_ a0.f1 (wrap64 (x3 - 1))).f2), .no, .v (B false), .no, .no, .no, .no, .no, .no, .no, .no, .v (I (at_ a0.f1 (wrap64 (x3 - 1))).f0)] ⟨[(1, (.pt 256 0 2)), (17, (.sl true a0.f1.length 3 (a0.f1.flatMap e89))), (18, (I (a0.f1.length : Int))), (19, (I x3)), (72, (B ((at_ a0.f1 x3).f0 == (at_ a0.f1 (wrap64 (x3 - 1))).f0)))], [(256, [(S a0.f0), (.sl true a0.f1.length 3 (a0.f1.flatMap e89))]), (1539, [(I (at_ a0.f1 x3).f0), (I (at_ a0.f1 x3).f1), (I (at_ a0.f1 x3).f2)])], [(B (decide (x3 > 0)) : V) = B true, 3 = 3 ∧ 1 + 1 ≤ 3, 2 = 2 ∧ 1 + 1 ≤ 2, (0 : Int) ≤ (wrap64 (x3 - 1)) ∧ (wrap64 (x3 - 1)) < (a0.f1.length : Int), rdC prog 3 (((a0.f1.flatMap e89).drop ((wrap64 (x3 - 1)).toNat * 3)).drop 2) = (I (at_ a0.f1 (wrap64 (x3 - 1))).f2), 1 ≤ (((a0.f1.flatMap e89).drop ((wrap64 (x3 - 1)).toNat * 3)).drop 2).length, (B (decide ((at_ a0.f1 x3).f1 ≤ (at_ a0.f1 (wrap64 (x3 - 1))).f2)) : V) = B false, 3 = 3 ∧ 0 + 1 ≤ 3, 2 = 2 ∧ 1 + 1 ≤ 2, (0 : Int) ≤ (wrap64 (x3 - 1)) ∧ (wrap64 (x3 - 1)) < (a0.f1.length : Int), rdC prog 3 (((a0.f1.flatMap e89).drop ((wrap64 (x3 - 1)).toNat * 3)).drop 0) = (I (at_ a0.f1 (wrap64 (x3 - 1))).f0), 1 ≤ (((a0.f1.flatMap e89).drop ((wrap64 (x3 - 1)).toNat * 3)).drop 0).length], []⟩ [c_ 14951, b_ 1, c_ 935, l_ 58, b_ 0, c_ 15] (alc (bT (dT c9)) (alc ⟨rfl, by decide⟩ (alc ⟨rfl, by decide⟩ (alc ⟨c10, c11⟩ (alc (ldC e89_ok 2 (by decide) rfl c10 c11) (alc (okIj e89_ok c10 c11 (by decide)) (alc (bF (dF c12)) (alc ⟨rfl, by decide⟩ (alc ⟨rfl, by decide⟩ (alc ⟨c10, c11⟩ (alc (ldC e89_ok 0 (by decide) rfl c10 c11) (alc (okIj e89_ok c10 c11 (by decide)) aln)))))))))))) nocal ?_
                        by_cases c13 : (at_ a0.f1 x3).f0 = (at_ a0.f1 (wrap64 (x3 - 1))).f0
                        · rw [if_pos c13] at h
                          refine .cond' (.tmp 72) true [c_ 59804, c_ 59805, b_ 1, c_ 935, l_ 58, b_ 0, c_ 15] (bT (qT c13)) ?_
                          refine .reg' [2] [] ⟨[(2, (B false))], [(256, [(S a0.f0), (.sl true a0.f1.length 3 (a0.f1.flatMap e89))]), (1539, [(I (at_ a0.f1 x3).f0), (I (at_ a0.f1 x3).f1), (I (at_ a0.f1 x3).f2)])], [], []⟩ [c_ 59805, b_ 1, c_ 935, l_ 58, b_ 0, c_ 15] aln nocal ?_
                          have h := Option.some.inj h
                          subst h
                          exact .fin0 [] (B false) [] aln (.z .s)
                        · rw [if_neg c13] at h
                          refine .cond' (.tmp 72) false [c_ 935, l_ 58, b_ 0, c_ 15] (bF (qF c13)) ?_
                          refine .reg' [1, 17, 18, 19] [] ⟨[(1, (.pt 256 0 2)), (17, (.sl true a0.f1.length 3 (a0.f1.flatMap e89))), (18, (I (a0.f1.length : Int))), (19, (I (wrap64 (x3 + 1))))], [(256, [(S a0.f0), (.sl true a0.f1.length 3 (a0.f1.flatMap e89))]), (1539, [(I (at_ a0.f1 x3).f0), (I (at_ a0.f1 x3).f1), (I (at_ a0.f1 x3).f2)])], [], []⟩ [l_ 58, b_ 0, c_ 15] aln nocal ?_
                          refine .wk' [] [(256, 256)] [(1, (.pt 256 0 2)), (17, (.sl true a0.f1.length 3 (a0.f1.flatMap e89))), (18, (I (a0.f1.length : Int))), (19, (I (wrap64 (x3 + 1))))] [(256, [(S a0.f0), (.sl true a0.f1.length 3 (a0.f1.flatMap e89))])] (shc 256 (a2c (.z .s) (a2c (.z (frz_sl e89_ok (fun h => h))) a2n)) shn) (enc_ (.pt (memP_mem (p := (256, 256)) rfl)) (enc_ (.z (frz_sl e89_ok (fun h => h))) (enc_ (.z .s) (enc_ (.z .s) enn)))) ?_
                          exact ih0 a0 (wrap64 (x3 + 1)) _ h
                    · rw [if_neg c11] at h
                      cases h
                  · rw [if_neg c10] at h
                    cases h
                · rw [if_neg c9] at h
                  refine .reg' [1, 17, 18, 19, 72] [.no, .no, .v (B false)] ⟨[(1, (.pt 256 0 2)), (17, (.sl true a0.f1.length 3 (a0.f1.flatMap e89))), (18, (I (a0.f1.length : Int))), (19, (I x3)), (72, (B false))], [(256, [(S a0.f0), (.sl true a0.f1.length 3 (a0.f1.flatMap e89))]), (1539, [(I (at_ a0.f1 x3).f0), (I (at_ a0.f1 x3).f1), (I (at_ a0.f1 x3).f2)])], [(B (decide (x3 > 0)) : V) = B false], []⟩ [c_ 14951, b_ 1, c_ 935, l_ 58, b_ 0, c_ 15] (alc (bF (dF c9)) aln) nocal ?_
                  refine .cond' (.tmp 72) false [c_ 935, l_ 58, b_ 0, c_ 15] (rfl) ?_
                  refine .reg' [1, 17, 18, 19] [] ⟨[(1, (.pt 256 0 2)), (17, (.sl true a0.f1.length 3 (a0.f1.flatMap e89))), (18, (I (a0.f1.length : Int))), (19, (I (wrap64 (x3 + 1))))], [(256, [(S a0.f0), (.sl true a0.f1.length 3 (a0.f1.flatMap e89))]), (1539, [(I (at_ a0.f1 x3).f0), (I (at_ a0.f1 x3).f1), (I (at_ a0.f1 x3).f2)])], [], []⟩ [l_ 58, b_ 0, c_ 15] aln nocal ?_
                  refine .wk' [] [(256, 256)] [(1, (.pt 256 0 2)), (17, (.sl true a0.f1.length 3 (a0.f1.flatMap e89))), (18, (I (a0.f1.length : Int))), (19, (I (wrap64 (x3 + 1))))] [(256, [(S a0.f0), (.sl true a0.f1.length 3 (a0.f1.flatMap e89))])] (shc 256 (a2c (.z .s) (a2c (.z (frz_sl e89_ok (fun h => h))) a2n)) shn) (enc_ (.pt (memP_mem (p := (256, 256)) rfl)) (enc_ (.z (frz_sl e89_ok (fun h => h))) (enc_ (.z .s) (enc_ (.z .s) enn)))) ?_
                  exact ih0 a0 (wrap64 (x3 + 1)) _ h
            · rw [if_neg c7] at h
              refine .reg' [1, 3, 4, 17, 18, 19, 46] [.no, .no, .c ⟨58, [(I (at_ a0.f1 x3).f0), (I 0), (I 29)], [], (B x4), [], [], [], [], (B x4), []⟩, .no, .v (B false), .no, .no, .c ⟨93, [(I (at_ a0.f1 x3).f1)], [], (B x5), [], [], [], [], (B x5), []⟩, .no, .no, .v (B false), .no, .no, .c ⟨93, [(I (at_ a0.f1 x3).f2)], [], (B x6), [], [], [], [], (B x6), []⟩, .no, .no, .v (B true)] ⟨[(1, (.pt 256 0 2)), (3, (I x3)), (4, (.pt 1539 0 3)), (17, (.sl true a0.f1.length 3 (a0.f1.flatMap e89))), (18, (I (a0.f1.length : Int))), (19, (I x3)), (46, (B true))], [(256, [(S a0.f0), (.sl true a0.f1.length 3 (a0.f1.flatMap e89))]), (1539, [(I (at_ a0.f1 x3).f0), (I (at_ a0.f1 x3).f1), (I (at_ a0.f1 x3).f2)])], [3 = 3 ∧ 0 + 1 ≤ 3, COK (hget [(256, [(S a0.f0), (.sl true a0.f1.length 3 (a0.f1.flatMap e89))]), (1539, [(I (at_ a0.f1 x3).f0), (I (at_ a0.f1 x3).f1), (I (at_ a0.f1 x3).f2)])]) [(I (at_ a0.f1 x3).f0), (I 0), (I 29)] ⟨58, [(I (at_ a0.f1 x3).f0), (I 0), (I 29)], [], (B x4), [], [], [], [], (B x4), []⟩, (B (!x4) : V) = B false, 3 = 3 ∧ 1 + 1 ≤ 3, COK (hget [(256, [(S a0.f0), (.sl true a0.f1.length 3 (a0.f1.flatMap e89))]), (1539, [(I (at_ a0.f1 x3).f0), (I (at_ a0.f1 x3).f1), (I (at_ a0.f1 x3).f2)])]) [(I (at_ a0.f1 x3).f1)] ⟨93, [(I (at_ a0.f1 x3).f1)], [], (B x5), [], [], [], [], (B x5), []⟩, (B (!x5) : V) = B false, 3 = 3 ∧ 2 + 1 ≤ 3, COK (hget [(256, [(S a0.f0), (.sl true a0.f1.length 3 (a0.f1.flatMap e89))]), (1539, [(I (at_ a0.f1 x3).f0), (I (at_ a0.f1 x3).f1), (I (at_ a0.f1 x3).f2)])]) [(I (at_ a0.f1 x3).f2)] ⟨93, [(I (at_ a0.f1 x3).f2)], [], (B x6), [], [], [], [], (B x6), []⟩, (B (!x6) : V) = B true], [⟨58, [(I (at_ a0.f1 x3).f0), (I 0), (I 29)], [], (B x4), [], [], [], [], (B x4), []⟩, ⟨93, [(I (at_ a0.f1 x3).f1)], [], (B x5), [], [], [], [], (B x5), []⟩, ⟨93, [(I (at_ a0.f1 x3).f2)], [], (B x6), [], [], [], [], (B x6), []⟩]⟩ [c_ 14949, c_ 7475, b_ 1, c_ 935, l_ 58, b_ 0, c_ 15] (alc ⟨rfl, by decide⟩ (alc (cok0 false (a2c (.z .s) (a2c (.z .s) (a2c (.z .s) a2n))) (.z .s) (fun h => absurd h (by decide))) (alc (bF (nF c5)) (alc ⟨rfl, by decide⟩ (alc (cok0 false (a2c (.z .s) a2n) (.z .s) (fun h => absurd h (by decide))) (alc (bF (nF c6)) (alc ⟨rfl, by decide⟩ (alc (cok0 false (a2c (.z .s) a2n) (.z .s) (fun h => absurd h (by decide))) (alc (bT (nT (vF c7))) aln))))))))) (acal (impl_between.J ((at_ a0.f1 x3).f0) 0 29 _ hx4) (acal (impl_isMinute.J ((at_ a0.f1 x3).f1) _ hx5) (acal (impl_isMinute.J ((at_ a0.f1 x3).f2) _ hx6) nocal))) ?_
              refine .cond' (.tmp 46) true [c_ 59796, c_ 59797, c_ 7475, b_ 1, c_ 935, l_ 58, b_ 0, c_ 15] (rfl) ?_
              refine .reg' [2] [] ⟨[(2, (B false))], [(256, [(S a0.f0), (.sl true a0.f1.length 3 (a0.f1.flatMap e89))]), (1539, [(I (at_ a0.f1 x3).f0), (I (at_ a0.f1 x3).f1), (I (at_ a0.f1 x3).f2)])], [], []⟩ [c_ 59797, c_ 7475, b_ 1, c_ 935, l_ 58, b_ 0, c_ 15] aln nocal ?_
              have h := Option.some.inj h
              subst h
              exact .fin0 [] (B false) [] aln (.z .s)
          · rw [if_neg c6] at h
            refine .reg' [1, 3, 4, 17, 18, 19, 46] [.no, .no, .c ⟨58, [(I (at_ a0.f1 x3).f0), (I 0), (I 29)], [], (B x4), [], [], [], [], (B x4), []⟩, .no, .v (B false), .no, .no, .c ⟨93, [(I (at_ a0.f1 x3).f1)], [], (B x5), [], [], [], [], (B x5), []⟩, .no, .no, .v (B true)] ⟨[(1, (.pt 256 0 2)), (3, (I x3)), (4, (.pt 1539 0 3)), (17, (.sl true a0.f1.length 3 (a0.f1.flatMap e89))), (18, (I (a0.f1.length : Int))), (19, (I x3)), (46, (B true))], [(256, [(S a0.f0), (.sl true a0.f1.length 3 (a0.f1.flatMap e89))]), (1539, [(I (at_ a0.f1 x3).f0), (I (at_ a0.f1 x3).f1), (I (at_ a0.f1 x3).f2)])], [3 = 3 ∧ 0 + 1 ≤ 3, COK (hget [(256, [(S a0.f0), (.sl true a0.f1.length 3 (a0.f1.flatMap e89))]), (1539, [(I (at_ a0.f1 x3).f0), (I (at_ a0.f1 x3).f1), (I (at_ a0.f1 x3).f2)])]) [(I (at_ a0.f1 x3).f0), (I 0), (I 29)] ⟨58, [(I (at_ a0.f1 x3).f0), (I 0), (I 29)], [], (B x4), [], [], [], [], (B x4), []⟩, (B (!x4) : V) = B false, 3 = 3 ∧ 1 + 1 ≤ 3, COK (hget [(256, [(S a0.f0), (.sl true a0.f1.length 3 (a0.f1.flatMap e89))]), (1539, [(I (at_ a0.f1 x3).f0), (I (at_ a0.f1 x3).f1), (I (at_ a0.f1 x3).f2)])]) [(I (at_ a0.f1 x3).f1)] ⟨93, [(I (at_ a0.f1 x3).f1)], [], (B x5), [], [], [], [], (B x5), []⟩, (B (!x5) : V) = B true], [⟨58, [(I (at_ a0.f1 x3).f0), (I 0), (I 29)], [], (B x4), [], [], [], [], (B x4), []⟩, ⟨93, [(I (at_ a0.f1 x3).f1)], [], (B x5), [], [], [], [], (B x5), []⟩]⟩ [c_ 14949, c_ 7475, b_ 1, c_ 935, l_ 58, b_ 0, c_ 15] (alc ⟨rfl, by decide⟩ (alc (cok0 false (a2c (.z .s) (a2c (.z .s) (a2c (.z .s) a2n))) (.z .s) (fun h => absurd h (by decide))) (alc (bF (nF c5)) (alc ⟨rfl, by decide⟩ (alc (cok0 false (a2c (.z .s) a2n) (.z .s) (fun h => absurd h (by decide))) (alc (bT (nT (vF c6))) aln)))))) (acal (impl_between.J ((at_ a0.f1 x3).f0) 0 29 _ hx4) (acal (impl_isMinute.J ((at_ a0.f1 x3).f1) _ hx5) nocal)) ?_
            refine .cond' (.tmp 46) true [c_ 59796, c_ 59797, c_ 7475, b_ 1, c_ 935, l_ 58, b_ 0, c_ 15] (rfl) ?_
            refine .reg' [2] [] ⟨[(2, (B false))], [(256, [(S a0.f0), (.sl true a0.f1.length 3 (a0.f1.flatMap e89))]), (1539, [(I (at_ a0.f1 x3).f0), (I (at_ a0.f1 x3).f1), (I (at_ a0.f1 x3).f2)])], [], []⟩ [c_ 59797, c_ 7475, b_ 1, c_ 935, l_ 58, b_ 0, c_ 15] aln nocal ?_
            have h := Option.some.inj h
            subst h
            exact .fin0 [] (B false) [] aln (.z .s)
        · rw [if_neg c5] at h
          refine .reg' [1, 3, 4, 17, 18, 19, 46] [.no, .no, .c ⟨58, [(I (at_ a0.f1 x3).f0), (I 0), (I 29)], [], (B x4), [], [], [], [], (B x4), []⟩, .no, .v (B true)] ⟨[(1, (.pt 256 0 2)), (3, (I x3)), (4, (.pt 1539 0 3)), (17, (.sl true a0.f1.length 3 (a0.f1.flatMap e89))), (18, (I (a0.f1.length : Int))), (19, (I x3)), (46, (B true))], [(256, [(S a0.f0), (.sl true a0.f1.length 3 (a0.f1.flatMap e89))]), (1539, [(I (at_ a0.f1 x3).f0), (I (at_ a0.f1 x3).f1), (I (at_ a0.f1 x3).f2)])], [3 = 3 ∧ 0 + 1 ≤ 3, COK (hget [(256, [(S a0.f0), (.sl true a0.f1.length 3 (a0.f1.flatMap e89))]), (1539, [(I (at_ a0.f1 x3).f0), (I (at_ a0.f1 x3).f1), (I (at_ a0.f1 x3).f2)])]) [(I (at_ a0.f1 x3).f0), (I 0), (I 29)] ⟨58, [(I (at_ a0.f1 x3).f0), (I 0), (I 29)], [], (B x4), [], [], [], [], (B x4), []⟩, (B (!x4) : V) = B true], [⟨58, [(I (at_ a0.f1 x3).f0), (I 0), (I 29)], [], (B x4), [], [], [], [], (B x4), []⟩]⟩ [c_ 14949, c_ 7475, b_ 1, c_ 935, l_ 58, b_ 0, c_ 15] (alc ⟨rfl, by decide⟩ (alc (cok0 false (a2c (.z .s) (a2c (.z .s) (a2c (.z .s) a2n))) (.z .s) (fun h => absurd h (by decide))) (alc (bT (nT (vF c5))) aln))) (acal (impl_between.J ((at_ a0.f1 x3).f0) 0 29 _ hx4) nocal) ?_
          refine .cond' (.tmp 46) true [c_ 59796, c_ 59797, c_ 7475, b_ 1, c_ 935, l_ 58, b_ 0, c_ 15] (rfl) ?_
          refine .reg' [2] [] ⟨[(2, (B false))], [(256, [(S a0.f0), (.sl true a0.f1.length 3 (a0.f1.flatMap e89))]), (1539, [(I (at_ a0.f1 x3).f0), (I (at_ a0.f1 x3).f1), (I (at_ a0.f1 x3).f2)])], [], []⟩ [c_ 59797, c_ 7475, b_ 1, c_ 935, l_ 58, b_ 0, c_ 15] aln nocal ?_
          have h := Option.some.inj h
          subst h
          exact .fin0 [] (B false) [] aln (.z .s)
      · rw [if_neg c4] at h
        cases h
    · rw [if_neg c3] at h
      refine .cond' (.tmp 20) false [c_ 30, c_ 31] (bF (dF c3)) ?_
      refine .reg' [2] [] ⟨[(2, (B true))], [(256, [(S a0.f0), (.sl true a0.f1.length 3 (a0.f1.flatMap e89))])], [], []⟩ [c_ 31] aln nocal ?_
      have h := Option.some.inj h
      subst h
      exact .fin0 [] (B true) [] aln (.z .s)
theorem impl_TripOk.J (k : Nat) (a0 : S66) (r : Bool) (h : impl_TripOk.f k a0 = some r) : J prog (.call 76 [(.ag [(S a0.f0), (.sl true a0.f1.length 3 (a0.f1.flatMap e89))])] [] (B r) []) := by
  unfold impl_TripOk.f at h
  have ih0 := impl_TripOk.lab k
  refine .call' [c_ 2, c_ 3] ?_
  refine .reg' [1] [] ⟨[(1, (.pt 256 0 2))], [(256, [(S a0.f0), (.sl true a0.f1.length 3 (a0.f1.flatMap e89))])], [], []⟩ [c_ 12, c_ 13, c_ 7] aln nocal ?_
  obtain ⟨x1, hx1, h⟩ := Option.bind_eq_some_iff.mp h
  by_cases c1 : x1 = true
  · rw [if_pos c1] at h
    obtain ⟨x2, hx2, h⟩ := Option.bind_eq_some_iff.mp h
    refine .reg' [1, 15] [.no, .no, .c ⟨92, [(S a0.f0)], [], (B x1), [], [], [], [], (B x1), []⟩, .no, .v (B false), .no, .no, .no, .c ⟨58, [(I (a0.f1.length : Int)), (I 2), (I 12)], [], (B x2), [], [], [], [], (B x2), []⟩] ⟨[(1, (.pt 256 0 2)), (15, (B (!x2)))], [(256, [(S a0.f0), (.sl true a0.f1.length 3 (a0.f1.flatMap e89))])], [2 = 2 ∧ 0 + 1 ≤ 2, COK (hget [(256, [(S a0.f0), (.sl true a0.f1.length 3 (a0.f1.flatMap e89))])]) [(S a0.f0)] ⟨92, [(S a0.f0)], [], (B x1), [], [], [], [], (B x1), []⟩, (B (!x1) : V) = B false, 2 = 2 ∧ 1 + 1 ≤ 2, COK (hget [(256, [(S a0.f0), (.sl true a0.f1.length 3 (a0.f1.flatMap e89))])]) [(I (a0.f1.length : Int)), (I 2), (I 12)] ⟨58, [(I (a0.f1.length : Int)), (I 2), (I 12)], [], (B x2), [], [], [], [], (B x2), []⟩], [⟨92, [(S a0.f0)], [], (B x1), [], [], [], [], (B x1), []⟩, ⟨58, [(I (a0.f1.length : Int)), (I 2), (I 12)], [], (B x2), [], [], [], [], (B x2), []⟩]⟩ [c_ 13, c_ 7] (alc ⟨rfl, by decide⟩ (alc (cok0 false (a2c (.z .s) a2n) (.z .s) (fun h => absurd h (by decide))) (alc (bF (nF c1)) (alc ⟨rfl, by decide⟩ (alc (cok0 false (a2c (.z .s) (a2c (.z .s) (a2c (.z .s) a2n))) (.z .s) (fun h => absurd h (by decide))) aln))))) (acal (impl_nameOk.J k a0.f0 _ hx1) (acal (impl_between.J (a0.f1.length : Int) 2 12 _ hx2) nocal)) ?_
    by_cases c2 : x2 = true
    · rw [if_pos c2] at h
      refine .cond' (.tmp 15) false [c_ 28, c_ 29, c_ 15] (bF (nF c2)) ?_
      refine .reg' [1, 17, 18, 19] [] ⟨[(1, (.pt 256 0 2)), (17, (.sl true a0.f1.length 3 (a0.f1.flatMap e89))), (18, (I (a0.f1.length : Int))), (19, (I 0))], [(256, [(S a0.f0), (.sl true a0.f1.length 3 (a0.f1.flatMap e89))])], [2 = 2 ∧ 1 + 1 ≤ 2], []⟩ [l_ 58, b_ 0, c_ 15] (alc ⟨rfl, by decide⟩ aln) nocal ?_
      exact ih0 a0 0 _ h
    · rw [if_neg c2] at h
      refine .cond' (.tmp 15) true [c_ 52, c_ 53, c_ 7] (bT (nT (vF c2))) ?_
      refine .reg' [2] [] ⟨[(2, (B false))], [(256, [(S a0.f0), (.sl true a0.f1.length 3 (a0.f1.flatMap e89))])], [], []⟩ [c_ 53, c_ 7] aln nocal ?_
      have h := Option.some.inj h
      subst h
      exact .fin0 [] (B false) [] aln (.z .s)
  · rw [if_neg c1] at h
    refine .reg' [1, 15] [.no, .no, .c ⟨92, [(S a0.f0)], [], (B x1), [], [], [], [], (B x1), []⟩, .no, .v (B true)] ⟨[(1, (.pt 256 0 2)), (15, (B true))], [(256, [(S a0.f0), (.sl true a0.f1.length 3 (a0.f1.flatMap e89))])], [2 = 2 ∧ 0 + 1 ≤ 2, COK (hget [(256, [(S a0.f0), (.sl true a0.f1.length 3 (a0.f1.flatMap e89))])]) [(S a0.f0)] ⟨92, [(S a0.f0)], [], (B x1), [], [], [], [], (B x1), []⟩, (B (!x1) : V) = B true], [⟨92, [(S a0.f0)], [], (B x1), [], [], [], [], (B x1), []⟩]⟩ [c_ 13, c_ 7] (alc ⟨rfl, by decide⟩ (alc (cok0 false (a2c (.z .s) a2n) (.z .s) (fun h => absurd h (by decide))) (alc (bT (nT (vF c1))) aln))) (acal (impl_nameOk.J k a0.f0 _ hx1) nocal) ?_
    refine .cond' (.tmp 15) true [c_ 52, c_ 53, c_ 7] (rfl) ?_
    refine .reg' [2] [] ⟨[(2, (B false))], [(256, [(S a0.f0), (.sl true a0.f1.length 3 (a0.f1.flatMap e89))])], [], []⟩ [c_ 53, c_ 7] aln nocal ?_
    have h := Option.some.inj h
    subst h
    exact .fin0 [] (B false) [] aln (.z .s)
/-! impl_tripNamed_1: function 95 -/
def impl_tripNamed_1.f (a0 : S66) (a1c0 : ByteArray) : Option (Bool × ByteArray) := (some ((sEq a0.f0 a1c0), a1c0))
theorem impl_tripNamed_1.J (a0 : S66) (a1c0 : ByteArray) (r : (Bool × ByteArray)) (h : impl_tripNamed_1.f a0 a1c0 = some r) : J prog (.call 95 [(.ag [(S a0.f0), (.sl true a0.f1.length 3 (a0.f1.flatMap e89))]), (.pt 24 0 1)] [(24, [(S a1c0)])] (B r.1) [(24, [(S r.2)])]) := by
  unfold impl_tripNamed_1.f at h
  refine .call' [c_ 2, c_ 3] ?_
  refine .reg' [1, 2] [] ⟨[(1, (.pt 24 0 1)), (2, (.pt 256 0 2))], [(24, [(S a1c0)]), (256, [(S a0.f0), (.sl true a0.f1.length 3 (a0.f1.flatMap e89))])], [], []⟩ [c_ 6, c_ 7] aln nocal ?_
  refine .reg' [3] [] ⟨[(3, (B (sEq a0.f0 a1c0)))], [(24, [(S a1c0)]), (256, [(S a0.f0), (.sl true a0.f1.length 3 (a0.f1.flatMap e89))])], [2 = 2 ∧ 0 + 1 ≤ 2, 1 = 1 ∧ 0 + 1 ≤ 1], []⟩ [c_ 7] (alc ⟨rfl, by decide⟩ (alc ⟨rfl, by decide⟩ aln)) nocal ?_
  have h := Option.some.inj h
  subst h
  exact .fin' [] [(24, 24)] (B (sEq a0.f0 a1c0)) [] aln (shc 24 (a2c (.z .s) a2n) shn) (.z .s)
/-! slices_IndexFunc_1: function 94 -/
def slices_IndexFunc_1.l0 : Nat → (List S66) → ByteArray → Int → Option (Int × ByteArray)
 | 0, _, _, _ => none
 | k + 1, a0, x1, x2 => (if x2 < (a0.length : Int) then (if 0 ≤ x2 then ((impl_tripNamed_1.f (at_ a0 x2) x1).bind fun x3 => (if x3.1 = true then (some (x2, x3.2)) else (slices_IndexFunc_1.l0 k a0 x3.2 (wrap64 (x2 + 1))))) else none) else (some ((-1), x1)))
def slices_IndexFunc_1.f (k : Nat) (a0 : (List S66)) (a1c0 : ByteArray) : Option (Int × ByteArray) := (slices_IndexFunc_1.l0 k a0 a1c0 0)
theorem slices_IndexFunc_1.lab : ∀ k, (∀ (a0 : (List S66)) (x1 : ByteArray) (x2 : Int) (r : (Int × ByteArray)), slices_IndexFunc_1.l0 k a0 x1 x2 = some r → J prog (.run 94 [24] [l_ 26, b_ 0, c_ 7] [(0, (.sl true a0.length 2 (a0.flatMap (e66 true)))), (1, (.fn (.func 95) [] [(.pt 24 0 1)])), (7, (I (a0.length : Int))), (8, (I x2))] [(24, [(S x1)])] (I r.1) [(24, [(S r.2)])]))
 | 0 => (by intro a0 x1 x2 r h; unfold slices_IndexFunc_1.l0 at h; cases h)
 | k + 1 => by
  have ih0 := slices_IndexFunc_1.lab k
  · intro a0 x1 x2 r h
    unfold slices_IndexFunc_1.l0 at h
    refine .loop' [c_ 104, c_ 105, l_ 26, b_ 0, c_ 7] ?_
    refine .reg' [0, 1, 7, 8, 9] [] ⟨[(0, (.sl true a0.length 2 (a0.flatMap (e66 true)))), (1, (.fn (.func 95) [] [(.pt 24 0 1)])), (7, (I (a0.length : Int))), (8, (I x2)), (9, (B (decide (x2 < (a0.length : Int)))))], [(24, [(S x1)])], [], []⟩ [c_ 210, c_ 211, l_ 26, b_ 0, c_ 7] aln nocal ?_
    by_cases c1 : x2 < (a0.length : Int)
    · rw [if_pos c1] at h
      refine .cond' (.tmp 9) true [c_ 1688, c_ 1689, b_ 1, c_ 423, l_ 26, b_ 0, c_ 7] (bT (dT c1)) ?_
      refine .reg' [0, 1, 5, 7, 8] [] ⟨[(0, (.sl true a0.length 2 (a0.flatMap (e66 true)))), (1, (.fn (.func 95) [] [(.pt 24 0 1)])), (5, (I x2)), (7, (I (a0.length : Int))), (8, (I x2))], [(24, [(S x1)])], [], []⟩ [c_ 3378, c_ 3379, b_ 1, c_ 423, l_ 26, b_ 0, c_ 7] aln nocal ?_
      by_cases c2 : 0 ≤ x2
      · rw [if_pos c2] at h
        obtain ⟨x3, hx3, h⟩ := Option.bind_eq_some_iff.mp h
        refine .reg' [0, 1, 5, 7, 8, 16] [.no, .no, .no, .no, .v (.ag [(S (at_ a0 x2).f0), (.sl true (at_ a0 x2).f1.length 3 ((at_ a0 x2).f1.flatMap e89))]), .c ⟨95, [(.ag [(S (at_ a0 x2).f0), (.sl true (at_ a0 x2).f1.length 3 ((at_ a0 x2).f1.flatMap e89))]), (.pt 24 0 1)], [(24, [(S x1)])], (B x3.1), [(24, [(S x3.2)])], [], [(24, 24)], [(24, 24)], (B x3.1), [(24, [(S x3.2)])]⟩] ⟨[(0, (.sl true a0.length 2 (a0.flatMap (e66 true)))), (1, (.fn (.func 95) [] [(.pt 24 0 1)])), (5, (I x2)), (7, (I (a0.length : Int))), (8, (I x2)), (16, (B x3.1))], [(24, [(S x3.2)])], [(0 : Int) ≤ x2 ∧ x2 < (a0.length : Int), rdC prog 67 ((a0.flatMap (e66 true)).drop (x2.toNat * 2)) = (.ag [(S (at_ a0 x2).f0), (.sl true (at_ a0 x2).f1.length 3 ((at_ a0 x2).f1.flatMap e89))]), 2 ≤ ((a0.flatMap (e66 true)).drop (x2.toNat * 2)).length, COK (hget [(24, [(S x1)])]) [(.ag [(S (at_ a0 x2).f0), (.sl true (at_ a0 x2).f1.length 3 ((at_ a0 x2).f1.flatMap e89))]), (.pt 24 0 1)] ⟨95, [(.ag [(S (at_ a0 x2).f0), (.sl true (at_ a0 x2).f1.length 3 ((at_ a0 x2).f1.flatMap e89))]), (.pt 24 0 1)], [(24, [(S x1)])], (B x3.1), [(24, [(S x3.2)])], [], [(24, 24)], [(24, 24)], (B x3.1), [(24, [(S x3.2)])]⟩], [⟨95, [(.ag [(S (at_ a0 x2).f0), (.sl true (at_ a0 x2).f1.length 3 ((at_ a0 x2).f1.flatMap e89))]), (.pt 24 0 1)], [(24, [(S x1)])], (B x3.1), [(24, [(S x3.2)])], [], [(24, 24)], [(24, 24)], (B x3.1), [(24, [(S x3.2)])]⟩]⟩ [c_ 3379, b_ 1, c_ 423, l_ 26, b_ 0, c_ 7] (alc ⟨c2, c1⟩ (alc (ldA (e66_ok true) rfl rfl c2 c1) (alc (okI (e66_ok true) c2 c1 (by decide)) (alc (cokW false (a2c (.z (frz_ag (a2c .s (a2c (frz_sl e89_ok (fun h => h)) a2n)))) (a2c (.pt (memP_mem (p := (24, 24)) rfl)) a2n)) (akc ⟨_, _, rfl, rfl, (a2c (.z .s) a2n)⟩ akn) (akc (.inl rfl) akn) (.z .s) (akc ⟨_, _, rfl, rfl, (a2c (.z .s) a2n)⟩ akn) (fun h => absurd h (by decide))) aln)))) (acal (impl_tripNamed_1.J (at_ a0 x2) x1 _ hx3) nocal) ?_
        by_cases c3 : x3.1 = true
        · rw [if_pos c3] at h
          refine .cond' (.tmp 16) true [c_ 13516, c_ 13517, b_ 1, c_ 423, l_ 26, b_ 0, c_ 7] (bT c3) ?_
          refine .reg' [4] [] ⟨[(4, (I x2))], [(24, [(S x3.2)])], [], []⟩ [c_ 13517, b_ 1, c_ 423, l_ 26, b_ 0, c_ 7] aln nocal ?_
          have h := Option.some.inj h
          subst h
          exact .fin' [] [(24, 24)] (I x2) [] aln (shc 24 (a2c (.z .s) a2n) shn) (.z .s)
        · rw [if_neg c3] at h
          refine .cond' (.tmp 16) false [c_ 423, l_ 26, b_ 0, c_ 7] (bF (vF c3)) ?_
          refine .reg' [0, 1, 7, 8] [] ⟨[(0, (.sl true a0.length 2 (a0.flatMap (e66 true)))), (1, (.fn (.func 95) [] [(.pt 24 0 1)])), (7, (I (a0.length : Int))), (8, (I (wrap64 (x2 + 1))))], [(24, [(S x3.2)])], [], []⟩ [l_ 26, b_ 0, c_ 7] aln nocal ?_
          exact ih0 a0 x3.2 (wrap64 (x2 + 1)) _ h
      · rw [if_neg c2] at h
        cases h
    · rw [if_neg c1] at h
      refine .cond' (.tmp 9) false [c_ 14, c_ 15] (bF (dF c1)) ?_
      refine .reg' [4] [] ⟨[(4, (I (-1)))], [(24, [(S x1)])], [], []⟩ [c_ 15] aln nocal ?_
      have h := Option.some.inj h
      subst h
      exact .fin' [] [(24, 24)] (I (-1)) [] aln (shc 24 (a2c (.z .s) a2n) shn) (.z .s)
theorem slices_IndexFunc_1.J (k : Nat) (a0 : (List S66)) (a1c0 : ByteArray) (r : (Int × ByteArray)) (h : slices_IndexFunc_1.f k a0 a1c0 = some r) : J prog (.call 94 [(.sl true a0.length 2 (a0.flatMap (e66 true))), (.fn (.func 95) [] [(.pt 24 0 1)])] [(24, [(S a1c0)])] (I r.1) [(24, [(S r.2)])]) := by
  unfold slices_IndexFunc_1.f at h
  have ih0 := slices_IndexFunc_1.lab k
  refine .call' [c_ 2, c_ 3] ?_
  refine .reg' [0, 1] [] ⟨[(0, (.sl true a0.length 2 (a0.flatMap (e66 true)))), (1, (.fn (.func 95) [] [(.pt 24 0 1)]))], [(24, [(S a1c0)])], [], []⟩ [c_ 12, c_ 13, c_ 7] aln nocal ?_
  refine .reg' [0, 1, 7, 8] [] ⟨[(0, (.sl true a0.length 2 (a0.flatMap (e66 true)))), (1, (.fn (.func 95) [] [(.pt 24 0 1)])), (7, (I (a0.length : Int))), (8, (I 0))], [(24, [(S a1c0)])], [], []⟩ [l_ 26, b_ 0, c_ 7] aln nocal ?_
  exact ih0 a0 a1c0 0 _ h
/-! impl_tripNamed: function 77 -/
def impl_tripNamed.f (k : Nat) (a0 : (List S66)) (a1 : ByteArray) : Option Int := ((slices_IndexFunc_1.f k a0 a1).bind fun x1 => (some x1.1))
theorem impl_tripNamed.J (k : Nat) (a0 : (List S66)) (a1 : ByteArray) (r : Int) (h : impl_tripNamed.f k a0 a1 = some r) : J prog (.call 77 [(.sl true a0.length 2 (a0.flatMap (e66 true))), (S a1)] [] (I r) []) := by
  unfold impl_tripNamed.f at h
  refine .call' [c_ 2, c_ 3] ?_
  refine .reg' [0, 3] [] ⟨[(0, (.sl true a0.length 2 (a0.flatMap (e66 true)))), (3, (.pt 256 0 1))], [(256, [(S a1)])], [], []⟩ [c_ 6, c_ 7] aln nocal ?_
  obtain ⟨x1, hx1, h⟩ := Option.bind_eq_some_iff.mp h
  refine .reg' [4] [.no, .no, .c ⟨94, [(.sl true a0.length 2 (a0.flatMap (e66 true))), (.fn (.func 95) [] [(.pt 24 0 1)])], [(24, [(S a1)])], (I x1.1), [(24, [(S x1.2)])], [], [(256, 24)], [(256, 24)], (I x1.1), [(256, [(S x1.2)])]⟩] ⟨[(4, (I x1.1))], [(256, [(S x1.2)])], [COK (hget [(256, [(S a1)])]) [(.sl true a0.length 2 (a0.flatMap (e66 true))), (.fn (.func 95) [] [(.pt 256 0 1)])] ⟨94, [(.sl true a0.length 2 (a0.flatMap (e66 true))), (.fn (.func 95) [] [(.pt 24 0 1)])], [(24, [(S a1)])], (I x1.1), [(24, [(S x1.2)])], [], [(256, 24)], [(256, 24)], (I x1.1), [(256, [(S x1.2)])]⟩], [⟨94, [(.sl true a0.length 2 (a0.flatMap (e66 true))), (.fn (.func 95) [] [(.pt 24 0 1)])], [(24, [(S a1)])], (I x1.1), [(24, [(S x1.2)])], [], [(256, 24)], [(256, 24)], (I x1.1), [(256, [(S x1.2)])]⟩]⟩ [c_ 7] (alc (cokW false (a2c (.z (frz_sl (e66_ok true) (fun h => h))) (a2c (cnv_fn a2n (a2c (.pt (memP_mem (p := (256, 24)) rfl)) a2n)) a2n)) (akc ⟨_, _, rfl, rfl, (a2c (.z .s) a2n)⟩ akn) (akc (.inl rfl) akn) (.z .s) (akc ⟨_, _, rfl, rfl, (a2c (.z .s) a2n)⟩ akn) (fun h => absurd h (by decide))) aln) (acal (slices_IndexFunc_1.J k a0 a1 _ hx1) nocal) ?_
  have h := Option.some.inj h
  subst h
  exact .fin0 [] (I x1.1) [] aln (.z .s)
/-! impl_TableOk: function 88 -/
def impl_TableOk.l0 : Nat → (List S66) → Int → Option Bool
 | 0, _, _ => none
 | k + 1, a0, x1 => (if x1 < (a0.length : Int) then (if 0 ≤ x1 then ((impl_TripOk.f k (at_ a0 x1)).bind fun x2 => (if x2 = true then (if x1 ≤ (a0.length : Int) then ((impl_tripNamed.f k ((a0.drop (0 : Int).toNat).take (x1.toNat - (0 : Int).toNat)) ((at_ a0 x1).f0)).bind fun x3 => (if x3 ≥ 0 then (some false) else (impl_TableOk.l0 k a0 (wrap64 (x1 + 1))))) else none) else (some false))) else none) else (some true))
def impl_TableOk.f (k : Nat) (a0 : (List S66)) : Option Bool := (if (a0.length : Int) > 24 then (some false) else (impl_TableOk.l0 k a0 0))
theorem impl_TableOk.lab : ∀ k, (∀ (a0 : (List S66)) (x1 : Int) (r : Bool), impl_TableOk.l0 k a0 x1 = some r → J prog (.run 88 [] [l_ 58, b_ 0, c_ 15] [(0, (.sl true a0.length 2 (a0.flatMap (e66 true)))), (8, (.sl true a0.length 2 (a0.flatMap (e66 true)))), (9, (I (a0.length : Int))), (10, (I x1))] [] (B r) []))
 | 0 => (by intro a0 x1 r h; unfold impl_TableOk.l0 at h; cases h)
 | k + 1 => by
  have ih0 := impl_TableOk.lab k
  · intro a0 x1 r h
    unfold impl_TableOk.l0 at h
    refine .loop' [c_ 232, c_ 233, l_ 58, b_ 0, c_ 15] ?_
    refine .reg' [0, 8, 9, 10, 11] [] ⟨[(0, (.sl true a0.length 2 (a0.flatMap (e66 true)))), (8, (.sl true a0.length 2 (a0.flatMap (e66 true)))), (9, (I (a0.length : Int))), (10, (I x1)), (11, (B (decide (x1 < (a0.length : Int)))))], [], [], []⟩ [c_ 466, c_ 467, l_ 58, b_ 0, c_ 15] aln nocal ?_
    by_cases c2 : x1 < (a0.length : Int)
    · rw [if_pos c2] at h
      refine .cond' (.tmp 11) true [c_ 3736, c_ 3737, b_ 1, c_ 935, l_ 58, b_ 0, c_ 15] (bT (dT c2)) ?_
      by_cases c3 : 0 ≤ x1
      · rw [if_pos c3] at h
        refine .reg' [0, 3, 4, 8, 9, 10] [.no, .no, .v (.ag [(S (at_ a0 x1).f0), (.sl true (at_ a0 x1).f1.length 3 ((at_ a0 x1).f1.flatMap e89))])] ⟨[(0, (.sl true a0.length 2 (a0.flatMap (e66 true)))), (3, (I x1)), (4, (.pt 1539 0 2)), (8, (.sl true a0.length 2 (a0.flatMap (e66 true)))), (9, (I (a0.length : Int))), (10, (I x1))], [(1539, [(S (at_ a0 x1).f0), (.sl true (at_ a0 x1).f1.length 3 ((at_ a0 x1).f1.flatMap e89))])], [(0 : Int) ≤ x1 ∧ x1 < (a0.length : Int), rdC prog 67 ((a0.flatMap (e66 true)).drop (x1.toNat * 2)) = (.ag [(S (at_ a0 x1).f0), (.sl true (at_ a0 x1).f1.length 3 ((at_ a0 x1).f1.flatMap e89))]), 2 ≤ ((a0.flatMap (e66 true)).drop (x1.toNat * 2)).length, 2 = 2 ∧ 0 + 2 ≤ 2], []⟩ [c_ 7474, c_ 7475, b_ 1, c_ 935, l_ 58, b_ 0, c_ 15] (alc ⟨c3, c2⟩ (alc (ldA (e66_ok true) rfl rfl c3 c2) (alc (okI (e66_ok true) c3 c2 (by decide)) (alc ⟨rfl, by decide⟩ aln)))) nocal ?_
        obtain ⟨x2, hx2, h⟩ := Option.bind_eq_some_iff.mp h
        by_cases c4 : x2 = true
        · rw [if_pos c4] at h
          by_cases c5 : x1 ≤ (a0.length : Int)
          · rw [if_pos c5] at h
            obtain ⟨x3, hx3, h⟩ := Option.bind_eq_some_iff.mp h
            refine .reg' [0, 8, 9, 10, 26] [.no, .c ⟨76, [(.ag [(S (at_ a0 x1).f0), (.sl true (at_ a0 x1).f1.length 3 ((at_ a0 x1).f1.flatMap e89))])], [], (B x2), [], [], [], [], (B x2), []⟩, .no, .v (B false), .no, .no, .v (.sl true ((a0.drop (0 : Int).toNat).take (x1.toNat - (0 : Int).toNat)).length 2 (((a0.drop (0 : Int).toNat).take (x1.toNat - (0 : Int).toNat)).flatMap (e66 true))), .no, .no, .c ⟨77, [(.sl true ((a0.drop (0 : Int).toNat).take (x1.toNat - (0 : Int).toNat)).length 2 (((a0.drop (0 : Int).toNat).take (x1.toNat - (0 : Int).toNat)).flatMap (e66 true))), (S (at_ a0 x1).f0)], [], (I x3), [], [], [], [], (I x3), []⟩] ⟨[(0, (.sl true a0.length 2 (a0.flatMap (e66 true)))), (8, (.sl true a0.length 2 (a0.flatMap (e66 true)))), (9, (I (a0.length : Int))), (10, (I x1)), (26, (B (decide (x3 ≥ 0))))], [(1539, [(S (at_ a0 x1).f0), (.sl true (at_ a0 x1).f1.length 3 ((at_ a0 x1).f1.flatMap e89))])], [2 = 2 ∧ 0 + 2 ≤ 2, COK (hget [(1539, [(S (at_ a0 x1).f0), (.sl true (at_ a0 x1).f1.length 3 ((at_ a0 x1).f1.flatMap e89))])]) [(.ag [(S (at_ a0 x1).f0), (.sl true (at_ a0 x1).f1.length 3 ((at_ a0 x1).f1.flatMap e89))])] ⟨76, [(.ag [(S (at_ a0 x1).f0), (.sl true (at_ a0 x1).f1.length 3 ((at_ a0 x1).f1.flatMap e89))])], [], (B x2), [], [], [], [], (B x2), []⟩, (B (!x2) : V) = B false, V.sl true (x1.toNat - (0 : Int).toNat) 2 (((a0.flatMap (e66 true)).drop ((0 : Int).toNat * 2)).take ((x1.toNat - (0 : Int).toNat) * 2)) = (.sl true ((a0.drop (0 : Int).toNat).take (x1.toNat - (0 : Int).toNat)).length 2 (((a0.drop (0 : Int).toNat).take (x1.toNat - (0 : Int).toNat)).flatMap (e66 true))), 0 ≤ (0 : Int) ∧ 0 ≤ x1 ∧ x1 ≤ (a0.length : Int), 2 = 2 ∧ 0 + 1 ≤ 2, COK (hget [(1539, [(S (at_ a0 x1).f0), (.sl true (at_ a0 x1).f1.length 3 ((at_ a0 x1).f1.flatMap e89))])]) [(.sl true ((a0.drop (0 : Int).toNat).take (x1.toNat - (0 : Int).toNat)).length 2 (((a0.drop (0 : Int).toNat).take (x1.toNat - (0 : Int).toNat)).flatMap (e66 true))), (S (at_ a0 x1).f0)] ⟨77, [(.sl true ((a0.drop (0 : Int).toNat).take (x1.toNat - (0 : Int).toNat)).length 2 (((a0.drop (0 : Int).toNat).take (x1.toNat - (0 : Int).toNat)).flatMap (e66 true))), (S (at_ a0 x1).f0)], [], (I x3), [], [], [], [], (I x3), []⟩], [⟨76, [(.ag [(S (at_ a0 x1).f0), (.sl true (at_ a0 x1).f1.length 3 ((at_ a0 x1).f1.flatMap e89))])], [], (B x2), [], [], [], [], (B x2), []⟩, ⟨77, [(.sl true ((a0.drop (0 : Int).toNat).take (x1.toNat - (0 : Int).toNat)).length 2 (((a0.drop (0 : Int).toNat).take (x1.toNat - (0 : Int).toNat)).flatMap (e66 true))), (S (at_ a0 x1).f0)], [], (I x3), [], [], [], [], (I x3), []⟩]⟩ [c_ 7475, b_ 1, c_ 935, l_ 58, b_ 0, c_ 15] (alc ⟨rfl, by decide⟩ (alc (cok0 false (a2c (.z (frz_ag (a2c .s (a2c (frz_sl e89_ok (fun h => h)) a2n)))) a2n) (.z .s) (fun h => absurd h (by decide))) (alc (bF (nF c4)) (alc (slS (e66_ok true) (by omega) (by omega)) (alc ⟨(by decide), c3, c5⟩ (alc ⟨rfl, by decide⟩ (alc (cok0 false (a2c (.z (frz_sl (e66_ok true) (fun h => h))) (a2c (.z .s) a2n)) (.z .s) (fun h => absurd h (by decide))) aln))))))) (acal (impl_TripOk.J k (at_ a0 x1) _ hx2) (acal (impl_tripNamed.J k ((a0.drop (0 : Int).toNat).take (x1.toNat - (0 : Int).toNat)) ((at_ a0 x1).f0) _ hx3) nocal)) ?_
            by_cases c6 : x3 ≥ 0
            · rw [if_pos c6] at h
              refine .cond' (.tmp 26) true [c_ 29900, c_ 29901, b_ 1, c_ 935, l_ 58, b_ 0, c_ 15] (bT (dT c6)) ?_
              refine .reg' [2] [] ⟨[(2, (B false))], [(1539, [(S (at_ a0 x1).f0), (.sl true (at_ a0 x1).f1.length 3 ((at_ a0 x1).f1.flatMap e89))])], [], []⟩ [c_ 29901, b_ 1, c_ 935, l_ 58, b_ 0, c_ 15] aln nocal ?_
              have h := Option.some.inj h
              subst h
              exact .fin0 [] (B false) [] aln (.z .s)
            · rw [if_neg c6] at h
              refine .cond' (.tmp 26) false [c_ 935, l_ 58, b_ 0, c_ 15] (bF (dF c6)) ?_
              refine .reg' [0, 8, 9, 10] [] ⟨[(0, (.sl true a0.length 2 (a0.flatMap (e66 true)))), (8, (.sl true a0.length 2 (a0.flatMap (e66 true)))), (9, (I (a0.length : Int))), (10, (I (wrap64 (x1 + 1))))], [(1539, [(S (at_ a0 x1).f0), (.sl true (at_ a0 x1).f1.length 3 ((at_ a0 x1).f1.flatMap e89))])], [], []⟩ [l_ 58, b_ 0, c_ 15] aln nocal ?_
              refine .wk' [] [] [(0, (.sl true a0.length 2 (a0.flatMap (e66 true)))), (8, (.sl true a0.length 2 (a0.flatMap (e66 true)))), (9, (I (a0.length : Int))), (10, (I (wrap64 (x1 + 1))))] [] shn (enc_ (.z (frz_sl (e66_ok true) (fun h => h))) (enc_ (.z (frz_sl (e66_ok true) (fun h => h))) (enc_ (.z .s) (enc_ (.z .s) enn)))) ?_
              exact ih0 a0 (wrap64 (x1 + 1)) _ h
          · rw [if_neg c5] at h
            cases h
        · rw [if_neg c4] at h
          refine .reg' [0, 8, 9, 10, 26] [.no, .c ⟨76, [(.ag [(S (at_ a0 x1).f0), (.sl true (at_ a0 x1).f1.length 3 ((at_ a0 x1).f1.flatMap e89))])], [], (B x2), [], [], [], [], (B x2), []⟩, .no, .v (B true)] ⟨[(0, (.sl true a0.length 2 (a0.flatMap (e66 true)))), (8, (.sl true a0.length 2 (a0.flatMap (e66 true)))), (9, (I (a0.length : Int))), (10, (I x1)), (26, (B true))], [(1539, [(S (at_ a0 x1).f0), (.sl true (at_ a0 x1).f1.length 3 ((at_ a0 x1).f1.flatMap e89))])], [2 = 2 ∧ 0 + 2 ≤ 2, COK (hget [(1539, [(S (at_ a0 x1).f0), (.sl true (at_ a0 x1).f1.length 3 ((at_ a0 x1).f1.flatMap e89))])]) [(.ag [(S (at_ a0 x1).f0), (.sl true (at_ a0 x1).f1.length 3 ((at_ a0 x1).f1.flatMap e89))])] ⟨76, [(.ag [(S (at_ a0 x1).f0), (.sl true (at_ a0 x1).f1.length 3 ((at_ a0 x1).f1.flatMap e89))])], [], (B x2), [], [], [], [], (B x2), []⟩, (B (!x2) : V) = B true], [⟨76, [(.ag [(S (at_ a0 x1).f0), (.sl true (at_ a0 x1).f1.length 3 ((at_ a0 x1).f1.flatMap e89))])], [], (B x2), [], [], [], [], (B x2), []⟩]⟩ [c_ 7475, b_ 1, c_ 935, l_ 58, b_ 0, c_ 15] (alc ⟨rfl, by decide⟩ (alc (cok0 false (a2c (.z (frz_ag (a2c .s (a2c (frz_sl e89_ok (fun h => h)) a2n)))) a2n) (.z .s) (fun h => absurd h (by decide))) (alc (bT (nT (vF c4))) aln))) (acal (impl_TripOk.J k (at_ a0 x1) _ hx2) nocal) ?_
          refine .cond' (.tmp 26) true [c_ 29900, c_ 29901, b_ 1, c_ 935, l_ 58, b_ 0, c_ 15] (rfl) ?_
          refine .reg' [2] [] ⟨[(2, (B false))], [(1539, [(S (at_ a0 x1).f0), (.sl true (at_ a0 x1).f1.length 3 ((at_ a0 x1).f1.flatMap e89))])], [], []⟩ [c_ 29901, b_ 1, c_ 935, l_ 58, b_ 0, c_ 15] aln nocal ?_
          have h := Option.some.inj h
          subst h
          exact .fin0 [] (B false) [] aln (.z .s)
      · rw [if_neg c3] at h
        cases h
    · rw [if_neg c2] at h
      refine .cond' (.tmp 11) false [c_ 30, c_ 31] (bF (dF c2)) ?_
      refine .reg' [2] [] ⟨[(2, (B true))], [], [], []⟩ [c_ 31] aln nocal ?_
      have h := Option.some.inj h
      subst h
      exact .fin0 [] (B true) [] aln (.z .s)
theorem impl_TableOk.J (k : Nat) (a0 : (List S66)) (r : Bool) (h : impl_TableOk.f k a0 = some r) : J prog (.call 88 [(.sl true a0.length 2 (a0.flatMap (e66 true)))] [] (B r) []) := by
  unfold impl_TableOk.f at h
  have ih0 := impl_TableOk.lab k
  refine .call' [c_ 2, c_ 3] ?_
  refine .reg' [0] [] ⟨[(0, (.sl true a0.length 2 (a0.flatMap (e66 true))))], [], [], []⟩ [c_ 12, c_ 13, c_ 7] aln nocal ?_
  refine .reg' [0, 7] [] ⟨[(0, (.sl true a0.length 2 (a0.flatMap (e66 true)))), (7, (B (decide ((a0.length : Int) > 24))))], [], [], []⟩ [c_ 13, c_ 7] aln nocal ?_
  by_cases c1 : (a0.length : Int) > 24
  · rw [if_pos c1] at h
    refine .cond' (.tmp 7) true [c_ 52, c_ 53, c_ 7] (bT (dT c1)) ?_
    refine .reg' [2] [] ⟨[(2, (B false))], [], [], []⟩ [c_ 53, c_ 7] aln nocal ?_
    have h := Option.some.inj h
    subst h
    exact .fin0 [] (B false) [] aln (.z .s)
  · rw [if_neg c1] at h
    refine .cond' (.tmp 7) false [c_ 28, c_ 29, c_ 15] (bF (dF c1)) ?_
    refine .reg' [0, 8, 9, 10] [] ⟨[(0, (.sl true a0.length 2 (a0.flatMap (e66 true)))), (8, (.sl true a0.length 2 (a0.flatMap (e66 true)))), (9, (I (a0.length : Int))), (10, (I 0))], [], [], []⟩ [l_ 58, b_ 0, c_ 15] aln nocal ?_
    exact ih0 a0 0 _ h
/-! impl_Net_joining: function 96 -/
def impl_Net_joining.l0 : Nat → S46 → Int → Int → Int → Option (Int × Int)
 | 0, _, _, _, _ => none
 | k + 1, a0, a1, a2, x1 => (if x1 < (a0.f1.length : Int) then (if 0 ≤ x1 then (if (at_ a0.f1 x1).f0 = a1 then (if (at_ a0.f1 x1).f1 = a2 then (some (x1, 0)) else (if (at_ a0.f1 x1).f0 = a2 then (if (at_ a0.f1 x1).f1 = a1 then (some (x1, 1)) else (impl_Net_joining.l0 k a0 a1 a2 (wrap64 (x1 + 1)))) else (impl_Net_joining.l0 k a0 a1 a2 (wrap64 (x1 + 1))))) else (if (at_ a0.f1 x1).f0 = a2 then (if (at_ a0.f1 x1).f1 = a1 then (some (x1, 1)) else (impl_Net_joining.l0 k a0 a1 a2 (wrap64 (x1 + 1)))) else (impl_Net_joining.l0 k a0 a1 a2 (wrap64 (x1 + 1))))) else none) else (some ((-1), 0)))
def impl_Net_joining.f (k : Nat) (a0 : S46) (a1 : Int) (a2 : Int) : Option (Int × Int) := (impl_Net_joining.l0 k a0 a1 a2 0)
end Go.Proofs.Ytebgaiokpncacaa.Fns
