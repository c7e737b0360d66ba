/- The functions that the law FnExactSettle reaches, by the engine. Printed by a program of this seat. -/
import Derived.Test.YtebgaiokpncacaaE5
import Derived.Test.YtebgaiokpncacaaProg
import Derived.Test.YtebgaiokpncacaaFFnExactSettlex2
namespace Go.Proofs.Ytebgaiokpncacaa.Fns
open Go.Proofs.Try Go.Proofs.Ytebgaiokpncacaa.Eng Go.RowKit
set_option maxRecDepth 100000
set_option linter.unusedVariables false
set_option linter.unusedSimpArgs false
theorem spec_PushOf.lab : ∀ k, (∀ (a0 : S46) (a1 : (List S66)) (a2 : S66) (a3 : Int) (x4 : Int) (r : Int), spec_PushOf.l0 k a0 a1 a2 a3 x4 = some r → J prog (.run 40 [] [l_ 58, b_ 0, c_ 15] [(1, (.sl false a1.length 2 (a1.flatMap (e66 false)))), (3, (I a3)), (4, (.pt 256 0 2)), (6, (.pt 257 0 2)), (9, (I x4))] [(256, [(I a0.f0), (.sl true a0.f1.length 4 (a0.f1.flatMap e95))]), (257, [(S a2.f0), (.sl true a2.f1.length 3 (a2.f1.flatMap e89))])] (I r) []))
 | 0 => (by intro a0 a1 a2 a3 x4 r h; unfold spec_PushOf.l0 at h; cases h)
 | k + 1 => by
  have ih0 := spec_PushOf.lab k
  · intro a0 a1 a2 a3 x4 r h
    unfold spec_PushOf.l0 at h
    refine .loop' [c_ 464, c_ 465, c_ 233, l_ 58, b_ 0, c_ 15] ?_
    refine .reg' [1, 3, 4, 6, 9, 27] [] ⟨[(1, (.sl false a1.length 2 (a1.flatMap (e66 false)))), (3, (I a3)), (4, (.pt 256 0 2)), (6, (.pt 257 0 2)), (9, (I x4)), (27, (B (decide (x4 ≤ 120))))], [(256, [(I a0.f0), (.sl true a0.f1.length 4 (a0.f1.flatMap e95))]), (257, [(S a2.f0), (.sl true a2.f1.length 3 (a2.f1.flatMap e89))])], [], []⟩ [c_ 465, c_ 233, l_ 58, b_ 0, c_ 15] aln nocal ?_
    by_cases c4 : x4 ≤ 120
    · rw [if_pos c4] at h
      refine .cond' (.tmp 27) true [c_ 1864, c_ 1865, b_ 1, c_ 467, l_ 58, b_ 0, c_ 15] (bT (dT c4)) ?_
      obtain ⟨x5, hx5, h⟩ := Option.bind_eq_some_iff.mp h
      obtain ⟨x6, hx6, h⟩ := Option.bind_eq_some_iff.mp h
      obtain ⟨x7, hx7, h⟩ := Option.bind_eq_some_iff.mp h
      refine .reg' [1, 3, 4, 6, 9, 37] [.no, .no, .no, .no, .c ⟨74, [(.ag [(S a2.f0), (.sl true a2.f1.length 3 (a2.f1.flatMap e89))]), (I x4)], [], (.ag [(S x5.f0), (.sl false x5.f1.length 3 (x5.f1.flatMap e89))]), [], [], [], [], (.ag [(S x5.f0), (.sl false x5.f1.length 3 (x5.f1.flatMap e89))]), []⟩, .c ⟨73, [(.sl false a1.length 2 (a1.flatMap (e66 false))), (.ag [(S x5.f0), (.sl false x5.f1.length 3 (x5.f1.flatMap e89))])], [], (.rf 512 0 x6.length 2 (x6.length * 2)), [(512, (x6.flatMap (e66 false)))], [], [], [(1001797, 512)], (.rf 1001797 0 x6.length 2 (x6.length * 2)), [(1001797, (x6.flatMap (e66 false)))]⟩, .no, .c ⟨37, [(.ag [(I a0.f0), (.sl true a0.f1.length 4 (a0.f1.flatMap e95))]), (.sl true x6.length 2 (x6.flatMap (e66 true))), (I a3)], [], (B x7), [], [1001797], [], [], (B x7), []⟩] ⟨[(1, (.sl false a1.length 2 (a1.flatMap (e66 false)))), (3, (I a3)), (4, (.pt 256 0 2)), (6, (.pt 257 0 2)), (9, (I x4)), (37, (B x7))], [(256, [(I a0.f0), (.sl true a0.f1.length 4 (a0.f1.flatMap e95))]), (257, [(S a2.f0), (.sl true a2.f1.length 3 (a2.f1.flatMap e89))]), (1001797, (x6.flatMap (e66 false)))], [2 = 2 ∧ 0 + 2 ≤ 2, 2 = 2 ∧ 0 + 2 ≤ 2, COK (hget [(256, [(I a0.f0), (.sl true a0.f1.length 4 (a0.f1.flatMap e95))]), (257, [(S a2.f0), (.sl true a2.f1.length 3 (a2.f1.flatMap e89))])]) [(.ag [(S a2.f0), (.sl true a2.f1.length 3 (a2.f1.flatMap e89))]), (I x4)] ⟨74, [(.ag [(S a2.f0), (.sl true a2.f1.length 3 (a2.f1.flatMap e89))]), (I x4)], [], (.ag [(S x5.f0), (.sl false x5.f1.length 3 (x5.f1.flatMap e89))]), [], [], [], [], (.ag [(S x5.f0), (.sl false x5.f1.length 3 (x5.f1.flatMap e89))]), []⟩, COK (hget [(256, [(I a0.f0), (.sl true a0.f1.length 4 (a0.f1.flatMap e95))]), (257, [(S a2.f0), (.sl true a2.f1.length 3 (a2.f1.flatMap e89))])]) [(.sl false a1.length 2 (a1.flatMap (e66 false))), (.ag [(S x5.f0), (.sl false x5.f1.length 3 (x5.f1.flatMap e89))])] ⟨73, [(.sl false a1.length 2 (a1.flatMap (e66 false))), (.ag [(S x5.f0), (.sl false x5.f1.length 3 (x5.f1.flatMap e89))])], [], (.rf 512 0 x6.length 2 (x6.length * 2)), [(512, (x6.flatMap (e66 false)))], [], [], [(1001797, 512)], (.rf 1001797 0 x6.length 2 (x6.length * 2)), [(1001797, (x6.flatMap (e66 false)))]⟩, COK (hget [(256, [(I a0.f0), (.sl true a0.f1.length 4 (a0.f1.flatMap e95))]), (257, [(S a2.f0), (.sl true a2.f1.length 3 (a2.f1.flatMap e89))]), (1001797, (x6.flatMap (e66 false)))]) [(.ag [(I a0.f0), (.sl true a0.f1.length 4 (a0.f1.flatMap e95))]), (.rf 1001797 0 x6.length 2 (x6.length * 2)), (I a3)] ⟨37, [(.ag [(I a0.f0), (.sl true a0.f1.length 4 (a0.f1.flatMap e95))]), (.sl true x6.length 2 (x6.flatMap (e66 true))), (I a3)], [], (B x7), [], [1001797], [], [], (B x7), []⟩], [⟨74, [(.ag [(S a2.f0), (.sl true a2.f1.length 3 (a2.f1.flatMap e89))]), (I x4)], [], (.ag [(S x5.f0), (.sl false x5.f1.length 3 (x5.f1.flatMap e89))]), [], [], [], [], (.ag [(S x5.f0), (.sl false x5.f1.length 3 (x5.f1.flatMap e89))]), []⟩, ⟨73, [(.sl false a1.length 2 (a1.flatMap (e66 false))), (.ag [(S x5.f0), (.sl false x5.f1.length 3 (x5.f1.flatMap e89))])], [], (.rf 512 0 x6.length 2 (x6.length * 2)), [(512, (x6.flatMap (e66 false)))], [], [], [(1001797, 512)], (.rf 1001797 0 x6.length 2 (x6.length * 2)), [(1001797, (x6.flatMap (e66 false)))]⟩, ⟨37, [(.ag [(I a0.f0), (.sl true a0.f1.length 4 (a0.f1.flatMap e95))]), (.sl true x6.length 2 (x6.flatMap (e66 true))), (I a3)], [], (B x7), [], [1001797], [], [], (B x7), []⟩]⟩ [c_ 1865, b_ 1, c_ 467, l_ 58, b_ 0, c_ 15] (alc ⟨rfl, by decide⟩ (alc ⟨rfl, by decide⟩ (alc (cok0 false (a2c (.z (frz_ag (a2c .s (a2c (frz_sl e89_ok (fun h => h)) a2n)))) (a2c (.z .s) a2n)) (.z (cln_ag (alc1 .s (alc1 (clnS e89_c (fun h => absurd h (by decide))) aln1)))) (fun h => absurd h (by decide))) (alc (cokW false (a2c (.z (frz_sl (e66_ok false) (fun h => h))) (a2c (.z (frz_ag (a2c .s (a2c (frz_sl e89_ok (fun h => h)) a2n)))) a2n)) akn (akc (.inr rfl) akn) (.rf (memP_mem (p := (1001797, 512)) rfl)) (akc ⟨_, _, rfl, rfl, rowB e66_c0 _⟩ akn) (fun h => absurd h (by decide))) (alc (cok0 false (a2c (.z (frz_ag (a2c .s (a2c (frz_sl e95_ok (fun h => h)) a2n)))) (a2c (.z (frz_rfT (k := 1001797) (fun x => e66_to x) (e66_ok false) (by simp) rfl rfl (row_len (e66_ok false) _).symm)) (a2c (.z .s) a2n))) (.z .s) (fun h => absurd h (by decide))) aln))))) (acal (.cw' [3016433] [] (spec_Moved.J k a2 x4 _ hx5) shn (cnv_ag (a2c (.z .s) (a2c (.z (frz_rf (k := 3016433) e89_ok (by simp) rfl rfl (row_len e89_ok _).symm)) a2n)))) (acal (spec_l09With.J k a1 x5 _ hx6) (acal (spec_Clean.J k a0 x6 a3 _ hx7) nocal))) ?_
      by_cases c5 : x7 = true
      · rw [if_pos c5] at h
        refine .cond' (.tmp 37) true [c_ 7460, c_ 7461, b_ 1, c_ 467, l_ 58, b_ 0, c_ 15] (bT c5) ?_
        refine .reg' [8] [] ⟨[(8, (I x4))], [(256, [(I a0.f0), (.sl true a0.f1.length 4 (a0.f1.flatMap e95))]), (257, [(S a2.f0), (.sl true a2.f1.length 3 (a2.f1.flatMap e89))]), (1001797, (x6.flatMap (e66 false)))], [], []⟩ [c_ 7461, b_ 1, c_ 467, l_ 58, b_ 0, c_ 15] aln nocal ?_
        have h := Option.some.inj h
        subst h
        exact .fin0 [] (I x4) [] aln (.z .s)
      · rw [if_neg c5] at h
        refine .cond' (.tmp 37) false [c_ 467, l_ 58, b_ 0, c_ 15] (bF (vF c5)) ?_
        refine .reg' [1, 3, 4, 6, 9] [] ⟨[(1, (.sl false a1.length 2 (a1.flatMap (e66 false)))), (3, (I a3)), (4, (.pt 256 0 2)), (6, (.pt 257 0 2)), (9, (I (wrap64 (x4 + 1))))], [(256, [(I a0.f0), (.sl true a0.f1.length 4 (a0.f1.flatMap e95))]), (257, [(S a2.f0), (.sl true a2.f1.length 3 (a2.f1.flatMap e89))]), (1001797, (x6.flatMap (e66 false)))], [], []⟩ [l_ 58, b_ 0, c_ 15] aln nocal ?_
        refine .wk' [] [(256, 256), (257, 257)] [(1, (.sl false a1.length 2 (a1.flatMap (e66 false)))), (3, (I a3)), (4, (.pt 256 0 2)), (6, (.pt 257 0 2)), (9, (I (wrap64 (x4 + 1))))] [(256, [(I a0.f0), (.sl true a0.f1.length 4 (a0.f1.flatMap e95))]), (257, [(S a2.f0), (.sl true a2.f1.length 3 (a2.f1.flatMap e89))])] (shc 256 (a2c (.z .s) (a2c (.z (frz_sl e95_ok (fun h => h))) a2n)) (shc 257 (a2c (.z .s) (a2c (.z (frz_sl e89_ok (fun h => h))) a2n)) shn)) (enc_ (.z (frz_sl (e66_ok false) (fun h => h))) (enc_ (.z .s) (enc_ (.pt (memP_mem (p := (256, 256)) rfl)) (enc_ (.pt (memP_mem (p := (257, 257)) rfl)) (enc_ (.z .s) enn))))) ?_
        exact ih0 a0 a1 a2 a3 (wrap64 (x4 + 1)) _ h
    · rw [if_neg c4] at h
      refine .cond' (.tmp 27) false [c_ 30, c_ 31] (bF (dF c4)) ?_
      refine .reg' [8] [] ⟨[(8, (I (-1)))], [(256, [(I a0.f0), (.sl true a0.f1.length 4 (a0.f1.flatMap e95))]), (257, [(S a2.f0), (.sl true a2.f1.length 3 (a2.f1.flatMap e89))])], [], []⟩ [c_ 31] aln nocal ?_
      have h := Option.some.inj h
      subst h
      exact .fin0 [] (I (-1)) [] aln (.z .s)
theorem spec_PushOf.J (k : Nat) (a0 : S46) (a1 : (List S66)) (a2 : S66) (a3 : Int) (r : Int) (h : spec_PushOf.f k a0 a1 a2 a3 = some r) : J prog (.call 40 [(.ag [(I a0.f0), (.sl true a0.f1.length 4 (a0.f1.flatMap e95))]), (.sl false a1.length 2 (a1.flatMap (e66 false))), (.ag [(S a2.f0), (.sl true a2.f1.length 3 (a2.f1.flatMap e89))]), (I a3)] [] (I r) []) := by
  unfold spec_PushOf.f at h
  have ih0 := spec_PushOf.lab k
  refine .call' [c_ 2, c_ 3] ?_
  refine .reg' [1, 3, 4, 6] [] ⟨[(1, (.sl false a1.length 2 (a1.flatMap (e66 false)))), (3, (I a3)), (4, (.pt 256 0 2)), (6, (.pt 257 0 2))], [(256, [(I a0.f0), (.sl true a0.f1.length 4 (a0.f1.flatMap e95))]), (257, [(S a2.f0), (.sl true a2.f1.length 3 (a2.f1.flatMap e89))])], [], []⟩ [c_ 12, c_ 13, c_ 7] aln nocal ?_
  obtain ⟨x1, hx1, h⟩ := Option.bind_eq_some_iff.mp h
  by_cases c1 : x1 = true
  · rw [if_pos c1] at h
    obtain ⟨x2, hx2, h⟩ := Option.bind_eq_some_iff.mp h
    by_cases c2 : x2 = true
    · rw [if_pos c2] at h
      obtain ⟨x3, hx3, h⟩ := Option.bind_eq_some_iff.mp h
      refine .reg' [1, 3, 4, 6, 25] [.no, .no, .c ⟨25, [(.ag [(I a0.f0), (.sl true a0.f1.length 4 (a0.f1.flatMap e95))]), (.sl true a1.length 2 (a1.flatMap (e66 true)))], [], (B x1), [], [], [], [], (B x1), []⟩, .no, .v (B false), .no, .c ⟨72, [(.ag [(S a2.f0), (.sl true a2.f1.length 3 (a2.f1.flatMap e89))])], [], (B x2), [], [], [], [], (B x2), []⟩, .no, .no, .v (B false), .no, .no, .no, .c ⟨37, [(.ag [(I a0.f0), (.sl true a0.f1.length 4 (a0.f1.flatMap e95))]), (.sl true a1.length 2 (a1.flatMap (e66 true))), (I a3)], [], (B x3), [], [], [], [], (B x3), []⟩] ⟨[(1, (.sl false a1.length 2 (a1.flatMap (e66 false)))), (3, (I a3)), (4, (.pt 256 0 2)), (6, (.pt 257 0 2)), (25, (B (!x3)))], [(256, [(I a0.f0), (.sl true a0.f1.length 4 (a0.f1.flatMap e95))]), (257, [(S a2.f0), (.sl true a2.f1.length 3 (a2.f1.flatMap e89))])], [2 = 2 ∧ 0 + 2 ≤ 2, COK (hget [(256, [(I a0.f0), (.sl true a0.f1.length 4 (a0.f1.flatMap e95))]), (257, [(S a2.f0), (.sl true a2.f1.length 3 (a2.f1.flatMap e89))])]) [(.ag [(I a0.f0), (.sl true a0.f1.length 4 (a0.f1.flatMap e95))]), (.sl false a1.length 2 (a1.flatMap (e66 false)))] ⟨25, [(.ag [(I a0.f0), (.sl true a0.f1.length 4 (a0.f1.flatMap e95))]), (.sl true a1.length 2 (a1.flatMap (e66 true)))], [], (B x1), [], [], [], [], (B x1), []⟩, (B (!x1) : V) = B false, 2 = 2 ∧ 0 + 2 ≤ 2, COK (hget [(256, [(I a0.f0), (.sl true a0.f1.length 4 (a0.f1.flatMap e95))]), (257, [(S a2.f0), (.sl true a2.f1.length 3 (a2.f1.flatMap e89))])]) [(.ag [(S a2.f0), (.sl true a2.f1.length 3 (a2.f1.flatMap e89))])] ⟨72, [(.ag [(S a2.f0), (.sl true a2.f1.length 3 (a2.f1.flatMap e89))])], [], (B x2), [], [], [], [], (B x2), []⟩, (B (!x2) : V) = B false, 2 = 2 ∧ 0 + 2 ≤ 2, COK (hget [(256, [(I a0.f0), (.sl true a0.f1.length 4 (a0.f1.flatMap e95))]), (257, [(S a2.f0), (.sl true a2.f1.length 3 (a2.f1.flatMap e89))])]) [(.ag [(I a0.f0), (.sl true a0.f1.length 4 (a0.f1.flatMap e95))]), (.sl false a1.length 2 (a1.flatMap (e66 false))), (I a3)] ⟨37, [(.ag [(I a0.f0), (.sl true a0.f1.length 4 (a0.f1.flatMap e95))]), (.sl true a1.length 2 (a1.flatMap (e66 true))), (I a3)], [], (B x3), [], [], [], [], (B x3), []⟩], [⟨25, [(.ag [(I a0.f0), (.sl true a0.f1.length 4 (a0.f1.flatMap e95))]), (.sl true a1.length 2 (a1.flatMap (e66 true)))], [], (B x1), [], [], [], [], (B x1), []⟩, ⟨72, [(.ag [(S a2.f0), (.sl true a2.f1.length 3 (a2.f1.flatMap e89))])], [], (B x2), [], [], [], [], (B x2), []⟩, ⟨37, [(.ag [(I a0.f0), (.sl true a0.f1.length 4 (a0.f1.flatMap e95))]), (.sl true a1.length 2 (a1.flatMap (e66 true))), (I a3)], [], (B x3), [], [], [], [], (B x3), []⟩]⟩ [c_ 13, c_ 7] (alc ⟨rfl, by decide⟩ (alc (cok0 false (a2c (.z (frz_ag (a2c .s (a2c (frz_sl e95_ok (fun h => h)) a2n)))) (a2c (.z (frz_slT (fun x => e66_to x) (fun h => absurd h (by decide)))) a2n)) (.z .s) (fun h => absurd h (by decide))) (alc (bF (nF c1)) (alc ⟨rfl, by decide⟩ (alc (cok0 false (a2c (.z (frz_ag (a2c .s (a2c (frz_sl e89_ok (fun h => h)) a2n)))) a2n) (.z .s) (fun h => absurd h (by decide))) (alc (bF (nF c2)) (alc ⟨rfl, by decide⟩ (alc (cok0 false (a2c (.z (frz_ag (a2c .s (a2c (frz_sl e95_ok (fun h => h)) a2n)))) (a2c (.z (frz_slT (fun x => e66_to x) (fun h => absurd h (by decide)))) (a2c (.z .s) a2n))) (.z .s) (fun h => absurd h (by decide))) aln)))))))) (acal (spec_Ridden.J k a0 a1 _ hx1) (acal (spec_TripOk.J k a2 _ hx2) (acal (spec_Clean.J k a0 a1 a3 _ hx3) nocal))) ?_
      by_cases c3 : x3 = true
      · rw [if_pos c3] at h
        refine .cond' (.tmp 25) false [c_ 28, c_ 29, c_ 15] (bF (nF c3)) ?_
        refine .reg' [1, 3, 4, 6, 9] [] ⟨[(1, (.sl false a1.length 2 (a1.flatMap (e66 false)))), (3, (I a3)), (4, (.pt 256 0 2)), (6, (.pt 257 0 2)), (9, (I 0))], [(256, [(I a0.f0), (.sl true a0.f1.length 4 (a0.f1.flatMap e95))]), (257, [(S a2.f0), (.sl true a2.f1.length 3 (a2.f1.flatMap e89))])], [], []⟩ [l_ 58, b_ 0, c_ 15] aln nocal ?_
        exact ih0 a0 a1 a2 a3 0 _ h
      · rw [if_neg c3] at h
        refine .cond' (.tmp 25) true [c_ 52, c_ 53, c_ 7] (bT (nT (vF c3))) ?_
        refine .reg' [8] [] ⟨[(8, (I (-1)))], [(256, [(I a0.f0), (.sl true a0.f1.length 4 (a0.f1.flatMap e95))]), (257, [(S a2.f0), (.sl true a2.f1.length 3 (a2.f1.flatMap e89))])], [], []⟩ [c_ 53, c_ 7] aln nocal ?_
        have h := Option.some.inj h
        subst h
        exact .fin0 [] (I (-1)) [] aln (.z .s)
    · rw [if_neg c2] at h
      refine .reg' [1, 3, 4, 6, 25] [.no, .no, .c ⟨25, [(.ag [(I a0.f0), (.sl true a0.f1.length 4 (a0.f1.flatMap e95))]), (.sl true a1.length 2 (a1.flatMap (e66 true)))], [], (B x1), [], [], [], [], (B x1), []⟩, .no, .v (B false), .no, .c ⟨72, [(.ag [(S a2.f0), (.sl true a2.f1.length 3 (a2.f1.flatMap e89))])], [], (B x2), [], [], [], [], (B x2), []⟩, .no, .no, .v (B true)] ⟨[(1, (.sl false a1.length 2 (a1.flatMap (e66 false)))), (3, (I a3)), (4, (.pt 256 0 2)), (6, (.pt 257 0 2)), (25, (B true))], [(256, [(I a0.f0), (.sl true a0.f1.length 4 (a0.f1.flatMap e95))]), (257, [(S a2.f0), (.sl true a2.f1.length 3 (a2.f1.flatMap e89))])], [2 = 2 ∧ 0 + 2 ≤ 2, COK (hget [(256, [(I a0.f0), (.sl true a0.f1.length 4 (a0.f1.flatMap e95))]), (257, [(S a2.f0), (.sl true a2.f1.length 3 (a2.f1.flatMap e89))])]) [(.ag [(I a0.f0), (.sl true a0.f1.length 4 (a0.f1.flatMap e95))]), (.sl false a1.length 2 (a1.flatMap (e66 false)))] ⟨25, [(.ag [(I a0.f0), (.sl true a0.f1.length 4 (a0.f1.flatMap e95))]), (.sl true a1.length 2 (a1.flatMap (e66 true)))], [], (B x1), [], [], [], [], (B x1), []⟩, (B (!x1) : V) = B false, 2 = 2 ∧ 0 + 2 ≤ 2, COK (hget [(256, [(I a0.f0), (.sl true a0.f1.length 4 (a0.f1.flatMap e95))]), (257, [(S a2.f0), (.sl true a2.f1.length 3 (a2.f1.flatMap e89))])]) [(.ag [(S a2.f0), (.sl true a2.f1.length 3 (a2.f1.flatMap e89))])] ⟨72, [(.ag [(S a2.f0), (.sl true a2.f1.length 3 (a2.f1.flatMap e89))])], [], (B x2), [], [], [], [], (B x2), []⟩, (B (!x2) : V) = B true], [⟨25, [(.ag [(I a0.f0), (.sl true a0.f1.length 4 (a0.f1.flatMap e95))]), (.sl true a1.length 2 (a1.flatMap (e66 true)))], [], (B x1), [], [], [], [], (B x1), []⟩, ⟨72, [(.ag [(S a2.f0), (.sl true a2.f1.length 3 (a2.f1.flatMap e89))])], [], (B x2), [], [], [], [], (B x2), []⟩]⟩ [c_ 13, c_ 7] (alc ⟨rfl, by decide⟩ (alc (cok0 false (a2c (.z (frz_ag (a2c .s (a2c (frz_sl e95_ok (fun h => h)) a2n)))) (a2c (.z (frz_slT (fun x => e66_to x) (fun h => absurd h (by decide)))) a2n)) (.z .s) (fun h => absurd h (by decide))) (alc (bF (nF c1)) (alc ⟨rfl, by decide⟩ (alc (cok0 false (a2c (.z (frz_ag (a2c .s (a2c (frz_sl e89_ok (fun h => h)) a2n)))) a2n) (.z .s) (fun h => absurd h (by decide))) (alc (bT (nT (vF c2))) aln)))))) (acal (spec_Ridden.J k a0 a1 _ hx1) (acal (spec_TripOk.J k a2 _ hx2) nocal)) ?_
      refine .cond' (.tmp 25) true [c_ 52, c_ 53, c_ 7] (rfl) ?_
      refine .reg' [8] [] ⟨[(8, (I (-1)))], [(256, [(I a0.f0), (.sl true a0.f1.length 4 (a0.f1.flatMap e95))]), (257, [(S a2.f0), (.sl true a2.f1.length 3 (a2.f1.flatMap e89))])], [], []⟩ [c_ 53, c_ 7] aln nocal ?_
      have h := Option.some.inj h
      subst h
      exact .fin0 [] (I (-1)) [] aln (.z .s)
  · rw [if_neg c1] at h
    refine .reg' [1, 3, 4, 6, 25] [.no, .no, .c ⟨25, [(.ag [(I a0.f0), (.sl true a0.f1.length 4 (a0.f1.flatMap e95))]), (.sl true a1.length 2 (a1.flatMap (e66 true)))], [], (B x1), [], [], [], [], (B x1), []⟩, .no, .v (B true)] ⟨[(1, (.sl false a1.length 2 (a1.flatMap (e66 false)))), (3, (I a3)), (4, (.pt 256 0 2)), (6, (.pt 257 0 2)), (25, (B true))], [(256, [(I a0.f0), (.sl true a0.f1.length 4 (a0.f1.flatMap e95))]), (257, [(S a2.f0), (.sl true a2.f1.length 3 (a2.f1.flatMap e89))])], [2 = 2 ∧ 0 + 2 ≤ 2, COK (hget [(256, [(I a0.f0), (.sl true a0.f1.length 4 (a0.f1.flatMap e95))]), (257, [(S a2.f0), (.sl true a2.f1.length 3 (a2.f1.flatMap e89))])]) [(.ag [(I a0.f0), (.sl true a0.f1.length 4 (a0.f1.flatMap e95))]), (.sl false a1.length 2 (a1.flatMap (e66 false)))] ⟨25, [(.ag [(I a0.f0), (.sl true a0.f1.length 4 (a0.f1.flatMap e95))]), (.sl true a1.length 2 (a1.flatMap (e66 true)))], [], (B x1), [], [], [], [], (B x1), []⟩, (B (!x1) : V) = B true], [⟨25, [(.ag [(I a0.f0), (.sl true a0.f1.length 4 (a0.f1.flatMap e95))]), (.sl true a1.length 2 (a1.flatMap (e66 true)))], [], (B x1), [], [], [], [], (B x1), []⟩]⟩ [c_ 13, c_ 7] (alc ⟨rfl, by decide⟩ (alc (cok0 false (a2c (.z (frz_ag (a2c .s (a2c (frz_sl e95_ok (fun h => h)) a2n)))) (a2c (.z (frz_slT (fun x => e66_to x) (fun h => absurd h (by decide)))) a2n)) (.z .s) (fun h => absurd h (by decide))) (alc (bT (nT (vF c1))) aln))) (acal (spec_Ridden.J k a0 a1 _ hx1) nocal) ?_
    refine .cond' (.tmp 25) true [c_ 52, c_ 53, c_ 7] (rfl) ?_
    refine .reg' [8] [] ⟨[(8, (I (-1)))], [(256, [(I a0.f0), (.sl true a0.f1.length 4 (a0.f1.flatMap e95))]), (257, [(S a2.f0), (.sl true a2.f1.length 3 (a2.f1.flatMap e89))])], [], []⟩ [c_ 53, c_ 7] aln nocal ?_
    have h := Option.some.inj h
    subst h
    exact .fin0 [] (I (-1)) [] aln (.z .s)
/-! spec_Settle: function 44 -/
def spec_Settle.l0 : Nat → S46 → (List S66) → Int → (List S66) → (List Int) → Int → Option ((List S66) × (List Int))
 | 0, _, _, _, _, _, _ => none
 | k + 1, a0, a1, a2, x2, x3, x4 => (if x4 < (a1.length : Int) then (if 0 ≤ x4 then ((spec_PushOf.f k a0 x2 (at_ a1 x4) a2).bind fun x5 => (if x5 < 0 then (some (([] : List S66), ([] : List Int))) else ((spec_Moved.f k (at_ a1 x4) x5).bind fun x6 => ((spec_l09With.f k x2 x6).bind fun x7 => (if (x3.length + ([x5] : List Int).length) * 8 ≤ 70368744177664 then (spec_Settle.l0 k a0 a1 a2 x7 (x3 ++ ([x5] : List Int)) (wrap64 (x4 + 1))) else none))))) else none) else (some (x2, x3)))
def spec_Settle.f (k : Nat) (a0 : S46) (a1 : (List S66)) (a2 : Int) : Option ((List S66) × (List Int)) := ((spec_Ridden.f k a0 a1).bind fun x1 => (if x1 = true then (spec_Settle.l0 k a0 a1 a2 ([] : List S66) ([] : List Int) 0) else (some (([] : List S66), ([] : List Int)))))
theorem spec_Settle.lab : ∀ k, (∀ (a0 : S46) (a1 : (List S66)) (a2 : Int) (x2 : (List S66)) (x3 : (List Int)) (x4 : Int) (r : ((List S66) × (List Int))), spec_Settle.l0 k a0 a1 a2 x2 x3 x4 = some r → J prog (.run 44 [] [l_ 250, b_ 0, c_ 63] [(1, (.sl true a1.length 2 (a1.flatMap (e66 true)))), (2, (I a2)), (3, (.pt 256 0 2)), (8, (.rf 1024 0 x2.length 2 (x2.length * 2))), (9, (.rf 1280 0 x3.length 1 (x3.length * 1))), (10, (I x4))] [(256, [(I a0.f0), (.sl true a0.f1.length 4 (a0.f1.flatMap e95))]), (1024, (x2.flatMap (e66 false))), (1280, (x3.flatMap encI))] (.tp [(.rf 1024 0 r.1.length 2 (r.1.length * 2)), (.rf 1280 0 r.2.length 1 (r.2.length * 1))]) [(1024, (r.1.flatMap (e66 false))), (1280, (r.2.flatMap encI))]))
 | 0 => (by intro a0 a1 a2 x2 x3 x4 r h; unfold spec_Settle.l0 at h; cases h)
 | k + 1 => by
  have ih0 := spec_Settle.lab k
  · intro a0 a1 a2 x2 x3 x4 r h
    unfold spec_Settle.l0 at h
    refine .loop' [c_ 2000, c_ 2001, c_ 1001, l_ 250, b_ 0, c_ 63] ?_
    refine .reg' [1, 2, 3, 8, 9, 10, 21] [] ⟨[(1, (.sl true a1.length 2 (a1.flatMap (e66 true)))), (2, (I a2)), (3, (.pt 256 0 2)), (8, (.rf 1024 0 x2.length 2 (x2.length * 2))), (9, (.rf 1280 0 x3.length 1 (x3.length * 1))), (10, (I x4)), (21, (B (decide (x4 < (a1.length : Int)))))], [(256, [(I a0.f0), (.sl true a0.f1.length 4 (a0.f1.flatMap e95))]), (1024, (x2.flatMap (e66 false))), (1280, (x3.flatMap encI))], [], []⟩ [c_ 2001, c_ 1001, l_ 250, b_ 0, c_ 63] aln nocal ?_
    by_cases c2 : x4 < (a1.length : Int)
    · rw [if_pos c2] at h
      refine .cond' (.tmp 21) true [c_ 8008, c_ 8009, b_ 1, c_ 2003, l_ 250, b_ 0, c_ 63] (bT (dT c2)) ?_
      by_cases c3 : 0 ≤ x4
      · rw [if_pos c3] at h
        refine .wk' [1024] [(256, 256), (1280, 1280)] [(1, (.sl true a1.length 2 (a1.flatMap (e66 true)))), (2, (I a2)), (3, (.pt 256 0 2)), (8, (.sl false x2.length 2 (x2.flatMap (e66 false)))), (9, (.rf 1280 0 x3.length 1 (x3.length * 1))), (10, (I x4)), (21, (B (decide (x4 < (a1.length : Int)))))] [(256, [(I a0.f0), (.sl true a0.f1.length 4 (a0.f1.flatMap e95))]), (1280, (x3.flatMap encI))] (shc 256 (a2c (.z .s) (a2c (.z (frz_sl e95_ok (fun h => h))) a2n)) (shc 1280 (rowF encI_ok _) shn)) (enc_ (.z (frz_sl (e66_ok true) (fun h => h))) (enc_ (.z .s) (enc_ (.pt (memP_mem (p := (256, 256)) rfl)) (enc_ (.z (frz_rf (k := 1024) (e66_ok false) (by simp) rfl rfl (row_len (e66_ok false) _).symm)) (enc_ (.rf (memP_mem (p := (1280, 1280)) rfl)) (enc_ (.z .s) (enc_ (.z .s) enn))))))) ?_
        obtain ⟨x5, hx5, h⟩ := Option.bind_eq_some_iff.mp h
        refine .reg' [1, 2, 3, 8, 9, 10, 11] [.no, .no, .no, .no, .no, .v (.ag [(S (at_ a1 x4).f0), (.sl true (at_ a1 x4).f1.length 3 ((at_ a1 x4).f1.flatMap e89))]), .no, .c ⟨40, [(.ag [(I a0.f0), (.sl true a0.f1.length 4 (a0.f1.flatMap e95))]), (.sl false x2.length 2 (x2.flatMap (e66 false))), (.ag [(S (at_ a1 x4).f0), (.sl true (at_ a1 x4).f1.length 3 ((at_ a1 x4).f1.flatMap e89))]), (I a2)], [], (I x5), [], [], [], [], (I x5), []⟩] ⟨[(1, (.sl true a1.length 2 (a1.flatMap (e66 true)))), (2, (I a2)), (3, (.pt 256 0 2)), (8, (.sl false x2.length 2 (x2.flatMap (e66 false)))), (9, (.rf 1280 0 x3.length 1 (x3.length * 1))), (10, (I x4)), (11, (I x5))], [(256, [(I a0.f0), (.sl true a0.f1.length 4 (a0.f1.flatMap e95))]), (1280, (x3.flatMap encI))], [2 = 2 ∧ 0 + 2 ≤ 2, (0 : Int) ≤ x4 ∧ x4 < (a1.length : Int), rdC prog 67 ((a1.flatMap (e66 true)).drop (x4.toNat * 2)) = (.ag [(S (at_ a1 x4).f0), (.sl true (at_ a1 x4).f1.length 3 ((at_ a1 x4).f1.flatMap e89))]), 2 ≤ ((a1.flatMap (e66 true)).drop (x4.toNat * 2)).length, COK (hget [(256, [(I a0.f0), (.sl true a0.f1.length 4 (a0.f1.flatMap e95))]), (1280, (x3.flatMap encI))]) [(.ag [(I a0.f0), (.sl true a0.f1.length 4 (a0.f1.flatMap e95))]), (.sl false x2.length 2 (x2.flatMap (e66 false))), (.ag [(S (at_ a1 x4).f0), (.sl true (at_ a1 x4).f1.length 3 ((at_ a1 x4).f1.flatMap e89))]), (I a2)] ⟨40, [(.ag [(I a0.f0), (.sl true a0.f1.length 4 (a0.f1.flatMap e95))]), (.sl false x2.length 2 (x2.flatMap (e66 false))), (.ag [(S (at_ a1 x4).f0), (.sl true (at_ a1 x4).f1.length 3 ((at_ a1 x4).f1.flatMap e89))]), (I a2)], [], (I x5), [], [], [], [], (I x5), []⟩], [⟨40, [(.ag [(I a0.f0), (.sl true a0.f1.length 4 (a0.f1.flatMap e95))]), (.sl false x2.length 2 (x2.flatMap (e66 false))), (.ag [(S (at_ a1 x4).f0), (.sl true (at_ a1 x4).f1.length 3 ((at_ a1 x4).f1.flatMap e89))]), (I a2)], [], (I x5), [], [], [], [], (I x5), []⟩]⟩ [c_ 32036, c_ 32037, c_ 16019, b_ 1, c_ 2003, l_ 250, b_ 0, c_ 63] (alc ⟨rfl, by decide⟩ (alc ⟨c3, c2⟩ (alc (ldA (e66_ok true) rfl rfl c3 c2) (alc (okI (e66_ok true) c3 c2 (by decide)) (alc (cok0 false (a2c (.z (frz_ag (a2c .s (a2c (frz_sl e95_ok (fun h => h)) a2n)))) (a2c (.z (frz_sl (e66_ok false) (fun h => h))) (a2c (.z (frz_ag (a2c .s (a2c (frz_sl e89_ok (fun h => h)) a2n)))) (a2c (.z .s) a2n)))) (.z .s) (fun h => absurd h (by decide))) aln))))) (acal (spec_PushOf.J k a0 x2 (at_ a1 x4) a2 _ hx5) nocal) ?_
        refine .reg' [1, 2, 3, 8, 9, 10, 11, 33] [] ⟨[(1, (.sl true a1.length 2 (a1.flatMap (e66 true)))), (2, (I a2)), (3, (.pt 256 0 2)), (8, (.sl false x2.length 2 (x2.flatMap (e66 false)))), (9, (.rf 1280 0 x3.length 1 (x3.length * 1))), (10, (I x4)), (11, (I x5)), (33, (B (decide (x5 < 0))))], [(256, [(I a0.f0), (.sl true a0.f1.length 4 (a0.f1.flatMap e95))]), (1280, (x3.flatMap encI))], [], []⟩ [c_ 32037, c_ 16019, b_ 1, c_ 2003, l_ 250, b_ 0, c_ 63] aln nocal ?_
        by_cases c4 : x5 < 0
        · rw [if_pos c4] at h
          refine .cond' (.tmp 33) true [c_ 128148, c_ 128149, c_ 16019, b_ 1, c_ 2003, l_ 250, b_ 0, c_ 63] (bT (dT c4)) ?_
          refine .reg' [6, 7] [] ⟨[(6, nilS), (7, nilS)], [(256, [(I a0.f0), (.sl true a0.f1.length 4 (a0.f1.flatMap e95))]), (1280, (x3.flatMap encI))], [], []⟩ [c_ 128149, c_ 16019, b_ 1, c_ 2003, l_ 250, b_ 0, c_ 63] aln nocal ?_
          have h := Option.some.inj h
          subst h
          refine .nl' 1024 ?_
          refine .nl' 1281 ?_
          exact .fin' [] [(1024, 1024), (1281, 1280)] (.tp [nilS, nilS]) [] aln (shc 1024 (rowF (e66_ok false) _) (shc 1281 (rowF encI_ok _) shn)) (cnv_tp (a2c (.nl (memP_mem (p := (1024, 1024)) rfl) rfl) (a2c (.nl (memP_mem (p := (1281, 1280)) rfl) rfl) a2n)))
        · rw [if_neg c4] at h
          refine .cond' (.tmp 33) false [c_ 32038, c_ 32039, b_ 1, c_ 2003, l_ 250, b_ 0, c_ 63] (bF (dF c4)) ?_
          obtain ⟨x6, hx6, h⟩ := Option.bind_eq_some_iff.mp h
          obtain ⟨x7, hx7, h⟩ := Option.bind_eq_some_iff.mp h
          refine .reg' [1, 2, 3, 8, 9, 10, 11] [.no, .no, .no, .no, .v (.ag [(S (at_ a1 x4).f0), (.sl true (at_ a1 x4).f1.length 3 ((at_ a1 x4).f1.flatMap e89))]), .no, .c ⟨74, [(.ag [(S (at_ a1 x4).f0), (.sl true (at_ a1 x4).f1.length 3 ((at_ a1 x4).f1.flatMap e89))]), (I x5)], [], (.ag [(S x6.f0), (.sl false x6.f1.length 3 (x6.f1.flatMap e89))]), [], [], [], [], (.ag [(S x6.f0), (.sl false x6.f1.length 3 (x6.f1.flatMap e89))]), []⟩, .c ⟨73, [(.sl false x2.length 2 (x2.flatMap (e66 false))), (.ag [(S x6.f0), (.sl false x6.f1.length 3 (x6.f1.flatMap e89))])], [], (.rf 512 0 x7.length 2 (x7.length * 2)), [(512, (x7.flatMap (e66 false)))], [], [], [(1003079, 512)], (.rf 1003079 0 x7.length 2 (x7.length * 2)), [(1003079, (x7.flatMap (e66 false)))]⟩] ⟨[(1, (.sl true a1.length 2 (a1.flatMap (e66 true)))), (2, (I a2)), (3, (.pt 256 0 2)), (8, (.rf 1003079 0 x7.length 2 (x7.length * 2))), (9, (.rf 1280 0 x3.length 1 (x3.length * 1))), (10, (I x4)), (11, (I x5))], [(256, [(I a0.f0), (.sl true a0.f1.length 4 (a0.f1.flatMap e95))]), (1280, (x3.flatMap encI)), (1003079, (x7.flatMap (e66 false)))], [(0 : Int) ≤ x4 ∧ x4 < (a1.length : Int), rdC prog 67 ((a1.flatMap (e66 true)).drop (x4.toNat * 2)) = (.ag [(S (at_ a1 x4).f0), (.sl true (at_ a1 x4).f1.length 3 ((at_ a1 x4).f1.flatMap e89))]), 2 ≤ ((a1.flatMap (e66 true)).drop (x4.toNat * 2)).length, COK (hget [(256, [(I a0.f0), (.sl true a0.f1.length 4 (a0.f1.flatMap e95))]), (1280, (x3.flatMap encI))]) [(.ag [(S (at_ a1 x4).f0), (.sl true (at_ a1 x4).f1.length 3 ((at_ a1 x4).f1.flatMap e89))]), (I x5)] ⟨74, [(.ag [(S (at_ a1 x4).f0), (.sl true (at_ a1 x4).f1.length 3 ((at_ a1 x4).f1.flatMap e89))]), (I x5)], [], (.ag [(S x6.f0), (.sl false x6.f1.length 3 (x6.f1.flatMap e89))]), [], [], [], [], (.ag [(S x6.f0), (.sl false x6.f1.length 3 (x6.f1.flatMap e89))]), []⟩, COK (hget [(256, [(I a0.f0), (.sl true a0.f1.length 4 (a0.f1.flatMap e95))]), (1280, (x3.flatMap encI))]) [(.sl false x2.length 2 (x2.flatMap (e66 false))), (.ag [(S x6.f0), (.sl false x6.f1.length 3 (x6.f1.flatMap e89))])] ⟨73, [(.sl false x2.length 2 (x2.flatMap (e66 false))), (.ag [(S x6.f0), (.sl false x6.f1.length 3 (x6.f1.flatMap e89))])], [], (.rf 512 0 x7.length 2 (x7.length * 2)), [(512, (x7.flatMap (e66 false)))], [], [], [(1003079, 512)], (.rf 1003079 0 x7.length 2 (x7.length * 2)), [(1003079, (x7.flatMap (e66 false)))]⟩], [⟨74, [(.ag [(S (at_ a1 x4).f0), (.sl true (at_ a1 x4).f1.length 3 ((at_ a1 x4).f1.flatMap e89))]), (I x5)], [], (.ag [(S x6.f0), (.sl false x6.f1.length 3 (x6.f1.flatMap e89))]), [], [], [], [], (.ag [(S x6.f0), (.sl false x6.f1.length 3 (x6.f1.flatMap e89))]), []⟩, ⟨73, [(.sl false x2.length 2 (x2.flatMap (e66 false))), (.ag [(S x6.f0), (.sl false x6.f1.length 3 (x6.f1.flatMap e89))])], [], (.rf 512 0 x7.length 2 (x7.length * 2)), [(512, (x7.flatMap (e66 false)))], [], [], [(1003079, 512)], (.rf 1003079 0 x7.length 2 (x7.length * 2)), [(1003079, (x7.flatMap (e66 false)))]⟩]⟩ [c_ 32039, b_ 1, c_ 2003, l_ 250, b_ 0, c_ 63] (alc ⟨c3, c2⟩ (alc (ldA (e66_ok true) rfl rfl c3 c2) (alc (okI (e66_ok true) c3 c2 (by decide)) (alc (cok0 false (a2c (.z (frz_ag (a2c .s (a2c (frz_sl e89_ok (fun h => h)) a2n)))) (a2c (.z .s) a2n)) (.z (cln_ag (alc1 .s (alc1 (clnS e89_c (fun h => absurd h (by decide))) aln1)))) (fun h => absurd h (by decide))) (alc (cokW false (a2c (.z (frz_sl (e66_ok false) (fun h => h))) (a2c (.z (frz_ag (a2c .s (a2c (frz_sl e89_ok (fun h => h)) a2n)))) a2n)) akn (akc (.inr rfl) akn) (.rf (memP_mem (p := (1003079, 512)) rfl)) (akc ⟨_, _, rfl, rfl, rowB e66_c0 _⟩ akn) (fun h => absurd h (by decide))) aln))))) (acal (.cw' [3016433] [] (spec_Moved.J k (at_ a1 x4) x5 _ hx6) shn (cnv_ag (a2c (.z .s) (a2c (.z (frz_rf (k := 3016433) e89_ok (by simp) rfl rfl (row_len e89_ok _).symm)) a2n)))) (acal (spec_l09With.J k x2 x6 _ hx7) nocal)) ?_
          by_cases c5 : (x3.length + ([x5] : List Int).length) * 8 ≤ 70368744177664
          · rw [if_pos c5] at h
            refine .reg' [1, 2, 3, 8, 9, 10] [.no, .no, .no, .w (.rf 1280 0 ((x3 ++ ([x5] : List Int)).length) 1 ((x3 ++ ([x5] : List Int)).length * 1)) ((x3 ++ ([x5] : List Int)).flatMap encI)] ⟨[(1, (.sl true a1.length 2 (a1.flatMap (e66 true)))), (2, (I a2)), (3, (.pt 256 0 2)), (8, (.rf 1003079 0 x7.length 2 (x7.length * 2))), (9, (.rf 1280 0 ((x3 ++ ([x5] : List Int)).length) 1 ((x3 ++ ([x5] : List Int)).length * 1))), (10, (I x4))], [(256, [(I a0.f0), (.sl true a0.f1.length 4 (a0.f1.flatMap e95))]), (1280, ((x3 ++ ([x5] : List Int)).flatMap encI)), (1003079, (x7.flatMap (e66 false))), (3330, (([x5] : List Int).flatMap encI))], [V.rf 1280 0 (x3.length + ([x5] : List Int).length) 1 (x3.length * 1 + ([x5] : List Int).length * 1) = (.rf 1280 0 ((x3 ++ ([x5] : List Int)).length) 1 ((x3 ++ ([x5] : List Int)).length * 1)), x3.flatMap encI ++ (((([x5] : List Int).flatMap encI).drop 0).take (([x5] : List Int).length * 1)) = ((x3 ++ ([x5] : List Int)).flatMap encI), (([x5] : List Int).length * 1 = (([x5] : List Int).flatMap encI).length ∧ 0 + ([x5] : List Int).length * 1 ≤ (([x5] : List Int).flatMap encI).length) ∧ x3.length * 1 = (x3.flatMap encI).length ∧ x3.length * 1 = (x3.flatMap encI).length ∧ (x3.length + ([x5] : List Int).length) * 8 ≤ 70368744177664], []⟩ [c_ 2003, l_ 250, b_ 0, c_ 63] (alc (apV rfl) (alc (apR encI_ok rfl) (alc (apO encI_ok rfl c5 rfl) aln))) nocal ?_
            refine .reg' [1, 2, 3, 8, 9, 10] [] ⟨[(1, (.sl true a1.length 2 (a1.flatMap (e66 true)))), (2, (I a2)), (3, (.pt 256 0 2)), (8, (.rf 1003079 0 x7.length 2 (x7.length * 2))), (9, (.rf 1280 0 ((x3 ++ ([x5] : List Int)).length) 1 ((x3 ++ ([x5] : List Int)).length * 1))), (10, (I (wrap64 (x4 + 1))))], [(256, [(I a0.f0), (.sl true a0.f1.length 4 (a0.f1.flatMap e95))]), (1280, ((x3 ++ ([x5] : List Int)).flatMap encI)), (1003079, (x7.flatMap (e66 false))), (3330, (([x5] : List Int).flatMap encI))], [], []⟩ [l_ 250, b_ 0, c_ 63] aln nocal ?_
            refine .wk' [] [(256, 256), (1003079, 1024), (1280, 1280)] [(1, (.sl true a1.length 2 (a1.flatMap (e66 true)))), (2, (I a2)), (3, (.pt 256 0 2)), (8, (.rf 1024 0 x7.length 2 (x7.length * 2))), (9, (.rf 1280 0 ((x3 ++ ([x5] : List Int)).length) 1 ((x3 ++ ([x5] : List Int)).length * 1))), (10, (I (wrap64 (x4 + 1))))] [(256, [(I a0.f0), (.sl true a0.f1.length 4 (a0.f1.flatMap e95))]), (1024, (x7.flatMap (e66 false))), (1280, ((x3 ++ ([x5] : List Int)).flatMap encI))] (shc 256 (a2c (.z .s) (a2c (.z (frz_sl e95_ok (fun h => h))) a2n)) (shc 1003079 (rowF (e66_ok false) _) (shc 1280 (rowF encI_ok _) shn))) (enc_ (.z (frz_sl (e66_ok true) (fun h => h))) (enc_ (.z .s) (enc_ (.pt (memP_mem (p := (256, 256)) rfl)) (enc_ (.rf (memP_mem (p := (1003079, 1024)) rfl)) (enc_ (.rf (memP_mem (p := (1280, 1280)) rfl)) (enc_ (.z .s) enn)))))) ?_
            exact ih0 a0 a1 a2 x7 (x3 ++ ([x5] : List Int)) (wrap64 (x4 + 1)) _ h
          · rw [if_neg c5] at h
            cases h
      · rw [if_neg c3] at h
        cases h
    · rw [if_neg c2] at h
      refine .cond' (.tmp 21) false [c_ 126, c_ 127] (bF (dF c2)) ?_
      refine .reg' [6, 7] [] ⟨[(6, (.rf 1024 0 x2.length 2 (x2.length * 2))), (7, (.rf 1280 0 x3.length 1 (x3.length * 1)))], [(256, [(I a0.f0), (.sl true a0.f1.length 4 (a0.f1.flatMap e95))]), (1024, (x2.flatMap (e66 false))), (1280, (x3.flatMap encI))], [], []⟩ [c_ 127] aln nocal ?_
      have h := Option.some.inj h
      subst h
      exact .fin' [] [(1024, 1024), (1280, 1280)] (.tp [(.rf 1024 0 x2.length 2 (x2.length * 2)), (.rf 1280 0 x3.length 1 (x3.length * 1))]) [] aln (shc 1024 (rowF (e66_ok false) _) (shc 1280 (rowF encI_ok _) shn)) (cnv_tp (a2c (.rf (memP_mem (p := (1024, 1024)) rfl)) (a2c (.rf (memP_mem (p := (1280, 1280)) rfl)) a2n)))
theorem spec_Settle.J (k : Nat) (a0 : S46) (a1 : (List S66)) (a2 : Int) (r : ((List S66) × (List Int))) (h : spec_Settle.f k a0 a1 a2 = some r) : J prog (.call 44 [(.ag [(I a0.f0), (.sl true a0.f1.length 4 (a0.f1.flatMap e95))]), (.sl true a1.length 2 (a1.flatMap (e66 true))), (I a2)] [] (.tp [(.rf 1024 0 r.1.length 2 (r.1.length * 2)), (.rf 1280 0 r.2.length 1 (r.2.length * 1))]) [(1024, (r.1.flatMap (e66 false))), (1280, (r.2.flatMap encI))]) := by
  unfold spec_Settle.f at h
  have ih0 := spec_Settle.lab k
  refine .call' [c_ 2, c_ 3] ?_
  refine .reg' [1, 2, 3] [] ⟨[(1, (.sl true a1.length 2 (a1.flatMap (e66 true)))), (2, (I a2)), (3, (.pt 256 0 2))], [(256, [(I a0.f0), (.sl true a0.f1.length 4 (a0.f1.flatMap e95))])], [], []⟩ [c_ 12, c_ 13, c_ 7] aln nocal ?_
  obtain ⟨x1, hx1, h⟩ := Option.bind_eq_some_iff.mp h
  refine .reg' [1, 2, 3, 15] [.no, .no, .c ⟨25, [(.ag [(I a0.f0), (.sl true a0.f1.length 4 (a0.f1.flatMap e95))]), (.sl true a1.length 2 (a1.flatMap (e66 true)))], [], (B x1), [], [], [], [], (B x1), []⟩] ⟨[(1, (.sl true a1.length 2 (a1.flatMap (e66 true)))), (2, (I a2)), (3, (.pt 256 0 2)), (15, (B (!x1)))], [(256, [(I a0.f0), (.sl true a0.f1.length 4 (a0.f1.flatMap e95))])], [2 = 2 ∧ 0 + 2 ≤ 2, COK (hget [(256, [(I a0.f0), (.sl true a0.f1.length 4 (a0.f1.flatMap e95))])]) [(.ag [(I a0.f0), (.sl true a0.f1.length 4 (a0.f1.flatMap e95))]), (.sl true a1.length 2 (a1.flatMap (e66 true)))] ⟨25, [(.ag [(I a0.f0), (.sl true a0.f1.length 4 (a0.f1.flatMap e95))]), (.sl true a1.length 2 (a1.flatMap (e66 true)))], [], (B x1), [], [], [], [], (B x1), []⟩], [⟨25, [(.ag [(I a0.f0), (.sl true a0.f1.length 4 (a0.f1.flatMap e95))]), (.sl true a1.length 2 (a1.flatMap (e66 true)))], [], (B x1), [], [], [], [], (B x1), []⟩]⟩ [c_ 13, c_ 7] (alc ⟨rfl, by decide⟩ (alc (cok0 false (a2c (.z (frz_ag (a2c .s (a2c (frz_sl e95_ok (fun h => h)) a2n)))) (a2c (.z (frz_sl (e66_ok true) (fun h => h))) a2n)) (.z .s) (fun h => absurd h (by decide))) aln)) (acal (spec_Ridden.J k a0 a1 _ hx1) nocal) ?_
  by_cases c1 : x1 = true
  · rw [if_pos c1] at h
    refine .cond' (.tmp 15) false [c_ 14, c_ 15] (bF (nF c1)) ?_
    refine .reg' [1, 2, 3, 8] [] ⟨[(1, (.sl true a1.length 2 (a1.flatMap (e66 true)))), (2, (I a2)), (3, (.pt 256 0 2)), (8, (.rf 1024 0 (([] : List S66).length) 2 (([] : List S66).length * 2)))], [(256, [(I a0.f0), (.sl true a0.f1.length 4 (a0.f1.flatMap e95))]), (1024, (([] : List S66).flatMap (e66 false)))], [], []⟩ [c_ 30, c_ 31] aln nocal ?_
    refine .reg' [1, 2, 3, 8, 9] [] ⟨[(1, (.sl true a1.length 2 (a1.flatMap (e66 true)))), (2, (I a2)), (3, (.pt 256 0 2)), (8, (.rf 1024 0 (([] : List S66).length) 2 (([] : List S66).length * 2))), (9, (.rf 1280 0 (([] : List Int).length) 1 (([] : List Int).length * 1)))], [(256, [(I a0.f0), (.sl true a0.f1.length 4 (a0.f1.flatMap e95))]), (1024, (([] : List S66).flatMap (e66 false))), (1280, (([] : List Int).flatMap encI))], [], []⟩ [c_ 124, c_ 125, c_ 63] aln nocal ?_
    refine .reg' [1, 2, 3, 8, 9, 10] [] ⟨[(1, (.sl true a1.length 2 (a1.flatMap (e66 true)))), (2, (I a2)), (3, (.pt 256 0 2)), (8, (.rf 1024 0 (([] : List S66).length) 2 (([] : List S66).length * 2))), (9, (.rf 1280 0 (([] : List Int).length) 1 (([] : List Int).length * 1))), (10, (I 0))], [(256, [(I a0.f0), (.sl true a0.f1.length 4 (a0.f1.flatMap e95))]), (1024, (([] : List S66).flatMap (e66 false))), (1280, (([] : List Int).flatMap encI))], [], []⟩ [l_ 250, b_ 0, c_ 63] aln nocal ?_
    exact ih0 a0 a1 a2 ([] : List S66) ([] : List Int) 0 _ h
  · rw [if_neg c1] at h
    refine .cond' (.tmp 15) true [c_ 52, c_ 53, c_ 7] (bT (nT (vF c1))) ?_
    refine .reg' [6, 7] [] ⟨[(6, nilS), (7, nilS)], [(256, [(I a0.f0), (.sl true a0.f1.length 4 (a0.f1.flatMap e95))])], [], []⟩ [c_ 53, c_ 7] aln nocal ?_
    have h := Option.some.inj h
    subst h
    refine .nl' 1024 ?_
    refine .nl' 1280 ?_
    exact .fin' [] [(1024, 1024), (1280, 1280)] (.tp [nilS, nilS]) [] aln (shc 1024 (rowF (e66_ok false) _) (shc 1280 (rowF encI_ok _) shn)) (cnv_tp (a2c (.nl (memP_mem (p := (1024, 1024)) rfl) rfl) (a2c (.nl (memP_mem (p := (1280, 1280)) rfl) rfl) a2n)))
/-! impl_between: function 58 -/
def impl_between.f (a0 : Int) (a1 : Int) (a2 : Int) : Option Bool := (if a0 ≥ a1 then (some (decide (a0 ≤ a2))) else (some false))
theorem impl_between.J (a0 : Int) (a1 : Int) (a2 : Int) (r : Bool) (h : impl_between.f a0 a1 a2 = some r) : J prog (.call 58 [(I a0), (I a1), (I a2)] [] (B r) []) := by
  unfold impl_between.f at h
  refine .call' [c_ 2, c_ 3] ?_
  refine .reg' [0, 1, 2] [] ⟨[(0, (I a0)), (1, (I a1)), (2, (I a2))], [], [], []⟩ [c_ 6, c_ 7] aln nocal ?_
  by_cases c1 : a0 ≥ a1
  · rw [if_pos c1] at h
    refine .reg' [6] [.no, .no, .no, .v (B true)] ⟨[(6, (B (decide (a0 ≤ a2))))], [], [(B (decide (a0 ≥ a1)) : V) = B true], []⟩ [c_ 7] (alc (bT (dT c1)) aln) nocal ?_
    have h := Option.some.inj h
    subst h
    exact .fin0 [] (B (decide (a0 ≤ a2))) [] aln (.z .s)
  · rw [if_neg c1] at h
    refine .reg' [6] [.no, .no, .no, .v (B false)] ⟨[(6, (B false))], [], [(B (decide (a0 ≥ a1)) : V) = B false], []⟩ [c_ 7] (alc (bF (dF c1)) aln) nocal ?_
    have h := Option.some.inj h
    subst h
    exact .fin0 [] (B false) [] aln (.z .s)
/-! impl_Net_node: function 102 -/
def impl_Net_node.f (a0 : S46) (a1 : Int) : Option Bool := ((impl_between.f a1 0 (wrap64 (a0.f0 - 1))).bind fun x1 => (some x1))
theorem impl_Net_node.J (a0 : S46) (a1 : Int) (r : Bool) (h : impl_Net_node.f a0 a1 = some r) : J prog (.call 102 [(.ag [(I a0.f0), (.sl true a0.f1.length 4 (a0.f1.flatMap e95))]), (I a1)] [] (B r) []) := by
  unfold impl_Net_node.f at h
  refine .call' [c_ 2, c_ 3] ?_
  refine .reg' [1, 2] [] ⟨[(1, (I a1)), (2, (.pt 256 0 2))], [(256, [(I a0.f0), (.sl true a0.f1.length 4 (a0.f1.flatMap e95))])], [], []⟩ [c_ 6, c_ 7] aln nocal ?_
  obtain ⟨x1, hx1, h⟩ := Option.bind_eq_some_iff.mp h
  refine .reg' [4] [.no, .no, .no, .no, .c ⟨58, [(I a1), (I 0), (I (wrap64 (a0.f0 - 1)))], [], (B x1), [], [], [], [], (B x1), []⟩] ⟨[(4, (B x1))], [(256, [(I a0.f0), (.sl true a0.f1.length 4 (a0.f1.flatMap e95))])], [2 = 2 ∧ 0 + 1 ≤ 2, COK (hget [(256, [(I a0.f0), (.sl true a0.f1.length 4 (a0.f1.flatMap e95))])]) [(I a1), (I 0), (I (wrap64 (a0.f0 - 1)))] ⟨58, [(I a1), (I 0), (I (wrap64 (a0.f0 - 1)))], [], (B x1), [], [], [], [], (B x1), []⟩], [⟨58, [(I a1), (I 0), (I (wrap64 (a0.f0 - 1)))], [], (B x1), [], [], [], [], (B x1), []⟩]⟩ [c_ 7] (alc ⟨rfl, by decide⟩ (alc (cok0 false (a2c (.z .s) (a2c (.z .s) (a2c (.z .s) a2n))) (.z .s) (fun h => absurd h (by decide))) aln)) (acal (impl_between.J a1 0 (wrap64 (a0.f0 - 1)) _ hx1) nocal) ?_
  have h := Option.some.inj h
  subst h
  exact .fin0 [] (B x1) [] aln (.z .s)
/-! impl_NetOk: function 87 -/
def impl_NetOk.l0 : Nat → S46 → Int → Option Bool
 | 0, _, _ => none
 | k + 1, a0, x2 => (if x2 < (a0.f1.length : Int) then (if 0 ≤ x2 then ((impl_Net_node.f a0 ((at_ a0.f1 x2).f0)).bind fun x3 => (if x3 = true then ((impl_Net_node.f a0 ((at_ a0.f1 x2).f1)).bind fun x4 => (if x4 = true then (if (at_ a0.f1 x2).f0 = (at_ a0.f1 x2).f1 then (some false) else ((impl_between.f ((at_ a0.f1 x2).f2) 1 100000).bind fun x5 => (if x5 = true then ((impl_between.f ((at_ a0.f1 x2).f3) 1 90).bind fun x6 => (if x6 = true then (impl_NetOk.l0 k a0 (wrap64 (x2 + 1))) else (some false))) else (some false)))) else (some false))) else (some false))) else none) else (some true))
def impl_NetOk.f (k : Nat) (a0 : S46) : Option Bool := ((impl_between.f a0.f0 1 30).bind fun x1 => (if x1 = true then (if (a0.f1.length : Int) > 60 then (some false) else (impl_NetOk.l0 k a0 0)) else (some false)))
theorem impl_NetOk.lab : ∀ k, (∀ (a0 : S46) (x2 : Int) (r : Bool), impl_NetOk.l0 k a0 x2 = some r → J prog (.run 87 [] [l_ 58, b_ 0, c_ 15] [(1, (.pt 256 0 2)), (16, (.sl true a0.f1.length 4 (a0.f1.flatMap e95))), (17, (I (a0.f1.length : Int))), (18, (I x2))] [(256, [(I a0.f0), (.sl true a0.f1.length 4 (a0.f1.flatMap e95))])] (B r) []))
 | 0 => (by intro a0 x2 r h; unfold impl_NetOk.l0 at h; cases h)
 | k + 1 => by
  have ih0 := impl_NetOk.lab k
  · intro a0 x2 r h
    unfold impl_NetOk.l0 at h
    refine .loop' [c_ 232, c_ 233, l_ 58, b_ 0, c_ 15] ?_
    refine .reg' [1, 16, 17, 18, 19] [] ⟨[(1, (.pt 256 0 2)), (16, (.sl true a0.f1.length 4 (a0.f1.flatMap e95))), (17, (I (a0.f1.length : Int))), (18, (I x2)), (19, (B (decide (x2 < (a0.f1.length : Int)))))], [(256, [(I a0.f0), (.sl true a0.f1.length 4 (a0.f1.flatMap e95))])], [], []⟩ [c_ 466, c_ 467, l_ 58, b_ 0, c_ 15] aln nocal ?_
    by_cases c3 : x2 < (a0.f1.length : Int)
    · rw [if_pos c3] at h
      refine .cond' (.tmp 19) true [c_ 3736, c_ 3737, b_ 1, c_ 935, l_ 58, b_ 0, c_ 15] (bT (dT c3)) ?_
      by_cases c4 : 0 ≤ x2
      · rw [if_pos c4] at h
        refine .reg' [1, 4, 16, 17, 18] [.no, .v (.ag [(I (at_ a0.f1 x2).f0), (I (at_ a0.f1 x2).f1), (I (at_ a0.f1 x2).f2), (I (at_ a0.f1 x2).f3)])] ⟨[(1, (.pt 256 0 2)), (4, (.pt 1538 0 4)), (16, (.sl true a0.f1.length 4 (a0.f1.flatMap e95))), (17, (I (a0.f1.length : Int))), (18, (I x2))], [(256, [(I a0.f0), (.sl true a0.f1.length 4 (a0.f1.flatMap e95))]), (1538, [(I (at_ a0.f1 x2).f0), (I (at_ a0.f1 x2).f1), (I (at_ a0.f1 x2).f2), (I (at_ a0.f1 x2).f3)])], [(0 : Int) ≤ x2 ∧ x2 < (a0.f1.length : Int), rdC prog 96 ((a0.f1.flatMap e95).drop (x2.toNat * 4)) = (.ag [(I (at_ a0.f1 x2).f0), (I (at_ a0.f1 x2).f1), (I (at_ a0.f1 x2).f2), (I (at_ a0.f1 x2).f3)]), 4 ≤ ((a0.f1.flatMap e95).drop (x2.toNat * 4)).length, 4 = 4 ∧ 0 + 4 ≤ 4], []⟩ [c_ 7474, c_ 7475, b_ 1, c_ 935, l_ 58, b_ 0, c_ 15] (alc ⟨c4, c3⟩ (alc (ldA e95_ok rfl rfl c4 c3) (alc (okI e95_ok c4 c3 (by decide)) (alc ⟨rfl, by decide⟩ aln)))) nocal ?_
        obtain ⟨x3, hx3, h⟩ := Option.bind_eq_some_iff.mp h
        by_cases c5 : x3 = true
        · rw [if_pos c5] at h
          obtain ⟨x4, hx4, h⟩ := Option.bind_eq_some_iff.mp h
          by_cases c6 : x4 = true
          · rw [if_pos c6] at h
            by_cases c7 : (at_ a0.f1 x2).f0 = (at_ a0.f1 x2).f1
            · rw [if_pos c7] at h
              refine .reg' [1, 16, 17, 18, 52] [.no, .no, .no, .c ⟨102, [(.ag [(I a0.f0), (.sl true a0.f1.length 4 (a0.f1.flatMap e95))]), (I (at_ a0.f1 x2).f0)], [], (B x3), [], [], [], [], (B x3), []⟩, .no, .v (B false), .no, .no, .no, .c ⟨102, [(.ag [(I a0.f0), (.sl true a0.f1.length 4 (a0.f1.flatMap e95))]), (I (at_ a0.f1 x2).f1)], [], (B x4), [], [], [], [], (B x4), []⟩, .no, .no, .v (B false), .no, .no, .no, .no, .no, .no, .v (B true)] ⟨[(1, (.pt 256 0 2)), (16, (.sl true a0.f1.length 4 (a0.f1.flatMap e95))), (17, (I (a0.f1.length : Int))), (18, (I x2)), (52, (B true))], [(256, [(I a0.f0), (.sl true a0.f1.length 4 (a0.f1.flatMap e95))]), (1538, [(I (at_ a0.f1 x2).f0), (I (at_ a0.f1 x2).f1), (I (at_ a0.f1 x2).f2), (I (at_ a0.f1 x2).f3)])], [2 = 2 ∧ 0 + 2 ≤ 2, 4 = 4 ∧ 0 + 1 ≤ 4, COK (hget [(256, [(I a0.f0), (.sl true a0.f1.length 4 (a0.f1.flatMap e95))]), (1538, [(I (at_ a0.f1 x2).f0), (I (at_ a0.f1 x2).f1), (I (at_ a0.f1 x2).f2), (I (at_ a0.f1 x2).f3)])]) [(.ag [(I a0.f0), (.sl true a0.f1.length 4 (a0.f1.flatMap e95))]), (I (at_ a0.f1 x2).f0)] ⟨102, [(.ag [(I a0.f0), (.sl true a0.f1.length 4 (a0.f1.flatMap e95))]), (I (at_ a0.f1 x2).f0)], [], (B x3), [], [], [], [], (B x3), []⟩, (B (!x3) : V) = B false, 2 = 2 ∧ 0 + 2 ≤ 2, 4 = 4 ∧ 1 + 1 ≤ 4, COK (hget [(256, [(I a0.f0), (.sl true a0.f1.length 4 (a0.f1.flatMap e95))]), (1538, [(I (at_ a0.f1 x2).f0), (I (at_ a0.f1 x2).f1), (I (at_ a0.f1 x2).f2), (I (at_ a0.f1 x2).f3)])]) [(.ag [(I a0.f0), (.sl true a0.f1.length 4 (a0.f1.flatMap e95))]), (I (at_ a0.f1 x2).f1)] ⟨102, [(.ag [(I a0.f0), (.sl true a0.f1.length 4 (a0.f1.flatMap e95))]), (I (at_ a0.f1 x2).f1)], [], (B x4), [], [], [], [], (B x4), []⟩, (B (!x4) : V) = B false, 4 = 4 ∧ 0 + 1 ≤ 4, 4 = 4 ∧ 1 + 1 ≤ 4, (B ((at_ a0.f1 x2).f0 == (at_ a0.f1 x2).f1) : V) = B true], [⟨102, [(.ag [(I a0.f0), (.sl true a0.f1.length 4 (a0.f1.flatMap e95))]), (I (at_ a0.f1 x2).f0)], [], (B x3), [], [], [], [], (B x3), []⟩, ⟨102, [(.ag [(I a0.f0), (.sl true a0.f1.length 4 (a0.f1.flatMap e95))]), (I (at_ a0.f1 x2).f1)], [], (B x4), [], [], [], [], (B x4), []⟩]⟩ [c_ 7475, b_ 1, c_ 935, l_ 58, b_ 0, c_ 15] (alc ⟨rfl, by decide⟩ (alc ⟨rfl, by decide⟩ (alc (cok0 false (a2c (.z (frz_ag (a2c .s (a2c (frz_sl e95_ok (fun h => h)) a2n)))) (a2c (.z .s) a2n)) (.z .s) (fun h => absurd h (by decide))) (alc (bF (nF c5)) (alc ⟨rfl, by decide⟩ (alc ⟨rfl, by decide⟩ (alc (cok0 false (a2c (.z (frz_ag (a2c .s (a2c (frz_sl e95_ok (fun h => h)) a2n)))) (a2c (.z .s) a2n)) (.z .s) (fun h => absurd h (by decide))) (alc (bF (nF c6)) (alc ⟨rfl, by decide⟩ (alc ⟨rfl, by decide⟩ (alc (bT (qT c7)) aln))))))))))) (acal (impl_Net_node.J a0 ((at_ a0.f1 x2).f0) _ hx3) (acal (impl_Net_node.J a0 ((at_ a0.f1 x2).f1) _ hx4) nocal)) ?_
              refine .cond' (.tmp 52) true [c_ 29900, c_ 29901, b_ 1, c_ 935, l_ 58, b_ 0, c_ 15] (rfl) ?_
              refine .reg' [2] [] ⟨[(2, (B false))], [(256, [(I a0.f0), (.sl true a0.f1.length 4 (a0.f1.flatMap e95))]), (1538, [(I (at_ a0.f1 x2).f0), (I (at_ a0.f1 x2).f1), (I (at_ a0.f1 x2).f2), (I (at_ a0.f1 x2).f3)])], [], []⟩ [c_ 29901, b_ 1, c_ 935, l_ 58, b_ 0, c_ 15] aln nocal ?_
              have h := Option.some.inj h
              subst h
              exact .fin0 [] (B false) [] aln (.z .s)
            · rw [if_neg c7] at h
              obtain ⟨x5, hx5, h⟩ := Option.bind_eq_some_iff.mp h
              by_cases c8 : x5 = true
              · rw [if_pos c8] at h
                obtain ⟨x6, hx6, h⟩ := Option.bind_eq_some_iff.mp h
                refine .reg' [1, 16, 17, 18, 52] [.no, .no, .no, .c ⟨102, [(.ag [(I a0.f0), (.sl true a0.f1.length 4 (a0.f1.flatMap e95))]), (I (at_ a0.f1 x2).f0)], [], (B x3), [], [], [], [], (B x3), []⟩, .no, .v (B false), .no, .no, .no, .c ⟨102, [(.ag [(I a0.f0), (.sl true a0.f1.length 4 (a0.f1.flatMap e95))]), (I (at_ a0.f1 x2).f1)], [], (B x4), [], [], [], [], (B x4), []⟩, .no, .no, .v (B false), .no, .no, .no, .no, .no, .no, .v (B false), .no, .no, .c ⟨58, [(I (at_ a0.f1 x2).f2), (I 1), (I 100000)], [], (B x5), [], [], [], [], (B x5), []⟩, .no, .no, .v (B false), .no, .no, .c ⟨58, [(I (at_ a0.f1 x2).f3), (I 1), (I 90)], [], (B x6), [], [], [], [], (B x6), []⟩] ⟨[(1, (.pt 256 0 2)), (16, (.sl true a0.f1.length 4 (a0.f1.flatMap e95))), (17, (I (a0.f1.length : Int))), (18, (I x2)), (52, (B (!x6)))], [(256, [(I a0.f0), (.sl true a0.f1.length 4 (a0.f1.flatMap e95))]), (1538, [(I (at_ a0.f1 x2).f0), (I (at_ a0.f1 x2).f1), (I (at_ a0.f1 x2).f2), (I (at_ a0.f1 x2).f3)])], [2 = 2 ∧ 0 + 2 ≤ 2, 4 = 4 ∧ 0 + 1 ≤ 4, COK (hget [(256, [(I a0.f0), (.sl true a0.f1.length 4 (a0.f1.flatMap e95))]), (1538, [(I (at_ a0.f1 x2).f0), (I (at_ a0.f1 x2).f1), (I (at_ a0.f1 x2).f2), (I (at_ a0.f1 x2).f3)])]) [(.ag [(I a0.f0), (.sl true a0.f1.length 4 (a0.f1.flatMap e95))]), (I (at_ a0.f1 x2).f0)] ⟨102, [(.ag [(I a0.f0), (.sl true a0.f1.length 4 (a0.f1.flatMap e95))]), (I (at_ a0.f1 x2).f0)], [], (B x3), [], [], [], [], (B x3), []⟩, (B (!x3) : V) = B false, 2 = 2 ∧ 0 + 2 ≤ 2, 4 = 4 ∧ 1 + 1 ≤ 4, COK (hget [(256, [(I a0.f0), (.sl true a0.f1.length 4 (a0.f1.flatMap e95))]), (1538, [(I (at_ a0.f1 x2).f0), (I (at_ a0.f1 x2).f1), (I (at_ a0.f1 x2).f2), (I (at_ a0.f1 x2).f3)])]) [(.ag [(I a0.f0), (.sl true a0.f1.length 4 (a0.f1.flatMap e95))]), (I (at_ a0.f1 x2).f1)] ⟨102, [(.ag [(I a0.f0), (.sl true a0.f1.length 4 (a0.f1.flatMap e95))]), (I (at_ a0.f1 x2).f1)], [], (B x4), [], [], [], [], (B x4), []⟩, (B (!x4) : V) = B false, 4 = 4 ∧ 0 + 1 ≤ 4, 4 = 4 ∧ 1 + 1 ≤ 4, (B ((at_ a0.f1 x2).f0 == (at_ a0.f1 x2).f1) : V) = B false, 4 = 4 ∧ 2 + 1 ≤ 4, COK (hget [(256, [(I a0.f0), (.sl true a0.f1.length 4 (a0.f1.flatMap e95))]), (1538, [(I (at_ a0.f1 x2).f0), (I (at_ a0.f1 x2).f1), (I (at_ a0.f1 x2).f2), (I (at_ a0.f1 x2).f3)])]) [(I (at_ a0.f1 x2).f2), (I 1), (I 100000)] ⟨58, [(I (at_ a0.f1 x2).f2), (I 1), (I 100000)], [], (B x5), [], [], [], [], (B x5), []⟩, (B (!x5) : V) = B false, 4 = 4 ∧ 3 + 1 ≤ 4, COK (hget [(256, [(I a0.f0), (.sl true a0.f1.length 4 (a0.f1.flatMap e95))]), (1538, [(I (at_ a0.f1 x2).f0), (I (at_ a0.f1 x2).f1), (I (at_ a0.f1 x2).f2), (I (at_ a0.f1 x2).f3)])]) [(I (at_ a0.f1 x2).f3), (I 1), (I 90)] ⟨58, [(I (at_ a0.f1 x2).f3), (I 1), (I 90)], [], (B x6), [], [], [], [], (B x6), []⟩], [⟨102, [(.ag [(I a0.f0), (.sl true a0.f1.length 4 (a0.f1.flatMap e95))]), (I (at_ a0.f1 x2).f0)], [], (B x3), [], [], [], [], (B x3), []⟩, ⟨102, [(.ag [(I a0.f0), (.sl true a0.f1.length 4 (a0.f1.flatMap e95))]), (I (at_ a0.f1 x2).f1)], [], (B x4), [], [], [], [], (B x4), []⟩, ⟨58, [(I (at_ a0.f1 x2).f2), (I 1), (I 100000)], [], (B x5), [], [], [], [], (B x5), []⟩, ⟨58, [(I (at_ a0.f1 x2).f3), (I 1), (I 90)], [], (B x6), [], [], [], [], (B x6), []⟩]⟩ [c_ 7475, b_ 1, c_ 935, l_ 58, b_ 0, c_ 15] (alc ⟨rfl, by decide⟩ (alc ⟨rfl, by decide⟩ (alc (cok0 false (a2c (.z (frz_ag (a2c .s (a2c (frz_sl e95_ok (fun h => h)) a2n)))) (a2c (.z .s) a2n)) (.z .s) (fun h => absurd h (by decide))) (alc (bF (nF c5)) (alc ⟨rfl, by decide⟩ (alc ⟨rfl, by decide⟩ (alc (cok0 false (a2c (.z (frz_ag (a2c .s (a2c (frz_sl e95_ok (fun h => h)) a2n)))) (a2c (.z .s) a2n)) (.z .s) (fun h => absurd h (by decide))) (alc (bF (nF c6)) (alc ⟨rfl, by decide⟩ (alc ⟨rfl, by decide⟩ (alc (bF (qF c7)) (alc ⟨rfl, by decide⟩ (alc (cok0 false (a2c (.z .s) (a2c (.z .s) (a2c (.z .s) a2n))) (.z .s) (fun h => absurd h (by decide))) (alc (bF (nF c8)) (alc ⟨rfl, by decide⟩ (alc (cok0 false (a2c (.z .s) (a2c (.z .s) (a2c (.z .s) a2n))) (.z .s) (fun h => absurd h (by decide))) aln)))))))))))))))) (acal (impl_Net_node.J a0 ((at_ a0.f1 x2).f0) _ hx3) (acal (impl_Net_node.J a0 ((at_ a0.f1 x2).f1) _ hx4) (acal (impl_between.J ((at_ a0.f1 x2).f2) 1 100000 _ hx5) (acal (impl_between.J ((at_ a0.f1 x2).f3) 1 90 _ hx6) nocal)))) ?_
                by_cases c9 : x6 = true
                · rw [if_pos c9] at h
                  refine .cond' (.tmp 52) false [c_ 935, l_ 58, b_ 0, c_ 15] (bF (nF c9)) ?_
                  refine .reg' [1, 16, 17, 18] [] ⟨[(1, (.pt 256 0 2)), (16, (.sl true a0.f1.length 4 (a0.f1.flatMap e95))), (17, (I (a0.f1.length : Int))), (18, (I (wrap64 (x2 + 1))))], [(256, [(I a0.f0), (.sl true a0.f1.length 4 (a0.f1.flatMap e95))]), (1538, [(I (at_ a0.f1 x2).f0), (I (at_ a0.f1 x2).f1), (I (at_ a0.f1 x2).f2), (I (at_ a0.f1 x2).f3)])], [], []⟩ [l_ 58, b_ 0, c_ 15] aln nocal ?_
                  refine .wk' [] [(256, 256)] [(1, (.pt 256 0 2)), (16, (.sl true a0.f1.length 4 (a0.f1.flatMap e95))), (17, (I (a0.f1.length : Int))), (18, (I (wrap64 (x2 + 1))))] [(256, [(I a0.f0), (.sl true a0.f1.length 4 (a0.f1.flatMap e95))])] (shc 256 (a2c (.z .s) (a2c (.z (frz_sl e95_ok (fun h => h))) a2n)) shn) (enc_ (.pt (memP_mem (p := (256, 256)) rfl)) (enc_ (.z (frz_sl e95_ok (fun h => h))) (enc_ (.z .s) (enc_ (.z .s) enn)))) ?_
                  exact ih0 a0 (wrap64 (x2 + 1)) _ h
                · rw [if_neg c9] at h
                  refine .cond' (.tmp 52) true [c_ 29900, c_ 29901, b_ 1, c_ 935, l_ 58, b_ 0, c_ 15] (bT (nT (vF c9))) ?_
                  refine .reg' [2] [] ⟨[(2, (B false))], [(256, [(I a0.f0), (.sl true a0.f1.length 4 (a0.f1.flatMap e95))]), (1538, [(I (at_ a0.f1 x2).f0), (I (at_ a0.f1 x2).f1), (I (at_ a0.f1 x2).f2), (I (at_ a0.f1 x2).f3)])], [], []⟩ [c_ 29901, b_ 1, c_ 935, l_ 58, b_ 0, c_ 15] aln nocal ?_
                  have h := Option.some.inj h
                  subst h
                  exact .fin0 [] (B false) [] aln (.z .s)
              · rw [if_neg c8] at h
                refine .reg' [1, 16, 17, 18, 52] [.no, .no, .no, .c ⟨102, [(.ag [(I a0.f0), (.sl true a0.f1.length 4 (a0.f1.flatMap e95))]), (I (at_ a0.f1 x2).f0)], [], (B x3), [], [], [], [], (B x3), []⟩, .no, .v (B false), .no, .no, .no, .c ⟨102, [(.ag [(I a0.f0), (.sl true a0.f1.length 4 (a0.f1.flatMap e95))]), (I (at_ a0.f1 x2).f1)], [], (B x4), [], [], [], [], (B x4), []⟩, .no, .no, .v (B false), .no, .no, .no, .no, .no, .no, .v (B false), .no, .no, .c ⟨58, [(I (at_ a0.f1 x2).f2), (I 1), (I 100000)], [], (B x5), [], [], [], [], (B x5), []⟩, .no, .no, .v (B true)] ⟨[(1, (.pt 256 0 2)), (16, (.sl true a0.f1.length 4 (a0.f1.flatMap e95))), (17, (I (a0.f1.length : Int))), (18, (I x2)), (52, (B true))], [(256, [(I a0.f0), (.sl true a0.f1.length 4 (a0.f1.flatMap e95))]), (1538, [(I (at_ a0.f1 x2).f0), (I (at_ a0.f1 x2).f1), (I (at_ a0.f1 x2).f2), (I (at_ a0.f1 x2).f3)])], [2 = 2 ∧ 0 + 2 ≤ 2, 4 = 4 ∧ 0 + 1 ≤ 4, COK (hget [(256, [(I a0.f0), (.sl true a0.f1.length 4 (a0.f1.flatMap e95))]), (1538, [(I (at_ a0.f1 x2).f0), (I (at_ a0.f1 x2).f1), (I (at_ a0.f1 x2).f2), (I (at_ a0.f1 x2).f3)])]) [(.ag [(I a0.f0), (.sl true a0.f1.length 4 (a0.f1.flatMap e95))]), (I (at_ a0.f1 x2).f0)] ⟨102, [(.ag [(I a0.f0), (.sl true a0.f1.length 4 (a0.f1.flatMap e95))]), (I (at_ a0.f1 x2).f0)], [], (B x3), [], [], [], [], (B x3), []⟩, (B (!x3) : V) = B false, 2 = 2 ∧ 0 + 2 ≤ 2, 4 = 4 ∧ 1 + 1 ≤ 4, COK (hget [(256, [(I a0.f0), (.sl true a0.f1.length 4 (a0.f1.flatMap e95))]), (1538, [(I (at_ a0.f1 x2).f0), (I (at_ a0.f1 x2).f1), (I (at_ a0.f1 x2).f2), (I (at_ a0.f1 x2).f3)])]) [(.ag [(I a0.f0), (.sl true a0.f1.length 4 (a0.f1.flatMap e95))]), (I (at_ a0.f1 x2).f1)] ⟨102, [(.ag [(I a0.f0), (.sl true a0.f1.length 4 (a0.f1.flatMap e95))]), (I (at_ a0.f1 x2).f1)], [], (B x4), [], [], [], [], (B x4), []⟩, (B (!x4) : V) = B false, 4 = 4 ∧ 0 + 1 ≤ 4, 4 = 4 ∧ 1 + 1 ≤ 4, (B ((at_ a0.f1 x2).f0 == (at_ a0.f1 x2).f1) : V) = B false, 4 = 4 ∧ 2 + 1 ≤ 4, COK (hget [(256, [(I a0.f0), (.sl true a0.f1.length 4 (a0.f1.flatMap e95))]), (1538, [(I (at_ a0.f1 x2).f0), (I (at_ a0.f1 x2).f1), (I (at_ a0.f1 x2).f2), (I (at_ a0.f1 x2).f3)])]) [(I (at_ a0.f1 x2).f2), (I 1), (I 100000)] ⟨58, [(I (at_ a0.f1 x2).f2), (I 1), (I 100000)], [], (B x5), [], [], [], [], (B x5), []⟩, (B (!x5) : V) = B true], [⟨102, [(.ag [(I a0.f0), (.sl true a0.f1.length 4 (a0.f1.flatMap e95))]), (I (at_ a0.f1 x2).f0)], [], (B x3), [], [], [], [], (B x3), []⟩, ⟨102, [(.ag [(I a0.f0), (.sl true a0.f1.length 4 (a0.f1.flatMap e95))]), (I (at_ a0.f1 x2).f1)], [], (B x4), [], [], [], [], (B x4), []⟩, ⟨58, [(I (at_ a0.f1 x2).f2), (I 1), (I 100000)], [], (B x5), [], [], [], [], (B x5), []⟩]⟩ [c_ 7475, b_ 1, c_ 935, l_ 58, b_ 0, c_ 15] (alc ⟨rfl, by decide⟩ (alc ⟨rfl, by decide⟩ (alc (cok0 false (a2c (.z (frz_ag (a2c .s (a2c (frz_sl e95_ok (fun h => h)) a2n)))) (a2c (.z .s) a2n)) (.z .s) (fun h => absurd h (by decide))) (alc (bF (nF c5)) (alc ⟨rfl, by decide⟩ (alc ⟨rfl, by decide⟩ (alc (cok0 false (a2c (.z (frz_ag (a2c .s (a2c (frz_sl e95_ok (fun h => h)) a2n)))) (a2c (.z .s) a2n)) (.z .s) (fun h => absurd h (by decide))) (alc (bF (nF c6)) (alc ⟨rfl, by decide⟩ (alc ⟨rfl, by decide⟩ (alc (bF (qF c7)) (alc ⟨rfl, by decide⟩ (alc (cok0 false (a2c (.z .s) (a2c (.z .s) (a2c (.z .s) a2n))) (.z .s) (fun h => absurd h (by decide))) (alc (bT (nT (vF c8))) aln)))))))))))))) (acal (impl_Net_node.J a0 ((at_ a0.f1 x2).f0) _ hx3) (acal (impl_Net_node.J a0 ((at_ a0.f1 x2).f1) _ hx4) (acal (impl_between.J ((at_ a0.f1 x2).f2) 1 100000 _ hx5) nocal))) ?_
                refine .cond' (.tmp 52) true [c_ 29900, c_ 29901, b_ 1, c_ 935, l_ 58, b_ 0, c_ 15] (rfl) ?_
                refine .reg' [2] [] ⟨[(2, (B false))], [(256, [(I a0.f0), (.sl true a0.f1.length 4 (a0.f1.flatMap e95))]), (1538, [(I (at_ a0.f1 x2).f0), (I (at_ a0.f1 x2).f1), (I (at_ a0.f1 x2).f2), (I (at_ a0.f1 x2).f3)])], [], []⟩ [c_ 29901, b_ 1, c_ 935, l_ 58, b_ 0, c_ 15] aln nocal ?_
                have h := Option.some.inj h
                subst h
                exact .fin0 [] (B false) [] aln (.z .s)
          · rw [if_neg c6] at h
            refine .reg' [1, 16, 17, 18, 52] [.no, .no, .no, .c ⟨102, [(.ag [(I a0.f0), (.sl true a0.f1.length 4 (a0.f1.flatMap e95))]), (I (at_ a0.f1 x2).f0)], [], (B x3), [], [], [], [], (B x3), []⟩, .no, .v (B false), .no, .no, .no, .c ⟨102, [(.ag [(I a0.f0), (.sl true a0.f1.length 4 (a0.f1.flatMap e95))]), (I (at_ a0.f1 x2).f1)], [], (B x4), [], [], [], [], (B x4), []⟩, .no, .no, .v (B true)] ⟨[(1, (.pt 256 0 2)), (16, (.sl true a0.f1.length 4 (a0.f1.flatMap e95))), (17, (I (a0.f1.length : Int))), (18, (I x2)), (52, (B true))], [(256, [(I a0.f0), (.sl true a0.f1.length 4 (a0.f1.flatMap e95))]), (1538, [(I (at_ a0.f1 x2).f0), (I (at_ a0.f1 x2).f1), (I (at_ a0.f1 x2).f2), (I (at_ a0.f1 x2).f3)])], [2 = 2 ∧ 0 + 2 ≤ 2, 4 = 4 ∧ 0 + 1 ≤ 4, COK (hget [(256, [(I a0.f0), (.sl true a0.f1.length 4 (a0.f1.flatMap e95))]), (1538, [(I (at_ a0.f1 x2).f0), (I (at_ a0.f1 x2).f1), (I (at_ a0.f1 x2).f2), (I (at_ a0.f1 x2).f3)])]) [(.ag [(I a0.f0), (.sl true a0.f1.length 4 (a0.f1.flatMap e95))]), (I (at_ a0.f1 x2).f0)] ⟨102, [(.ag [(I a0.f0), (.sl true a0.f1.length 4 (a0.f1.flatMap e95))]), (I (at_ a0.f1 x2).f0)], [], (B x3), [], [], [], [], (B x3), []⟩, (B (!x3) : V) = B false, 2 = 2 ∧ 0 + 2 ≤ 2, 4 = 4 ∧ 1 + 1 ≤ 4, COK (hget [(256, [(I a0.f0), (.sl true a0.f1.length 4 (a0.f1.flatMap e95))]), (1538, [(I (at_ a0.f1 x2).f0), (I (at_ a0.f1 x2).f1), (I (at_ a0.f1 x2).f2), (I (at_ a0.f1 x2).f3)])]) [(.ag [(I a0.f0), (.sl true a0.f1.length 4 (a0.f1.flatMap e95))]), (I (at_ a0.f1 x2).f1)] ⟨102, [(.ag [(I a0.f0), (.sl true a0.f1.length 4 (a0.f1.flatMap e95))]), (I (at_ a0.f1 x2).f1)], [], (B x4), [], [], [], [], (B x4), []⟩, (B (!x4) : V) = B true], [⟨102, [(.ag [(I a0.f0), (.sl true a0.f1.length 4 (a0.f1.flatMap e95))]), (I (at_ a0.f1 x2).f0)], [], (B x3), [], [], [], [], (B x3), []⟩, ⟨102, [(.ag [(I a0.f0), (.sl true a0.f1.length 4 (a0.f1.flatMap e95))]), (I (at_ a0.f1 x2).f1)], [], (B x4), [], [], [], [], (B x4), []⟩]⟩ [c_ 7475, b_ 1, c_ 935, l_ 58, b_ 0, c_ 15] (alc ⟨rfl, by decide⟩ (alc ⟨rfl, by decide⟩ (alc (cok0 false (a2c (.z (frz_ag (a2c .s (a2c (frz_sl e95_ok (fun h => h)) a2n)))) (a2c (.z .s) a2n)) (.z .s) (fun h => absurd h (by decide))) (alc (bF (nF c5)) (alc ⟨rfl, by decide⟩ (alc ⟨rfl, by decide⟩ (alc (cok0 false (a2c (.z (frz_ag (a2c .s (a2c (frz_sl e95_ok (fun h => h)) a2n)))) (a2c (.z .s) a2n)) (.z .s) (fun h => absurd h (by decide))) (alc (bT (nT (vF c6))) aln)))))))) (acal (impl_Net_node.J a0 ((at_ a0.f1 x2).f0) _ hx3) (acal (impl_Net_node.J a0 ((at_ a0.f1 x2).f1) _ hx4) nocal)) ?_
            refine .cond' (.tmp 52) true [c_ 29900, c_ 29901, b_ 1, c_ 935, l_ 58, b_ 0, c_ 15] (rfl) ?_
            refine .reg' [2] [] ⟨[(2, (B false))], [(256, [(I a0.f0), (.sl true a0.f1.length 4 (a0.f1.flatMap e95))]), (1538, [(I (at_ a0.f1 x2).f0), (I (at_ a0.f1 x2).f1), (I (at_ a0.f1 x2).f2), (I (at_ a0.f1 x2).f3)])], [], []⟩ [c_ 29901, b_ 1, c_ 935, l_ 58, b_ 0, c_ 15] aln nocal ?_
            have h := Option.some.inj h
            subst h
            exact .fin0 [] (B false) [] aln (.z .s)
        · rw [if_neg c5] at h
          refine .reg' [1, 16, 17, 18, 52] [.no, .no, .no, .c ⟨102, [(.ag [(I a0.f0), (.sl true a0.f1.length 4 (a0.f1.flatMap e95))]), (I (at_ a0.f1 x2).f0)], [], (B x3), [], [], [], [], (B x3), []⟩, .no, .v (B true)] ⟨[(1, (.pt 256 0 2)), (16, (.sl true a0.f1.length 4 (a0.f1.flatMap e95))), (17, (I (a0.f1.length : Int))), (18, (I x2)), (52, (B true))], [(256, [(I a0.f0), (.sl true a0.f1.length 4 (a0.f1.flatMap e95))]), (1538, [(I (at_ a0.f1 x2).f0), (I (at_ a0.f1 x2).f1), (I (at_ a0.f1 x2).f2), (I (at_ a0.f1 x2).f3)])], [2 = 2 ∧ 0 + 2 ≤ 2, 4 = 4 ∧ 0 + 1 ≤ 4, COK (hget [(256, [(I a0.f0), (.sl true a0.f1.length 4 (a0.f1.flatMap e95))]), (1538, [(I (at_ a0.f1 x2).f0), (I (at_ a0.f1 x2).f1), (I (at_ a0.f1 x2).f2), (I (at_ a0.f1 x2).f3)])]) [(.ag [(I a0.f0), (.sl true a0.f1.length 4 (a0.f1.flatMap e95))]), (I (at_ a0.f1 x2).f0)] ⟨102, [(.ag [(I a0.f0), (.sl true a0.f1.length 4 (a0.f1.flatMap e95))]), (I (at_ a0.f1 x2).f0)], [], (B x3), [], [], [], [], (B x3), []⟩, (B (!x3) : V) = B true], [⟨102, [(.ag [(I a0.f0), (.sl true a0.f1.length 4 (a0.f1.flatMap e95))]), (I (at_ a0.f1 x2).f0)], [], (B x3), [], [], [], [], (B x3), []⟩]⟩ [c_ 7475, b_ 1, c_ 935, l_ 58, b_ 0, c_ 15] (alc ⟨rfl, by decide⟩ (alc ⟨rfl, by decide⟩ (alc (cok0 false (a2c (.z (frz_ag (a2c .s (a2c (frz_sl e95_ok (fun h => h)) a2n)))) (a2c (.z .s) a2n)) (.z .s) (fun h => absurd h (by decide))) (alc (bT (nT (vF c5))) aln)))) (acal (impl_Net_node.J a0 ((at_ a0.f1 x2).f0) _ hx3) nocal) ?_
          refine .cond' (.tmp 52) true [c_ 29900, c_ 29901, b_ 1, c_ 935, l_ 58, b_ 0, c_ 15] (rfl) ?_
          refine .reg' [2] [] ⟨[(2, (B false))], [(256, [(I a0.f0), (.sl true a0.f1.length 4 (a0.f1.flatMap e95))]), (1538, [(I (at_ a0.f1 x2).f0), (I (at_ a0.f1 x2).f1), (I (at_ a0.f1 x2).f2), (I (at_ a0.f1 x2).f3)])], [], []⟩ [c_ 29901, b_ 1, c_ 935, l_ 58, b_ 0, c_ 15] aln nocal ?_
          have h := Option.some.inj h
          subst h
          exact .fin0 [] (B false) [] aln (.z .s)
      · rw [if_neg c4] at h
        cases h
    · rw [if_neg c3] at h
      refine .cond' (.tmp 19) false [c_ 30, c_ 31] (bF (dF c3)) ?_
      refine .reg' [2] [] ⟨[(2, (B true))], [(256, [(I a0.f0), (.sl true a0.f1.length 4 (a0.f1.flatMap e95))])], [], []⟩ [c_ 31] aln nocal ?_
      have h := Option.some.inj h
      subst h
      exact .fin0 [] (B true) [] aln (.z .s)
theorem impl_NetOk.J (k : Nat) (a0 : S46) (r : Bool) (h : impl_NetOk.f k a0 = some r) : J prog (.call 87 [(.ag [(I a0.f0), (.sl true a0.f1.length 4 (a0.f1.flatMap e95))])] [] (B r) []) := by
  unfold impl_NetOk.f at h
  have ih0 := impl_NetOk.lab k
  refine .call' [c_ 2, c_ 3] ?_
  refine .reg' [1] [] ⟨[(1, (.pt 256 0 2))], [(256, [(I a0.f0), (.sl true a0.f1.length 4 (a0.f1.flatMap e95))])], [], []⟩ [c_ 12, c_ 13, c_ 7] aln nocal ?_
  obtain ⟨x1, hx1, h⟩ := Option.bind_eq_some_iff.mp h
  by_cases c1 : x1 = true
  · rw [if_pos c1] at h
    refine .reg' [1, 14] [.no, .no, .c ⟨58, [(I a0.f0), (I 1), (I 30)], [], (B x1), [], [], [], [], (B x1), []⟩, .no, .v (B false)] ⟨[(1, (.pt 256 0 2)), (14, (B (decide ((a0.f1.length : Int) > 60))))], [(256, [(I a0.f0), (.sl true a0.f1.length 4 (a0.f1.flatMap e95))])], [2 = 2 ∧ 0 + 1 ≤ 2, COK (hget [(256, [(I a0.f0), (.sl true a0.f1.length 4 (a0.f1.flatMap e95))])]) [(I a0.f0), (I 1), (I 30)] ⟨58, [(I a0.f0), (I 1), (I 30)], [], (B x1), [], [], [], [], (B x1), []⟩, (B (!x1) : V) = B false, 2 = 2 ∧ 1 + 1 ≤ 2], [⟨58, [(I a0.f0), (I 1), (I 30)], [], (B x1), [], [], [], [], (B x1), []⟩]⟩ [c_ 13, c_ 7] (alc ⟨rfl, by decide⟩ (alc (cok0 false (a2c (.z .s) (a2c (.z .s) (a2c (.z .s) a2n))) (.z .s) (fun h => absurd h (by decide))) (alc (bF (nF c1)) (alc ⟨rfl, by decide⟩ aln)))) (acal (impl_between.J a0.f0 1 30 _ hx1) nocal) ?_
    by_cases c2 : (a0.f1.length : Int) > 60
    · rw [if_pos c2] at h
      refine .cond' (.tmp 14) true [c_ 52, c_ 53, c_ 7] (bT (dT c2)) ?_
      refine .reg' [2] [] ⟨[(2, (B false))], [(256, [(I a0.f0), (.sl true a0.f1.length 4 (a0.f1.flatMap e95))])], [], []⟩ [c_ 53, c_ 7] aln nocal ?_
      have h := Option.some.inj h
      subst h
      exact .fin0 [] (B false) [] aln (.z .s)
    · rw [if_neg c2] at h
      refine .cond' (.tmp 14) false [c_ 28, c_ 29, c_ 15] (bF (dF c2)) ?_
      refine .reg' [1, 16, 17, 18] [] ⟨[(1, (.pt 256 0 2)), (16, (.sl true a0.f1.length 4 (a0.f1.flatMap e95))), (17, (I (a0.f1.length : Int))), (18, (I 0))], [(256, [(I a0.f0), (.sl true a0.f1.length 4 (a0.f1.flatMap e95))])], [2 = 2 ∧ 1 + 1 ≤ 2], []⟩ [l_ 58, b_ 0, c_ 15] (alc ⟨rfl, by decide⟩ aln) nocal ?_
      exact ih0 a0 0 _ h
  · rw [if_neg c1] at h
    refine .reg' [1, 14] [.no, .no, .c ⟨58, [(I a0.f0), (I 1), (I 30)], [], (B x1), [], [], [], [], (B x1), []⟩, .no, .v (B true)] ⟨[(1, (.pt 256 0 2)), (14, (B true))], [(256, [(I a0.f0), (.sl true a0.f1.length 4 (a0.f1.flatMap e95))])], [2 = 2 ∧ 0 + 1 ≤ 2, COK (hget [(256, [(I a0.f0), (.sl true a0.f1.length 4 (a0.f1.flatMap e95))])]) [(I a0.f0), (I 1), (I 30)] ⟨58, [(I a0.f0), (I 1), (I 30)], [], (B x1), [], [], [], [], (B x1), []⟩, (B (!x1) : V) = B true], [⟨58, [(I a0.f0), (I 1), (I 30)], [], (B x1), [], [], [], [], (B x1), []⟩]⟩ [c_ 13, c_ 7] (alc ⟨rfl, by decide⟩ (alc (cok0 false (a2c (.z .s) (a2c (.z .s) (a2c (.z .s) a2n))) (.z .s) (fun h => absurd h (by decide))) (alc (bT (nT (vF c1))) aln))) (acal (impl_between.J a0.f0 1 30 _ hx1) nocal) ?_
    refine .cond' (.tmp 14) true [c_ 52, c_ 53, c_ 7] (rfl) ?_
    refine .reg' [2] [] ⟨[(2, (B false))], [(256, [(I a0.f0), (.sl true a0.f1.length 4 (a0.f1.flatMap e95))])], [], []⟩ [c_ 53, c_ 7] aln nocal ?_
    have h := Option.some.inj h
    subst h
    exact .fin0 [] (B false) [] aln (.z .s)
/-! impl_nameOk: function 92 -/
def impl_nameOk.l0 : Nat → ByteArray → Int → Option Bool
 | 0, _, _ => none
 | k + 1, a0, x1 => (if x1 < (a0.size : Int) then (if 0 ≤ x1 then (if (bt a0 x1) < 97 then (if (bt a0 x1) < 48 then (some false) else (if (bt a0 x1) > 57 then (some false) else (impl_nameOk.l0 k a0 (wrap64 (x1 + 1))))) else (if (bt a0 x1) > 122 then (if (bt a0 x1) < 48 then (some false) else (if (bt a0 x1) > 57 then (some false) else (impl_nameOk.l0 k a0 (wrap64 (x1 + 1))))) else (impl_nameOk.l0 k a0 (wrap64 (x1 + 1))))) else none) else (some true))
def impl_nameOk.f (k : Nat) (a0 : ByteArray) : Option Bool := (if (a0.size : Int) < 1 then (some false) else (if (a0.size : Int) > 12 then (some false) else (impl_nameOk.l0 k a0 0)))
theorem impl_nameOk.lab : ∀ k, (∀ (a0 : ByteArray) (x1 : Int) (r : Bool), impl_nameOk.l0 k a0 x1 = some r → J prog (.run 92 [] [l_ 58, b_ 0, c_ 15] [(0, (S a0)), (3, (I x1))] [] (B r) []))
 | 0 => (by intro a0 x1 r h; unfold impl_nameOk.l0 at h; cases h)
 | k + 1 => by
  have ih0 := impl_nameOk.lab k
  · intro a0 x1 r h
    unfold impl_nameOk.l0 at h
    refine .loop' [c_ 464, c_ 465, c_ 233, l_ 58, b_ 0, c_ 15] ?_
    refine .reg' [0, 3, 15] [] ⟨[(0, (S a0)), (3, (I x1)), (15, (B (decide (x1 < (a0.size : Int)))))], [], [], []⟩ [c_ 465, c_ 233, l_ 58, b_ 0, c_ 15] aln nocal ?_
    by_cases c3 : x1 < (a0.size : Int)
    · rw [if_pos c3] at h
      refine .cond' (.tmp 15) true [c_ 1864, c_ 1865, b_ 1, c_ 467, l_ 58, b_ 0, c_ 15] (bT (dT c3)) ?_
      by_cases c4 : 0 ≤ x1
      · rw [if_pos c4] at h
        by_cases c5 : (bt a0 x1) < 97
        · rw [if_pos c5] at h
          by_cases c6 : (bt a0 x1) < 48
          · rw [if_pos c6] at h
            refine .reg' [0, 3, 39] [.no, .no, .no, .no, .v (B true), .no, .no, .no, .no, .no, .no, .no, .no, .no, .no, .v (B true)] ⟨[(0, (S a0)), (3, (I x1)), (39, (B true))], [], [(0 : Int) ≤ x1 ∧ x1 < (a0.size : Int), (B (decide ((bt a0 x1) < 97)) : V) = B true, (0 : Int) ≤ x1 ∧ x1 < (a0.size : Int), (B (decide ((bt a0 x1) < 48)) : V) = B true], []⟩ [c_ 1865, b_ 1, c_ 467, l_ 58, b_ 0, c_ 15] (alc ⟨c4, c3⟩ (alc (bT (dT c5)) (alc ⟨c4, c3⟩ (alc (bT (dT c6)) aln)))) nocal ?_
            refine .cond' (.tmp 39) true [c_ 7460, c_ 7461, b_ 1, c_ 467, l_ 58, b_ 0, c_ 15] (rfl) ?_
            refine .reg' [2] [] ⟨[(2, (B false))], [], [], []⟩ [c_ 7461, b_ 1, c_ 467, l_ 58, b_ 0, c_ 15] aln nocal ?_
            have h := Option.some.inj h
            subst h
            exact .fin0 [] (B false) [] aln (.z .s)
          · rw [if_neg c6] at h
            refine .reg' [0, 3, 39] [.no, .no, .no, .no, .v (B true), .no, .no, .no, .no, .no, .no, .no, .no, .no, .no, .v (B false)] ⟨[(0, (S a0)), (3, (I x1)), (39, (B (decide ((bt a0 x1) > 57))))], [], [(0 : Int) ≤ x1 ∧ x1 < (a0.size : Int), (B (decide ((bt a0 x1) < 97)) : V) = B true, (0 : Int) ≤ x1 ∧ x1 < (a0.size : Int), (B (decide ((bt a0 x1) < 48)) : V) = B false, (0 : Int) ≤ x1 ∧ x1 < (a0.size : Int)], []⟩ [c_ 1865, b_ 1, c_ 467, l_ 58, b_ 0, c_ 15] (alc ⟨c4, c3⟩ (alc (bT (dT c5)) (alc ⟨c4, c3⟩ (alc (bF (dF c6)) (alc ⟨c4, c3⟩ aln))))) nocal ?_
            by_cases c7 : (bt a0 x1) > 57
            · rw [if_pos c7] at h
              refine .cond' (.tmp 39) true [c_ 7460, c_ 7461, b_ 1, c_ 467, l_ 58, b_ 0, c_ 15] (bT (dT c7)) ?_
              refine .reg' [2] [] ⟨[(2, (B false))], [], [], []⟩ [c_ 7461, b_ 1, c_ 467, l_ 58, b_ 0, c_ 15] aln nocal ?_
              have h := Option.some.inj h
              subst h
              exact .fin0 [] (B false) [] aln (.z .s)
            · rw [if_neg c7] at h
              refine .cond' (.tmp 39) false [c_ 467, l_ 58, b_ 0, c_ 15] (bF (dF c7)) ?_
              refine .reg' [0, 3] [] ⟨[(0, (S a0)), (3, (I (wrap64 (x1 + 1))))], [], [], []⟩ [l_ 58, b_ 0, c_ 15] aln nocal ?_
              exact ih0 a0 (wrap64 (x1 + 1)) _ h
        · rw [if_neg c5] at h
          by_cases c8 : (bt a0 x1) > 122
          · rw [if_pos c8] at h
            by_cases c9 : (bt a0 x1) < 48
            · rw [if_pos c9] at h
              refine .reg' [0, 3, 39] [.no, .no, .no, .no, .v (B false), .no, .no, .no, .no, .no, .v (B true), .no, .no, .no, .no, .v (B true)] ⟨[(0, (S a0)), (3, (I x1)), (39, (B true))], [], [(0 : Int) ≤ x1 ∧ x1 < (a0.size : Int), (B (decide ((bt a0 x1) < 97)) : V) = B false, (0 : Int) ≤ x1 ∧ x1 < (a0.size : Int), (B (decide ((bt a0 x1) > 122)) : V) = B true, (0 : Int) ≤ x1 ∧ x1 < (a0.size : Int), (B (decide ((bt a0 x1) < 48)) : V) = B true], []⟩ [c_ 1865, b_ 1, c_ 467, l_ 58, b_ 0, c_ 15] (alc ⟨c4, c3⟩ (alc (bF (dF c5)) (alc ⟨c4, c3⟩ (alc (bT (dT c8)) (alc ⟨c4, c3⟩ (alc (bT (dT c9)) aln)))))) nocal ?_
              refine .cond' (.tmp 39) true [c_ 7460, c_ 7461, b_ 1, c_ 467, l_ 58, b_ 0, c_ 15] (rfl) ?_
              refine .reg' [2] [] ⟨[(2, (B false))], [], [], []⟩ [c_ 7461, b_ 1, c_ 467, l_ 58, b_ 0, c_ 15] aln nocal ?_
              have h := Option.some.inj h
              subst h
              exact .fin0 [] (B false) [] aln (.z .s)
            · rw [if_neg c9] at h
              refine .reg' [0, 3, 39] [.no, .no, .no, .no, .v (B false), .no, .no, .no, .no, .no, .v (B true), .no, .no, .no, .no, .v (B false)] ⟨[(0, (S a0)), (3, (I x1)), (39, (B (decide ((bt a0 x1) > 57))))], [], [(0 : Int) ≤ x1 ∧ x1 < (a0.size : Int), (B (decide ((bt a0 x1) < 97)) : V) = B false, (0 : Int) ≤ x1 ∧ x1 < (a0.size : Int), (B (decide ((bt a0 x1) > 122)) : V) = B true, (0 : Int) ≤ x1 ∧ x1 < (a0.size : Int), (B (decide ((bt a0 x1) < 48)) : V) = B false, (0 : Int) ≤ x1 ∧ x1 < (a0.size : Int)], []⟩ [c_ 1865, b_ 1, c_ 467, l_ 58, b_ 0, c_ 15] (alc ⟨c4, c3⟩ (alc (bF (dF c5)) (alc ⟨c4, c3⟩ (alc (bT (dT c8)) (alc ⟨c4, c3⟩ (alc (bF (dF c9)) (alc ⟨c4, c3⟩ aln))))))) nocal ?_
              by_cases c10 : (bt a0 x1) > 57
              · rw [if_pos c10] at h
                refine .cond' (.tmp 39) true [c_ 7460, c_ 7461, b_ 1, c_ 467, l_ 58, b_ 0, c_ 15] (bT (dT c10)) ?_
                refine .reg' [2] [] ⟨[(2, (B false))], [], [], []⟩ [c_ 7461, b_ 1, c_ 467, l_ 58, b_ 0, c_ 15] aln nocal ?_
                have h := Option.some.inj h
                subst h
                exact .fin0 [] (B false) [] aln (.z .s)
              · rw [if_neg c10] at h
                refine .cond' (.tmp 39) false [c_ 467, l_ 58, b_ 0, c_ 15] (bF (dF c10)) ?_
                refine .reg' [0, 3] [] ⟨[(0, (S a0)), (3, (I (wrap64 (x1 + 1))))], [], [], []⟩ [l_ 58, b_ 0, c_ 15] aln nocal ?_
                exact ih0 a0 (wrap64 (x1 + 1)) _ h
          · rw [if_neg c8] at h
            refine .reg' [0, 3, 39] [.no, .no, .no, .no, .v (B false), .no, .no, .no, .no, .no, .v (B false)] ⟨[(0, (S a0)), (3, (I x1)), (39, (B false))], [], [(0 : Int) ≤ x1 ∧ x1 < (a0.size : Int), (B (decide ((bt a0 x1) < 97)) : V) = B false, (0 : Int) ≤ x1 ∧ x1 < (a0.size : Int), (B (decide ((bt a0 x1) > 122)) : V) = B false], []⟩ [c_ 1865, b_ 1, c_ 467, l_ 58, b_ 0, c_ 15] (alc ⟨c4, c3⟩ (alc (bF (dF c5)) (alc ⟨c4, c3⟩ (alc (bF (dF c8)) aln)))) nocal ?_
            refine .cond' (.tmp 39) false [c_ 467, l_ 58, b_ 0, c_ 15] (rfl) ?_
            refine .reg' [0, 3] [] ⟨[(0, (S a0)), (3, (I (wrap64 (x1 + 1))))], [], [], []⟩ [l_ 58, b_ 0, c_ 15] aln nocal ?_
            exact ih0 a0 (wrap64 (x1 + 1)) _ h
      · rw [if_neg c4] at h
        cases h
    · rw [if_neg c3] at h
      refine .cond' (.tmp 15) false [c_ 30, c_ 31] (bF (dF c3)) ?_
      refine .reg' [2] [] ⟨[(2, (B true))], [], [], []⟩ [c_ 31] aln nocal ?_
      have h := Option.some.inj h
      subst h
      exact .fin0 [] (B true) [] aln (.z .s)
theorem impl_nameOk.J (k : Nat) (a0 : ByteArray) (r : Bool) (h : impl_nameOk.f k a0 = some r) : J prog (.call 92 [(S a0)] [] (B r) []) := by
  unfold impl_nameOk.f at h
  have ih0 := impl_nameOk.lab k
  refine .call' [c_ 2, c_ 3] ?_
  refine .reg' [0] [] ⟨[(0, (S a0))], [], [], []⟩ [c_ 12, c_ 13, c_ 7] aln nocal ?_
  by_cases c1 : (a0.size : Int) < 1
  · rw [if_pos c1] at h
    refine .reg' [0, 11] [.no, .no, .no, .v (B true)] ⟨[(0, (S a0)), (11, (B true))], [], [(B (decide ((a0.size : Int) < 1)) : V) = B true], []⟩ [c_ 13, c_ 7] (alc (bT (dT c1)) aln) nocal ?_
    refine .cond' (.tmp 11) true [c_ 52, c_ 53, c_ 7] (rfl) ?_
    refine .reg' [2] [] ⟨[(2, (B false))], [], [], []⟩ [c_ 53, c_ 7] aln nocal ?_
    have h := Option.some.inj h
    subst h
    exact .fin0 [] (B false) [] aln (.z .s)
  · rw [if_neg c1] at h
    refine .reg' [0, 11] [.no, .no, .no, .v (B false)] ⟨[(0, (S a0)), (11, (B (decide ((a0.size : Int) > 12))))], [], [(B (decide ((a0.size : Int) < 1)) : V) = B false], []⟩ [c_ 13, c_ 7] (alc (bF (dF c1)) aln) nocal ?_
    by_cases c2 : (a0.size : Int) > 12
    · rw [if_pos c2] at h
      refine .cond' (.tmp 11) true [c_ 52, c_ 53, c_ 7] (bT (dT c2)) ?_
      refine .reg' [2] [] ⟨[(2, (B false))], [], [], []⟩ [c_ 53, c_ 7] aln nocal ?_
      have h := Option.some.inj h
      subst h
      exact .fin0 [] (B false) [] aln (.z .s)
    · rw [if_neg c2] at h
      refine .cond' (.tmp 11) false [c_ 28, c_ 29, c_ 15] (bF (dF c2)) ?_
      refine .reg' [0, 3] [] ⟨[(0, (S a0)), (3, (I 0))], [], [], []⟩ [l_ 58, b_ 0, c_ 15] aln nocal ?_
      exact ih0 a0 0 _ h
/-! impl_isMinute: function 93 -/
def impl_isMinute.f (a0 : Int) : Option Bool := ((impl_between.f a0 0 100000).bind fun x1 => (some x1))
theorem impl_isMinute.J (a0 : Int) (r : Bool) (h : impl_isMinute.f a0 = some r) : J prog (.call 93 [(I a0)] [] (B r) []) := by
  unfold impl_isMinute.f at h
  refine .call' [c_ 2, c_ 3] ?_
  refine .reg' [0] [] ⟨[(0, (I a0))], [], [], []⟩ [c_ 6, c_ 7] aln nocal ?_
  obtain ⟨x1, hx1, h⟩ := Option.bind_eq_some_iff.mp h
  refine .reg' [2] [.no, .c ⟨58, [(I a0), (I 0), (I 100000)], [], (B x1), [], [], [], [], (B x1), []⟩] ⟨[(2, (B x1))], [], [COK (hget []) [(I a0), (I 0), (I 100000)] ⟨58, [(I a0), (I 0), (I 100000)], [], (B x1), [], [], [], [], (B x1), []⟩], [⟨58, [(I a0), (I 0), (I 100000)], [], (B x1), [], [], [], [], (B x1), []⟩]⟩ [c_ 7] (alc (cok0 false (a2c (.z .s) (a2c (.z .s) (a2c (.z .s) a2n))) (.z .s) (fun h => absurd h (by decide))) aln) (acal (impl_between.J a0 0 100000 _ hx1) nocal) ?_
  have h := Option.some.inj h
  subst h
  exact .fin0 [] (B x1) [] aln (.z .s)
/-! impl_TripOk: function 76 -/
def impl_TripOk.l0 : Nat → S66 → Int → Option Bool
 | 0, _, _ => none
 | k + 1, a0, x3 => (if x3 < (a0.f1.length : Int) then (if 0 ≤ x3 then ((impl_between.f ((at_ a0.f1 x3).f0) 0 29).bind fun x4 => (if x4 = true then ((impl_isMinute.f ((at_ a0.f1 x3).f1)).bind fun x5 => (if x5 = true then ((impl_isMinute.f ((at_ a0.f1 x3).f2)).bind fun x6 => (if x6 = true then (if (at_ a0.f1 x3).f1 > (at_ a0.f1 x3).f2 then (some false) else (if x3 > 0 then (if 0 ≤ (wrap64 (x3 - 1)) then (if (wrap64 (x3 - 1)) < (a0.f1.length : Int) then (if (at_ a0.f1 x3).f1 ≤ (at_ a0.f1 (wrap64 (x3 - 1))).f2 then (some false) else (if (at_ a0.f1 x3).f0 = (at_ a0.f1 (wrap64 (x3 - 1))).f0 then (some false) else (impl_TripOk.l0 k a0 (wrap64 (x3 + 1))))) else none) else none) else (impl_TripOk.l0 k a0 (wrap64 (x3 + 1))))) else (some false))) else (some false))) else (some false))) else none) else (some true))
def impl_TripOk.f (k : Nat) (a0 : S66) : Option Bool := ((impl_nameOk.f k a0.f0).bind fun x1 => (if x1 = true then ((impl_between.f (a0.f1.length : Int) 2 12).bind fun x2 => (if x2 = true then (impl_TripOk.l0 k a0 0) else (some false))) else (some false)))
end Go.Proofs.Ytebgaiokpncacaa.Fns
