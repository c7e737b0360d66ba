/- The functions that the law FnExactBoard reaches, by the engine. Printed by a program of this seat. -/
import Derived.Test.YtoeedickghjdbaaE5
import Derived.Test.YtoeedickghjdbaaProg
import Derived.Test.YtoeedickghjdbaaFFnExactBoardx3
namespace Go.Proofs.Ytoeedickghjdbaa.Fns
open Go.Proofs.Try Go.Proofs.Ytoeedickghjdbaa.Eng Go.RowKit
set_option maxRecDepth 100000
set_option linter.unusedVariables false
set_option linter.unusedSimpArgs false
theorem slices_stableCmpFunc_1.lab : ∀ k, (∀ (a1 : Int) (x1 : (List S58)) (x2 : (List S28)) (x3 : Int) (x4 : Int) (r : ((List S58) × (List S28))), slices_stableCmpFunc_1.l0 k a1 x1 x2 x3 x4 = some r → J prog (.run 65 [0, 40] [l_ 28, b_ 0, c_ 15] [(0, (.rf 0 0 x1.length 2 (x1.length * 2))), (1, (I a1)), (2, (.fn (.func 53) [] [(.pt 40 0 1)])), (6, (I 20)), (7, (I x3)), (8, (I x4))] [(0, (x1.flatMap e58)), (40, [(.sl true x2.length 2 (x2.flatMap (e28 true)))])] (.tp []) [(0, (r.1.flatMap e58)), (40, [(.sl true r.2.length 2 (r.2.flatMap (e28 true)))])])) ∧ (∀ (a1 : Int) (x7 : (List S58)) (x8 : (List S28)) (x9 : Int) (r : ((List S58) × (List S28))), slices_stableCmpFunc_1.l1 k a1 x7 x8 x9 = some r → J prog (.run 65 [0, 40] [l_ 62, b_ 2] [(0, (.rf 0 0 x7.length 2 (x7.length * 2))), (1, (I a1)), (2, (.fn (.func 53) [] [(.pt 40 0 1)])), (6, (I x9))] [(0, (x7.flatMap e58)), (40, [(.sl true x8.length 2 (x8.flatMap (e28 true)))])] (.tp []) [(0, (r.1.flatMap e58)), (40, [(.sl true r.2.length 2 (r.2.flatMap (e28 true)))])])) ∧ (∀ (a1 : Int) (x9 : Int) (x10 : (List S58)) (x11 : (List S28)) (x12 : Int) (x13 : Int) (r : ((List S58) × (List S28))), slices_stableCmpFunc_1.l2 k a1 x9 x10 x11 x12 x13 = some r → J prog (.run 65 [0, 40] [l_ 3988, b_ 4, c_ 1995, b_ 3, l_ 62, b_ 2] [(0, (.rf 0 0 x10.length 2 (x10.length * 2))), (1, (I a1)), (2, (.fn (.func 53) [] [(.pt 40 0 1)])), (6, (I x9)), (7, (I x12)), (8, (I x13))] [(0, (x10.flatMap e58)), (40, [(.sl true x11.length 2 (x11.flatMap (e28 true)))])] (.tp []) [(0, (r.1.flatMap e58)), (40, [(.sl true r.2.length 2 (r.2.flatMap (e28 true)))])]))
 | 0 => ⟨(by intro a1 x1 x2 x3 x4 r h; unfold slices_stableCmpFunc_1.l0 at h; cases h), (by intro a1 x7 x8 x9 r h; unfold slices_stableCmpFunc_1.l1 at h; cases h), (by intro a1 x9 x10 x11 x12 x13 r h; unfold slices_stableCmpFunc_1.l2 at h; cases h)⟩
 | k + 1 => by
  obtain ⟨ih0, ih1, ih2⟩ := slices_stableCmpFunc_1.lab k
  refine ⟨?_, ?_, ?_⟩
  · intro a1 x1 x2 x3 x4 r h
    unfold slices_stableCmpFunc_1.l0 at h
    refine .loop' [c_ 224, c_ 225, c_ 113, l_ 28, b_ 0, c_ 15] ?_
    refine .reg' [0, 1, 2, 6, 7, 8, 13] [] ⟨[(0, (.rf 0 0 x1.length 2 (x1.length * 2))), (1, (I a1)), (2, (.fn (.func 53) [] [(.pt 40 0 1)])), (6, (I 20)), (7, (I x3)), (8, (I x4)), (13, (B (decide (x4 ≤ a1))))], [(0, (x1.flatMap e58)), (40, [(.sl true x2.length 2 (x2.flatMap (e28 true)))])], [], []⟩ [c_ 225, c_ 113, l_ 28, b_ 0, c_ 15] aln nocal ?_
    by_cases c1 : x4 ≤ a1
    · rw [if_pos c1] at h
      refine .cond' (.tmp 13) true [c_ 452, c_ 453, b_ 1, l_ 28, b_ 0, c_ 15] (bT (dT c1)) ?_
      obtain ⟨x5, hx5, h⟩ := Option.bind_eq_some_iff.mp h
      refine .reg' [0, 1, 2, 6, 8] [.no, .no, .no, .no, .c ⟨72, [(.rf 0 0 x1.length 2 (x1.length * 2)), (I x3), (I x4), (.fn (.func 53) [] [(.pt 56 0 1)])], [(0, (x1.flatMap e58)), (56, [(.sl true x2.length 2 (x2.flatMap (e28 true)))])], (.tp []), [(0, (x5.1.flatMap e58)), (56, [(.sl true x5.2.length 2 (x5.2.flatMap (e28 true)))])], [], [(0, 0), (40, 56)], [(0, 0), (40, 56)], (.tp []), [(0, (x5.1.flatMap e58)), (40, [(.sl true x5.2.length 2 (x5.2.flatMap (e28 true)))])]⟩] ⟨[(0, (.rf 0 0 x1.length 2 (x1.length * 2))), (1, (I a1)), (2, (.fn (.func 53) [] [(.pt 40 0 1)])), (6, (I 20)), (8, (I x4))], [(0, (x5.1.flatMap e58)), (40, [(.sl true x5.2.length 2 (x5.2.flatMap (e28 true)))])], [COK (hget [(0, (x1.flatMap e58)), (40, [(.sl true x2.length 2 (x2.flatMap (e28 true)))])]) [(.rf 0 0 x1.length 2 (x1.length * 2)), (I x3), (I x4), (.fn (.func 53) [] [(.pt 40 0 1)])] ⟨72, [(.rf 0 0 x1.length 2 (x1.length * 2)), (I x3), (I x4), (.fn (.func 53) [] [(.pt 56 0 1)])], [(0, (x1.flatMap e58)), (56, [(.sl true x2.length 2 (x2.flatMap (e28 true)))])], (.tp []), [(0, (x5.1.flatMap e58)), (56, [(.sl true x5.2.length 2 (x5.2.flatMap (e28 true)))])], [], [(0, 0), (40, 56)], [(0, 0), (40, 56)], (.tp []), [(0, (x5.1.flatMap e58)), (40, [(.sl true x5.2.length 2 (x5.2.flatMap (e28 true)))])]⟩], [⟨72, [(.rf 0 0 x1.length 2 (x1.length * 2)), (I x3), (I x4), (.fn (.func 53) [] [(.pt 56 0 1)])], [(0, (x1.flatMap e58)), (56, [(.sl true x2.length 2 (x2.flatMap (e28 true)))])], (.tp []), [(0, (x5.1.flatMap e58)), (56, [(.sl true x5.2.length 2 (x5.2.flatMap (e28 true)))])], [], [(0, 0), (40, 56)], [(0, 0), (40, 56)], (.tp []), [(0, (x5.1.flatMap e58)), (40, [(.sl true x5.2.length 2 (x5.2.flatMap (e28 true)))])]⟩]⟩ [c_ 906, c_ 907, b_ 1, l_ 28, b_ 0, c_ 15] (alc (cokW true (a2c (.rf (memP_mem (p := (0, 0)) rfl)) (a2c (.z .s) (a2c (.z .s) (a2c (cnv_fn a2n (a2c (.pt (memP_mem (p := (40, 56)) rfl)) a2n)) a2n)))) (akc ⟨_, _, rfl, rfl, (rowF e58_ok _)⟩ (akc ⟨_, _, rfl, rfl, (a2c (.z (frz_sl (e28_ok true) (fun h => h))) a2n)⟩ akn)) (akc (.inl rfl) (akc (.inl rfl) akn)) (bck_tp a2n) (akc ⟨_, _, rfl, rfl, rowB e58_c _⟩ (akc ⟨_, _, rfl, rfl, (a2c (.z (clnS e28_c1 (fun h => rfl))) a2n)⟩ akn)) (fun h => rfl)) aln) (acal (slices_insertionSortCmpFunc_1.J k x1 x3 x4 x2 _ hx5) nocal) ?_
      refine .eqs (env2 := [(0, (.rf 0 0 x5.1.length 2 (x5.1.length * 2))), (1, (I a1)), (2, (.fn (.func 53) [] [(.pt 40 0 1)])), (6, (I 20)), (8, (I x4))]) (H2 := [(0, (x5.1.flatMap e58)), (40, [(.sl true x5.2.length 2 (x5.2.flatMap (e28 true)))])]) (by first | (simp only [List.length_set, (slices_insertionSortCmpFunc_1.len k x1 x3 x4 x2 _ hx5)]; done) | simp) (by first | rfl | (simp only [List.length_set, (slices_insertionSortCmpFunc_1.len k x1 x3 x4 x2 _ hx5)]; done) | simp) ?_
      refine .reg' [0, 1, 2, 6, 7, 8] [] ⟨[(0, (.rf 0 0 x5.1.length 2 (x5.1.length * 2))), (1, (I a1)), (2, (.fn (.func 53) [] [(.pt 40 0 1)])), (6, (I 20)), (7, (I x4)), (8, (I x4))], [(0, (x5.1.flatMap e58)), (40, [(.sl true x5.2.length 2 (x5.2.flatMap (e28 true)))])], [], []⟩ [c_ 907, b_ 1, l_ 28, b_ 0, c_ 15] aln nocal ?_
      refine .reg' [0, 1, 2, 6, 7, 8] [] ⟨[(0, (.rf 0 0 x5.1.length 2 (x5.1.length * 2))), (1, (I a1)), (2, (.fn (.func 53) [] [(.pt 40 0 1)])), (6, (I 20)), (7, (I x4)), (8, (I (wrap64 (x4 + 20))))], [(0, (x5.1.flatMap e58)), (40, [(.sl true x5.2.length 2 (x5.2.flatMap (e28 true)))])], [], []⟩ [l_ 28, b_ 0, c_ 15] aln nocal ?_
      exact ih0 a1 x5.1 x5.2 x4 (wrap64 (x4 + 20)) _ h
    · rw [if_neg c1] at h
      refine .cond' (.tmp 13) false [c_ 30, c_ 31] (bF (dF c1)) ?_
      obtain ⟨x6, hx6, h⟩ := Option.bind_eq_some_iff.mp h
      refine .reg' [0, 1, 2, 6] [.no, .no, .no, .no, .c ⟨72, [(.rf 0 0 x1.length 2 (x1.length * 2)), (I x3), (I a1), (.fn (.func 53) [] [(.pt 56 0 1)])], [(0, (x1.flatMap e58)), (56, [(.sl true x2.length 2 (x2.flatMap (e28 true)))])], (.tp []), [(0, (x6.1.flatMap e58)), (56, [(.sl true x6.2.length 2 (x6.2.flatMap (e28 true)))])], [], [(0, 0), (40, 56)], [(0, 0), (40, 56)], (.tp []), [(0, (x6.1.flatMap e58)), (40, [(.sl true x6.2.length 2 (x6.2.flatMap (e28 true)))])]⟩] ⟨[(0, (.rf 0 0 x1.length 2 (x1.length * 2))), (1, (I a1)), (2, (.fn (.func 53) [] [(.pt 40 0 1)])), (6, (I 20))], [(0, (x6.1.flatMap e58)), (40, [(.sl true x6.2.length 2 (x6.2.flatMap (e28 true)))])], [COK (hget [(0, (x1.flatMap e58)), (40, [(.sl true x2.length 2 (x2.flatMap (e28 true)))])]) [(.rf 0 0 x1.length 2 (x1.length * 2)), (I x3), (I a1), (.fn (.func 53) [] [(.pt 40 0 1)])] ⟨72, [(.rf 0 0 x1.length 2 (x1.length * 2)), (I x3), (I a1), (.fn (.func 53) [] [(.pt 56 0 1)])], [(0, (x1.flatMap e58)), (56, [(.sl true x2.length 2 (x2.flatMap (e28 true)))])], (.tp []), [(0, (x6.1.flatMap e58)), (56, [(.sl true x6.2.length 2 (x6.2.flatMap (e28 true)))])], [], [(0, 0), (40, 56)], [(0, 0), (40, 56)], (.tp []), [(0, (x6.1.flatMap e58)), (40, [(.sl true x6.2.length 2 (x6.2.flatMap (e28 true)))])]⟩], [⟨72, [(.rf 0 0 x1.length 2 (x1.length * 2)), (I x3), (I a1), (.fn (.func 53) [] [(.pt 56 0 1)])], [(0, (x1.flatMap e58)), (56, [(.sl true x2.length 2 (x2.flatMap (e28 true)))])], (.tp []), [(0, (x6.1.flatMap e58)), (56, [(.sl true x6.2.length 2 (x6.2.flatMap (e28 true)))])], [], [(0, 0), (40, 56)], [(0, 0), (40, 56)], (.tp []), [(0, (x6.1.flatMap e58)), (40, [(.sl true x6.2.length 2 (x6.2.flatMap (e28 true)))])]⟩]⟩ [l_ 62, b_ 2] (alc (cokW true (a2c (.rf (memP_mem (p := (0, 0)) rfl)) (a2c (.z .s) (a2c (.z .s) (a2c (cnv_fn a2n (a2c (.pt (memP_mem (p := (40, 56)) rfl)) a2n)) a2n)))) (akc ⟨_, _, rfl, rfl, (rowF e58_ok _)⟩ (akc ⟨_, _, rfl, rfl, (a2c (.z (frz_sl (e28_ok true) (fun h => h))) a2n)⟩ akn)) (akc (.inl rfl) (akc (.inl rfl) akn)) (bck_tp a2n) (akc ⟨_, _, rfl, rfl, rowB e58_c _⟩ (akc ⟨_, _, rfl, rfl, (a2c (.z (clnS e28_c1 (fun h => rfl))) a2n)⟩ akn)) (fun h => rfl)) aln) (acal (slices_insertionSortCmpFunc_1.J k x1 x3 a1 x2 _ hx6) nocal) ?_
      refine .eqs (env2 := [(0, (.rf 0 0 x6.1.length 2 (x6.1.length * 2))), (1, (I a1)), (2, (.fn (.func 53) [] [(.pt 40 0 1)])), (6, (I 20))]) (H2 := [(0, (x6.1.flatMap e58)), (40, [(.sl true x6.2.length 2 (x6.2.flatMap (e28 true)))])]) (by first | (simp only [List.length_set, (slices_insertionSortCmpFunc_1.len k x1 x3 a1 x2 _ hx6)]; done) | simp) (by first | rfl | (simp only [List.length_set, (slices_insertionSortCmpFunc_1.len k x1 x3 a1 x2 _ hx6)]; done) | simp) ?_
      exact ih1 a1 x6.1 x6.2 20 _ h
  · intro a1 x7 x8 x9 r h
    unfold slices_stableCmpFunc_1.l1 at h
    refine .loop' [c_ 496, c_ 497, c_ 249, l_ 62, b_ 2] ?_
    refine .reg' [0, 1, 2, 6, 30] [] ⟨[(0, (.rf 0 0 x7.length 2 (x7.length * 2))), (1, (I a1)), (2, (.fn (.func 53) [] [(.pt 40 0 1)])), (6, (I x9)), (30, (B (decide (x9 < a1))))], [(0, (x7.flatMap e58)), (40, [(.sl true x8.length 2 (x8.flatMap (e28 true)))])], [], []⟩ [c_ 497, c_ 249, l_ 62, b_ 2] aln nocal ?_
    by_cases c2 : x9 < a1
    · rw [if_pos c2] at h
      refine .cond' (.tmp 30) true [c_ 996, c_ 997, b_ 3, l_ 62, b_ 2] (bT (dT c2)) ?_
      refine .reg' [0, 1, 2, 6, 7, 8] [] ⟨[(0, (.rf 0 0 x7.length 2 (x7.length * 2))), (1, (I a1)), (2, (.fn (.func 53) [] [(.pt 40 0 1)])), (6, (I x9)), (7, (I 0)), (8, (I (wrap64 (2 * x9))))], [(0, (x7.flatMap e58)), (40, [(.sl true x8.length 2 (x8.flatMap (e28 true)))])], [], []⟩ [l_ 3988, b_ 4, c_ 1995, b_ 3, l_ 62, b_ 2] aln nocal ?_
      exact ih2 a1 x9 x7 x8 0 (wrap64 (2 * x9)) _ h
    · rw [if_neg c2] at h
      refine .cond' (.tmp 30) false [] (bF (dF c2)) ?_
      have h := Option.some.inj h
      subst h
      exact .fin' [] [(0, 0), (40, 40)] (.tp []) [] aln (shc 0 (rowF e58_ok _) (shc 40 (a2c (.z (frz_sl (e28_ok true) (fun h => h))) a2n) shn)) (cnv_tp a2n)
  · intro a1 x9 x10 x11 x12 x13 r h
    unfold slices_stableCmpFunc_1.l2 at h
    refine .loop' [c_ 31904, c_ 31905, c_ 15953, l_ 3988, b_ 4, c_ 1995, b_ 3, l_ 62, b_ 2] ?_
    refine .reg' [0, 1, 2, 6, 7, 8, 35] [] ⟨[(0, (.rf 0 0 x10.length 2 (x10.length * 2))), (1, (I a1)), (2, (.fn (.func 53) [] [(.pt 40 0 1)])), (6, (I x9)), (7, (I x12)), (8, (I x13)), (35, (B (decide (x13 ≤ a1))))], [(0, (x10.flatMap e58)), (40, [(.sl true x11.length 2 (x11.flatMap (e28 true)))])], [], []⟩ [c_ 31905, c_ 15953, l_ 3988, b_ 4, c_ 1995, b_ 3, l_ 62, b_ 2] aln nocal ?_
    by_cases c3 : x13 ≤ a1
    · rw [if_pos c3] at h
      refine .cond' (.tmp 35) true [c_ 63812, c_ 63813, b_ 5, l_ 3988, b_ 4, c_ 1995, b_ 3, l_ 62, b_ 2] (bT (dT c3)) ?_
      obtain ⟨x14, hx14, h⟩ := Option.bind_eq_some_iff.mp h
      refine .reg' [0, 1, 2, 6, 8] [.no, .no, .no, .no, .no, .no, .no, .c ⟨73, [(.rf 0 0 x10.length 2 (x10.length * 2)), (I x12), (I (wrap64 (x12 + x9))), (I x13), (.fn (.func 53) [] [(.pt 72 0 1)])], [(0, (x10.flatMap e58)), (72, [(.sl true x11.length 2 (x11.flatMap (e28 true)))])], (.tp []), [(0, (x14.1.flatMap e58)), (72, [(.sl true x14.2.length 2 (x14.2.flatMap (e28 true)))])], [], [(0, 0), (40, 72)], [(0, 0), (40, 72)], (.tp []), [(0, (x14.1.flatMap e58)), (40, [(.sl true x14.2.length 2 (x14.2.flatMap (e28 true)))])]⟩] ⟨[(0, (.rf 0 0 x10.length 2 (x10.length * 2))), (1, (I a1)), (2, (.fn (.func 53) [] [(.pt 40 0 1)])), (6, (I x9)), (8, (I x13))], [(0, (x14.1.flatMap e58)), (40, [(.sl true x14.2.length 2 (x14.2.flatMap (e28 true)))])], [COK (hget [(0, (x10.flatMap e58)), (40, [(.sl true x11.length 2 (x11.flatMap (e28 true)))])]) [(.rf 0 0 x10.length 2 (x10.length * 2)), (I x12), (I (wrap64 (x12 + x9))), (I x13), (.fn (.func 53) [] [(.pt 40 0 1)])] ⟨73, [(.rf 0 0 x10.length 2 (x10.length * 2)), (I x12), (I (wrap64 (x12 + x9))), (I x13), (.fn (.func 53) [] [(.pt 72 0 1)])], [(0, (x10.flatMap e58)), (72, [(.sl true x11.length 2 (x11.flatMap (e28 true)))])], (.tp []), [(0, (x14.1.flatMap e58)), (72, [(.sl true x14.2.length 2 (x14.2.flatMap (e28 true)))])], [], [(0, 0), (40, 72)], [(0, 0), (40, 72)], (.tp []), [(0, (x14.1.flatMap e58)), (40, [(.sl true x14.2.length 2 (x14.2.flatMap (e28 true)))])]⟩], [⟨73, [(.rf 0 0 x10.length 2 (x10.length * 2)), (I x12), (I (wrap64 (x12 + x9))), (I x13), (.fn (.func 53) [] [(.pt 72 0 1)])], [(0, (x10.flatMap e58)), (72, [(.sl true x11.length 2 (x11.flatMap (e28 true)))])], (.tp []), [(0, (x14.1.flatMap e58)), (72, [(.sl true x14.2.length 2 (x14.2.flatMap (e28 true)))])], [], [(0, 0), (40, 72)], [(0, 0), (40, 72)], (.tp []), [(0, (x14.1.flatMap e58)), (40, [(.sl true x14.2.length 2 (x14.2.flatMap (e28 true)))])]⟩]⟩ [c_ 127626, c_ 127627, b_ 5, l_ 3988, b_ 4, c_ 1995, b_ 3, l_ 62, b_ 2] (alc (cokW true (a2c (.rf (memP_mem (p := (0, 0)) rfl)) (a2c (.z .s) (a2c (.z .s) (a2c (.z .s) (a2c (cnv_fn a2n (a2c (.pt (memP_mem (p := (40, 72)) rfl)) a2n)) a2n))))) (akc ⟨_, _, rfl, rfl, (rowF e58_ok _)⟩ (akc ⟨_, _, rfl, rfl, (a2c (.z (frz_sl (e28_ok true) (fun h => h))) a2n)⟩ akn)) (akc (.inl rfl) (akc (.inl rfl) akn)) (bck_tp a2n) (akc ⟨_, _, rfl, rfl, rowB e58_c _⟩ (akc ⟨_, _, rfl, rfl, (a2c (.z (clnS e28_c1 (fun h => rfl))) a2n)⟩ akn)) (fun h => rfl)) aln) (acal (slices_symMergeCmpFunc_1.J k x10 x12 (wrap64 (x12 + x9)) x13 x11 _ hx14) nocal) ?_
      refine .eqs (env2 := [(0, (.rf 0 0 x14.1.length 2 (x14.1.length * 2))), (1, (I a1)), (2, (.fn (.func 53) [] [(.pt 40 0 1)])), (6, (I x9)), (8, (I x13))]) (H2 := [(0, (x14.1.flatMap e58)), (40, [(.sl true x14.2.length 2 (x14.2.flatMap (e28 true)))])]) (by first | (simp only [List.length_set, (slices_symMergeCmpFunc_1.len k x10 x12 (wrap64 (x12 + x9)) x13 x11 _ hx14)]; done) | simp) (by first | rfl | (simp only [List.length_set, (slices_symMergeCmpFunc_1.len k x10 x12 (wrap64 (x12 + x9)) x13 x11 _ hx14)]; done) | simp) ?_
      refine .reg' [0, 1, 2, 6, 7, 8] [] ⟨[(0, (.rf 0 0 x14.1.length 2 (x14.1.length * 2))), (1, (I a1)), (2, (.fn (.func 53) [] [(.pt 40 0 1)])), (6, (I x9)), (7, (I x13)), (8, (I x13))], [(0, (x14.1.flatMap e58)), (40, [(.sl true x14.2.length 2 (x14.2.flatMap (e28 true)))])], [], []⟩ [c_ 127627, b_ 5, l_ 3988, b_ 4, c_ 1995, b_ 3, l_ 62, b_ 2] aln nocal ?_
      refine .reg' [0, 1, 2, 6, 7, 8] [] ⟨[(0, (.rf 0 0 x14.1.length 2 (x14.1.length * 2))), (1, (I a1)), (2, (.fn (.func 53) [] [(.pt 40 0 1)])), (6, (I x9)), (7, (I x13)), (8, (I (wrap64 (x13 + (wrap64 (2 * x9))))))], [(0, (x14.1.flatMap e58)), (40, [(.sl true x14.2.length 2 (x14.2.flatMap (e28 true)))])], [], []⟩ [l_ 3988, b_ 4, c_ 1995, b_ 3, l_ 62, b_ 2] aln nocal ?_
      exact ih2 a1 x9 x14.1 x14.2 x13 (wrap64 (x13 + (wrap64 (2 * x9)))) _ h
    · rw [if_neg c3] at h
      refine .cond' (.tmp 35) false [c_ 7980, c_ 7981, c_ 3991, b_ 3, l_ 62, b_ 2] (bF (dF c3)) ?_
      refine .reg' [0, 1, 2, 6, 7, 9] [] ⟨[(0, (.rf 0 0 x10.length 2 (x10.length * 2))), (1, (I a1)), (2, (.fn (.func 53) [] [(.pt 40 0 1)])), (6, (I x9)), (7, (I x12)), (9, (I (wrap64 (x12 + x9))))], [(0, (x10.flatMap e58)), (40, [(.sl true x11.length 2 (x11.flatMap (e28 true)))])], [], []⟩ [c_ 15962, c_ 15963, c_ 3991, b_ 3, l_ 62, b_ 2] aln nocal ?_
      refine .reg' [0, 1, 2, 6, 7, 9, 54] [] ⟨[(0, (.rf 0 0 x10.length 2 (x10.length * 2))), (1, (I a1)), (2, (.fn (.func 53) [] [(.pt 40 0 1)])), (6, (I x9)), (7, (I x12)), (9, (I (wrap64 (x12 + x9)))), (54, (B (decide ((wrap64 (x12 + x9)) < a1))))], [(0, (x10.flatMap e58)), (40, [(.sl true x11.length 2 (x11.flatMap (e28 true)))])], [], []⟩ [c_ 15963, c_ 3991, b_ 3, l_ 62, b_ 2] aln nocal ?_
      by_cases c4 : (wrap64 (x12 + x9)) < a1
      · rw [if_pos c4] at h
        refine .cond' (.tmp 54) true [c_ 31926, c_ 3991, b_ 3, l_ 62, b_ 2] (bT (dT c4)) ?_
        obtain ⟨x15, hx15, h⟩ := Option.bind_eq_some_iff.mp h
        refine .reg' [0, 1, 2, 6] [.no, .no, .no, .no, .no, .c ⟨73, [(.rf 0 0 x10.length 2 (x10.length * 2)), (I x12), (I (wrap64 (x12 + x9))), (I a1), (.fn (.func 53) [] [(.pt 72 0 1)])], [(0, (x10.flatMap e58)), (72, [(.sl true x11.length 2 (x11.flatMap (e28 true)))])], (.tp []), [(0, (x15.1.flatMap e58)), (72, [(.sl true x15.2.length 2 (x15.2.flatMap (e28 true)))])], [], [(0, 0), (40, 72)], [(0, 0), (40, 72)], (.tp []), [(0, (x15.1.flatMap e58)), (40, [(.sl true x15.2.length 2 (x15.2.flatMap (e28 true)))])]⟩] ⟨[(0, (.rf 0 0 x10.length 2 (x10.length * 2))), (1, (I a1)), (2, (.fn (.func 53) [] [(.pt 40 0 1)])), (6, (I x9))], [(0, (x15.1.flatMap e58)), (40, [(.sl true x15.2.length 2 (x15.2.flatMap (e28 true)))])], [COK (hget [(0, (x10.flatMap e58)), (40, [(.sl true x11.length 2 (x11.flatMap (e28 true)))])]) [(.rf 0 0 x10.length 2 (x10.length * 2)), (I x12), (I (wrap64 (x12 + x9))), (I a1), (.fn (.func 53) [] [(.pt 40 0 1)])] ⟨73, [(.rf 0 0 x10.length 2 (x10.length * 2)), (I x12), (I (wrap64 (x12 + x9))), (I a1), (.fn (.func 53) [] [(.pt 72 0 1)])], [(0, (x10.flatMap e58)), (72, [(.sl true x11.length 2 (x11.flatMap (e28 true)))])], (.tp []), [(0, (x15.1.flatMap e58)), (72, [(.sl true x15.2.length 2 (x15.2.flatMap (e28 true)))])], [], [(0, 0), (40, 72)], [(0, 0), (40, 72)], (.tp []), [(0, (x15.1.flatMap e58)), (40, [(.sl true x15.2.length 2 (x15.2.flatMap (e28 true)))])]⟩], [⟨73, [(.rf 0 0 x10.length 2 (x10.length * 2)), (I x12), (I (wrap64 (x12 + x9))), (I a1), (.fn (.func 53) [] [(.pt 72 0 1)])], [(0, (x10.flatMap e58)), (72, [(.sl true x11.length 2 (x11.flatMap (e28 true)))])], (.tp []), [(0, (x15.1.flatMap e58)), (72, [(.sl true x15.2.length 2 (x15.2.flatMap (e28 true)))])], [], [(0, 0), (40, 72)], [(0, 0), (40, 72)], (.tp []), [(0, (x15.1.flatMap e58)), (40, [(.sl true x15.2.length 2 (x15.2.flatMap (e28 true)))])]⟩]⟩ [c_ 3991, b_ 3, l_ 62, b_ 2] (alc (cokW true (a2c (.rf (memP_mem (p := (0, 0)) rfl)) (a2c (.z .s) (a2c (.z .s) (a2c (.z .s) (a2c (cnv_fn a2n (a2c (.pt (memP_mem (p := (40, 72)) rfl)) a2n)) a2n))))) (akc ⟨_, _, rfl, rfl, (rowF e58_ok _)⟩ (akc ⟨_, _, rfl, rfl, (a2c (.z (frz_sl (e28_ok true) (fun h => h))) a2n)⟩ akn)) (akc (.inl rfl) (akc (.inl rfl) akn)) (bck_tp a2n) (akc ⟨_, _, rfl, rfl, rowB e58_c _⟩ (akc ⟨_, _, rfl, rfl, (a2c (.z (clnS e28_c1 (fun h => rfl))) a2n)⟩ akn)) (fun h => rfl)) aln) (acal (slices_symMergeCmpFunc_1.J k x10 x12 (wrap64 (x12 + x9)) a1 x11 _ hx15) nocal) ?_
        refine .eqs (env2 := [(0, (.rf 0 0 x15.1.length 2 (x15.1.length * 2))), (1, (I a1)), (2, (.fn (.func 53) [] [(.pt 40 0 1)])), (6, (I x9))]) (H2 := [(0, (x15.1.flatMap e58)), (40, [(.sl true x15.2.length 2 (x15.2.flatMap (e28 true)))])]) (by first | (simp only [List.length_set, (slices_symMergeCmpFunc_1.len k x10 x12 (wrap64 (x12 + x9)) a1 x11 _ hx15)]; done) | simp) (by first | rfl | (simp only [List.length_set, (slices_symMergeCmpFunc_1.len k x10 x12 (wrap64 (x12 + x9)) a1 x11 _ hx15)]; done) | simp) ?_
        refine .reg' [0, 1, 2, 6] [] ⟨[(0, (.rf 0 0 x15.1.length 2 (x15.1.length * 2))), (1, (I a1)), (2, (.fn (.func 53) [] [(.pt 40 0 1)])), (6, (I (wrap64 (x9 * 2))))], [(0, (x15.1.flatMap e58)), (40, [(.sl true x15.2.length 2 (x15.2.flatMap (e28 true)))])], [], []⟩ [l_ 62, b_ 2] aln nocal ?_
        exact ih1 a1 x15.1 x15.2 (wrap64 (x9 * 2)) _ h
      · rw [if_neg c4] at h
        refine .cond' (.tmp 54) false [c_ 3991, b_ 3, l_ 62, b_ 2] (bF (dF c4)) ?_
        refine .reg' [0, 1, 2, 6] [] ⟨[(0, (.rf 0 0 x10.length 2 (x10.length * 2))), (1, (I a1)), (2, (.fn (.func 53) [] [(.pt 40 0 1)])), (6, (I (wrap64 (x9 * 2))))], [(0, (x10.flatMap e58)), (40, [(.sl true x11.length 2 (x11.flatMap (e28 true)))])], [], []⟩ [l_ 62, b_ 2] aln nocal ?_
        exact ih1 a1 x10 x11 (wrap64 (x9 * 2)) _ h
theorem slices_stableCmpFunc_1.J (k : Nat) (a0 : (List S58)) (a1 : Int) (a2c0 : (List S28)) (r : ((List S58) × (List S28))) (h : slices_stableCmpFunc_1.f k a0 a1 a2c0 = some r) : J prog (.call 65 [(.rf 0 0 a0.length 2 (a0.length * 2)), (I a1), (.fn (.func 53) [] [(.pt 40 0 1)])] [(0, (a0.flatMap e58)), (40, [(.sl true a2c0.length 2 (a2c0.flatMap (e28 true)))])] (.tp []) [(0, (r.1.flatMap e58)), (40, [(.sl true r.2.length 2 (r.2.flatMap (e28 true)))])]) := by
  unfold slices_stableCmpFunc_1.f at h
  obtain ⟨ih0, ih1, ih2⟩ := slices_stableCmpFunc_1.lab k
  refine .call' [c_ 2, c_ 3] ?_
  refine .reg' [0, 1, 2, 6] [] ⟨[(0, (.rf 0 0 a0.length 2 (a0.length * 2))), (1, (I a1)), (2, (.fn (.func 53) [] [(.pt 40 0 1)])), (6, (I 20))], [(0, (a0.flatMap e58)), (40, [(.sl true a2c0.length 2 (a2c0.flatMap (e28 true)))])], [], []⟩ [c_ 6, c_ 7] aln nocal ?_
  refine .reg' [0, 1, 2, 6, 7, 8] [] ⟨[(0, (.rf 0 0 a0.length 2 (a0.length * 2))), (1, (I a1)), (2, (.fn (.func 53) [] [(.pt 40 0 1)])), (6, (I 20)), (7, (I 0)), (8, (I 20))], [(0, (a0.flatMap e58)), (40, [(.sl true a2c0.length 2 (a2c0.flatMap (e28 true)))])], [], []⟩ [l_ 28, b_ 0, c_ 15] aln nocal ?_
  exact ih0 a1 a0 a2c0 0 20 _ h
theorem slices_stableCmpFunc_1.lenl : ∀ k, (∀ (a1 : Int) (x1 : (List S58)) (x2 : (List S28)) (x3 : Int) (x4 : Int) (r : ((List S58) × (List S28))), slices_stableCmpFunc_1.l0 k a1 x1 x2 x3 x4 = some r → r.1.length = x1.length) ∧ (∀ (a1 : Int) (x7 : (List S58)) (x8 : (List S28)) (x9 : Int) (r : ((List S58) × (List S28))), slices_stableCmpFunc_1.l1 k a1 x7 x8 x9 = some r → r.1.length = x7.length) ∧ (∀ (a1 : Int) (x9 : Int) (x10 : (List S58)) (x11 : (List S28)) (x12 : Int) (x13 : Int) (r : ((List S58) × (List S28))), slices_stableCmpFunc_1.l2 k a1 x9 x10 x11 x12 x13 = some r → r.1.length = x10.length)
 | 0 => ⟨(by intro a1 x1 x2 x3 x4 r h; unfold slices_stableCmpFunc_1.l0 at h; cases h), (by intro a1 x7 x8 x9 r h; unfold slices_stableCmpFunc_1.l1 at h; cases h), (by intro a1 x9 x10 x11 x12 x13 r h; unfold slices_stableCmpFunc_1.l2 at h; cases h)⟩
 | k + 1 => by
  obtain ⟨ih0, ih1, ih2⟩ := slices_stableCmpFunc_1.lenl k
  refine ⟨?_, ?_, ?_⟩
  · intro a1 x1 x2 x3 x4 r h
    unfold slices_stableCmpFunc_1.l0 at h
    by_cases c1 : x4 ≤ a1
    · rw [if_pos c1] at h
      obtain ⟨x5, hx5, h⟩ := Option.bind_eq_some_iff.mp h
      have lhx5 := slices_insertionSortCmpFunc_1.len k x1 x3 x4 x2 _ hx5
      have q := ih0 a1 x5.1 x5.2 x4 (wrap64 (x4 + 20)) _ h
      first | exact q | (simp only [List.length_set, lhx5] at q; exact q)
    · rw [if_neg c1] at h
      obtain ⟨x6, hx6, h⟩ := Option.bind_eq_some_iff.mp h
      have lhx6 := slices_insertionSortCmpFunc_1.len k x1 x3 a1 x2 _ hx6
      have q := ih1 a1 x6.1 x6.2 20 _ h
      first | exact q | (simp only [List.length_set, lhx6] at q; exact q)
  · intro a1 x7 x8 x9 r h
    unfold slices_stableCmpFunc_1.l1 at h
    by_cases c2 : x9 < a1
    · rw [if_pos c2] at h
      have q := ih2 a1 x9 x7 x8 0 (wrap64 (2 * x9)) _ h
      first | exact q | (simp only [List.length_set] at q; exact q)
    · rw [if_neg c2] at h
      have h := Option.some.inj h
      subst h
      first | rfl | (simp only [List.length_set]; done) | exact ⟨by first | rfl | simp only [List.length_set]⟩
  · intro a1 x9 x10 x11 x12 x13 r h
    unfold slices_stableCmpFunc_1.l2 at h
    by_cases c3 : x13 ≤ a1
    · rw [if_pos c3] at h
      obtain ⟨x14, hx14, h⟩ := Option.bind_eq_some_iff.mp h
      have lhx14 := slices_symMergeCmpFunc_1.len k x10 x12 (wrap64 (x12 + x9)) x13 x11 _ hx14
      have q := ih2 a1 x9 x14.1 x14.2 x13 (wrap64 (x13 + (wrap64 (2 * x9)))) _ h
      first | exact q | (simp only [List.length_set, lhx14] at q; exact q)
    · rw [if_neg c3] at h
      by_cases c4 : (wrap64 (x12 + x9)) < a1
      · rw [if_pos c4] at h
        obtain ⟨x15, hx15, h⟩ := Option.bind_eq_some_iff.mp h
        have lhx15 := slices_symMergeCmpFunc_1.len k x10 x12 (wrap64 (x12 + x9)) a1 x11 _ hx15
        have q := ih1 a1 x15.1 x15.2 (wrap64 (x9 * 2)) _ h
        first | exact q | (simp only [List.length_set, lhx15] at q; exact q)
      · rw [if_neg c4] at h
        have q := ih1 a1 x10 x11 (wrap64 (x9 * 2)) _ h
        first | exact q | (simp only [List.length_set] at q; exact q)
theorem slices_stableCmpFunc_1.len (k : Nat) (a0 : (List S58)) (a1 : Int) (a2c0 : (List S28)) (r : ((List S58) × (List S28))) (h : slices_stableCmpFunc_1.f k a0 a1 a2c0 = some r) : r.1.length = a0.length := by
  unfold slices_stableCmpFunc_1.f at h
  obtain ⟨ih0, ih1, ih2⟩ := slices_stableCmpFunc_1.lenl k
  have q := ih0 a1 a0 a2c0 0 20 _ h
  first | exact q | (simp only [List.length_set] at q; exact q)
/-! slices_SortStableFunc_1: function 52 -/
def slices_SortStableFunc_1.f (k : Nat) (a0 : (List S58)) (a1c0 : (List S28)) : Option ((List S58) × (List S28)) := ((slices_stableCmpFunc_1.f k a0 (a0.length : Int) a1c0).bind fun x1 => (some (x1.1, x1.2)))
theorem slices_SortStableFunc_1.J (k : Nat) (a0 : (List S58)) (a1c0 : (List S28)) (r : ((List S58) × (List S28))) (h : slices_SortStableFunc_1.f k a0 a1c0 = some r) : J prog (.call 52 [(.rf 0 0 a0.length 2 (a0.length * 2)), (.fn (.func 53) [] [(.pt 24 0 1)])] [(0, (a0.flatMap e58)), (24, [(.sl true a1c0.length 2 (a1c0.flatMap (e28 true)))])] (.tp []) [(0, (r.1.flatMap e58)), (24, [(.sl true r.2.length 2 (r.2.flatMap (e28 true)))])]) := by
  unfold slices_SortStableFunc_1.f at h
  refine .call' [c_ 1] ?_
  obtain ⟨x1, hx1, h⟩ := Option.bind_eq_some_iff.mp h
  refine .reg' [] [.no, .no, .no, .no, .c ⟨65, [(.rf 0 0 a0.length 2 (a0.length * 2)), (I (a0.length : Int)), (.fn (.func 53) [] [(.pt 40 0 1)])], [(0, (a0.flatMap e58)), (40, [(.sl true a1c0.length 2 (a1c0.flatMap (e28 true)))])], (.tp []), [(0, (x1.1.flatMap e58)), (40, [(.sl true x1.2.length 2 (x1.2.flatMap (e28 true)))])], [], [(0, 0), (24, 40)], [(0, 0), (24, 40)], (.tp []), [(0, (x1.1.flatMap e58)), (24, [(.sl true x1.2.length 2 (x1.2.flatMap (e28 true)))])]⟩] ⟨[], [(0, (x1.1.flatMap e58)), (24, [(.sl true x1.2.length 2 (x1.2.flatMap (e28 true)))])], [COK (hget [(0, (a0.flatMap e58)), (24, [(.sl true a1c0.length 2 (a1c0.flatMap (e28 true)))])]) [(.rf 0 0 a0.length 2 (a0.length * 2)), (I (a0.length : Int)), (.fn (.func 53) [] [(.pt 24 0 1)])] ⟨65, [(.rf 0 0 a0.length 2 (a0.length * 2)), (I (a0.length : Int)), (.fn (.func 53) [] [(.pt 40 0 1)])], [(0, (a0.flatMap e58)), (40, [(.sl true a1c0.length 2 (a1c0.flatMap (e28 true)))])], (.tp []), [(0, (x1.1.flatMap e58)), (40, [(.sl true x1.2.length 2 (x1.2.flatMap (e28 true)))])], [], [(0, 0), (24, 40)], [(0, 0), (24, 40)], (.tp []), [(0, (x1.1.flatMap e58)), (24, [(.sl true x1.2.length 2 (x1.2.flatMap (e28 true)))])]⟩], [⟨65, [(.rf 0 0 a0.length 2 (a0.length * 2)), (I (a0.length : Int)), (.fn (.func 53) [] [(.pt 40 0 1)])], [(0, (a0.flatMap e58)), (40, [(.sl true a1c0.length 2 (a1c0.flatMap (e28 true)))])], (.tp []), [(0, (x1.1.flatMap e58)), (40, [(.sl true x1.2.length 2 (x1.2.flatMap (e28 true)))])], [], [(0, 0), (24, 40)], [(0, 0), (24, 40)], (.tp []), [(0, (x1.1.flatMap e58)), (24, [(.sl true x1.2.length 2 (x1.2.flatMap (e28 true)))])]⟩]⟩ [] (alc (cokW true (a2c (.rf (memP_mem (p := (0, 0)) rfl)) (a2c (.z .s) (a2c (cnv_fn a2n (a2c (.pt (memP_mem (p := (24, 40)) rfl)) a2n)) a2n))) (akc ⟨_, _, rfl, rfl, (rowF e58_ok _)⟩ (akc ⟨_, _, rfl, rfl, (a2c (.z (frz_sl (e28_ok true) (fun h => h))) a2n)⟩ akn)) (akc (.inl rfl) (akc (.inl rfl) akn)) (bck_tp a2n) (akc ⟨_, _, rfl, rfl, rowB e58_c _⟩ (akc ⟨_, _, rfl, rfl, (a2c (.z (clnS e28_c1 (fun h => rfl))) a2n)⟩ akn)) (fun h => rfl)) aln) (acal (slices_stableCmpFunc_1.J k a0 (a0.length : Int) a1c0 _ hx1) nocal) ?_
  have h := Option.some.inj h
  subst h
  exact .fin' [] [(0, 0), (24, 24)] (.tp []) [] aln (shc 0 (rowF e58_ok _) (shc 24 (a2c (.z (frz_sl (e28_ok true) (fun h => h))) a2n) shn)) (cnv_tp a2n)
theorem slices_SortStableFunc_1.len (k : Nat) (a0 : (List S58)) (a1c0 : (List S28)) (r : ((List S58) × (List S28))) (h : slices_SortStableFunc_1.f k a0 a1c0 = some r) : r.1.length = a0.length := by
  unfold slices_SortStableFunc_1.f at h
  obtain ⟨x1, hx1, h⟩ := Option.bind_eq_some_iff.mp h
  have lhx1 := slices_stableCmpFunc_1.len k a0 (a0.length : Int) a1c0 _ hx1
  have h := Option.some.inj h
  subst h
  first | rfl | (simp only [List.length_set, lhx1]; done) | exact ⟨by first | rfl | simp only [List.length_set, lhx1]⟩
/-! impl_Board: function 30 -/
mutual
def impl_Board.l0 : Nat → (List S28) → Int → Int → Int → (List S58) → Int → Option (List S58)
 | 0, _, _, _, _, _, _ => none
 | k + 1, a0, a1, a2, a3, x3, x4 => (if x4 < (a0.length : Int) then (if 0 ≤ x4 then (if 0 ≤ (wrap64 (((at_ a0 x4).f1.length : Int) - 1)) then (if (wrap64 (((at_ a0 x4).f1.length : Int) - 1)) ≤ ((at_ a0 x4).f1.length : Int) then (impl_Board.l1 k a0 a1 a2 a3 x4 x3 0) else none) else none) else none) else ((slices_SortStableFunc_1.f k x3 a0).bind fun x7 => (if 0 ≤ (mn (x7.1.length : Int) a3) then (if (mn (x7.1.length : Int) a3) ≤ (x7.1.length : Int) then (if (([] : List S58).length + ((x7.1.drop (0 : Int).toNat).take ((mn (x7.1.length : Int) a3).toNat - (0 : Int).toNat)).length) * 16 ≤ 70368744177664 then (some (([] : List S58) ++ ((x7.1.drop (0 : Int).toNat).take ((mn (x7.1.length : Int) a3).toNat - (0 : Int).toNat)))) else none) else none) else none)))
def impl_Board.l1 : Nat → (List S28) → Int → Int → Int → Int → (List S58) → Int → Option (List S58)
 | 0, _, _, _, _, _, _, _ => none
 | k + 1, a0, a1, a2, a3, x4, x5, x6 => (if x6 < ((((at_ a0 x4).f1.drop (0 : Int).toNat).take ((wrap64 (((at_ a0 x4).f1.length : Int) - 1)).toNat - (0 : Int).toNat)).length : Int) then (if 0 ≤ x6 then (if (at_ (((at_ a0 x4).f1.drop (0 : Int).toNat).take ((wrap64 (((at_ a0 x4).f1.length : Int) - 1)).toNat - (0 : Int).toNat)) x6).f0 = a1 then (if (at_ (((at_ a0 x4).f1.drop (0 : Int).toNat).take ((wrap64 (((at_ a0 x4).f1.length : Int) - 1)).toNat - (0 : Int).toNat)) x6).f2 ≥ a2 then (if (x5.length + ([(⟨x4, x6⟩ : S58)] : List S58).length) * 16 ≤ 70368744177664 then (impl_Board.l1 k a0 a1 a2 a3 x4 (x5 ++ ([(⟨x4, x6⟩ : S58)] : List S58)) (wrap64 (x6 + 1))) else none) else (impl_Board.l1 k a0 a1 a2 a3 x4 x5 (wrap64 (x6 + 1)))) else (impl_Board.l1 k a0 a1 a2 a3 x4 x5 (wrap64 (x6 + 1)))) else none) else (impl_Board.l0 k a0 a1 a2 a3 x5 (wrap64 (x4 + 1))))
end
def impl_Board.f (k : Nat) (a0 : (List S28)) (a1 : Int) (a2 : Int) (a3 : Int) : Option (List S58) := ((impl_TableOk.f k a0).bind fun x1 => (if x1 = true then ((impl_between.f a3 0 50).bind fun x2 => (if x2 = true then (impl_Board.l0 k a0 a1 a2 a3 ([] : List S58) 0) else (some ([] : List S58)))) else (some ([] : List S58))))
theorem impl_Board.lab : ∀ k, (∀ (a0 : (List S28)) (a1 : Int) (a2 : Int) (a3 : Int) (x3 : (List S58)) (x4 : Int) (r : (List S58)), impl_Board.l0 k a0 a1 a2 a3 x3 x4 = some r → J prog (.run 30 [] [l_ 122, b_ 0, c_ 31] [(1, (I a1)), (2, (I a2)), (3, (I a3)), (4, (.pt 256 0 1)), (9, (.rf 1024 0 x3.length 2 (x3.length * 2))), (23, (.sl true a0.length 2 (a0.flatMap (e28 true)))), (24, (I (a0.length : Int))), (25, (I x4))] [(256, [(.sl true a0.length 2 (a0.flatMap (e28 true)))]), (1024, (x3.flatMap e58))] (.rf 4096 0 r.length 2 (r.length * 2)) [(4096, (r.flatMap e58))])) ∧ (∀ (a0 : (List S28)) (a1 : Int) (a2 : Int) (a3 : Int) (x4 : Int) (x5 : (List S58)) (x6 : Int) (r : (List S58)), impl_Board.l1 k a0 a1 a2 a3 x4 x5 x6 = some r → J prog (.run 30 [] [l_ 31334, b_ 2, b_ 1, c_ 1959, l_ 122, b_ 0, c_ 31] [(1, (I a1)), (2, (I a2)), (3, (I a3)), (4, (.pt 256 0 1)), (9, (.rf 1024 0 x5.length 2 (x5.length * 2))), (10, (I x4)), (23, (.sl true a0.length 2 (a0.flatMap (e28 true)))), (24, (I (a0.length : Int))), (25, (I x4)), (36, (.sl true (((at_ a0 x4).f1.drop (0 : Int).toNat).take ((wrap64 (((at_ a0 x4).f1.length : Int) - 1)).toNat - (0 : Int).toNat)).length 3 ((((at_ a0 x4).f1.drop (0 : Int).toNat).take ((wrap64 (((at_ a0 x4).f1.length : Int) - 1)).toNat - (0 : Int).toNat)).flatMap e54))), (37, (I ((((at_ a0 x4).f1.drop (0 : Int).toNat).take ((wrap64 (((at_ a0 x4).f1.length : Int) - 1)).toNat - (0 : Int).toNat)).length : Int))), (38, (I x6))] [(256, [(.sl true a0.length 2 (a0.flatMap (e28 true)))]), (1024, (x5.flatMap e58))] (.rf 4096 0 r.length 2 (r.length * 2)) [(4096, (r.flatMap e58))]))
 | 0 => ⟨(by intro a0 a1 a2 a3 x3 x4 r h; unfold impl_Board.l0 at h; cases h), (by intro a0 a1 a2 a3 x4 x5 x6 r h; unfold impl_Board.l1 at h; cases h)⟩
 | k + 1 => by
  obtain ⟨ih0, ih1⟩ := impl_Board.lab k
  refine ⟨?_, ?_⟩
  · intro a0 a1 a2 a3 x3 x4 r h
    unfold impl_Board.l0 at h
    refine .loop' [c_ 488, c_ 489, l_ 122, b_ 0, c_ 31] ?_
    refine .reg' [1, 2, 3, 4, 9, 23, 24, 25, 26] [] ⟨[(1, (I a1)), (2, (I a2)), (3, (I a3)), (4, (.pt 256 0 1)), (9, (.rf 1024 0 x3.length 2 (x3.length * 2))), (23, (.sl true a0.length 2 (a0.flatMap (e28 true)))), (24, (I (a0.length : Int))), (25, (I x4)), (26, (B (decide (x4 < (a0.length : Int)))))], [(256, [(.sl true a0.length 2 (a0.flatMap (e28 true)))]), (1024, (x3.flatMap e58))], [], []⟩ [c_ 978, c_ 979, l_ 122, b_ 0, c_ 31] aln nocal ?_
    by_cases c3 : x4 < (a0.length : Int)
    · rw [if_pos c3] at h
      refine .cond' (.tmp 26) true [c_ 7832, c_ 7833, b_ 1, c_ 1959, l_ 122, b_ 0, c_ 31] (bT (dT c3)) ?_
      by_cases c4 : 0 ≤ x4
      · rw [if_pos c4] at h
        refine .reg' [1, 2, 3, 4, 9, 10, 11, 23, 24, 25] [.no, .no, .v (.ag [(S (at_ a0 x4).f0), (.sl true (at_ a0 x4).f1.length 3 ((at_ a0 x4).f1.flatMap e54))])] ⟨[(1, (I a1)), (2, (I a2)), (3, (I a3)), (4, (.pt 256 0 1)), (9, (.rf 1024 0 x3.length 2 (x3.length * 2))), (10, (I x4)), (11, (.pt 1795 0 2)), (23, (.sl true a0.length 2 (a0.flatMap (e28 true)))), (24, (I (a0.length : Int))), (25, (I x4))], [(256, [(.sl true a0.length 2 (a0.flatMap (e28 true)))]), (1024, (x3.flatMap e58)), (1795, [(S (at_ a0 x4).f0), (.sl true (at_ a0 x4).f1.length 3 ((at_ a0 x4).f1.flatMap e54))])], [(0 : Int) ≤ x4 ∧ x4 < (a0.length : Int), rdC prog 29 ((a0.flatMap (e28 true)).drop (x4.toNat * 2)) = (.ag [(S (at_ a0 x4).f0), (.sl true (at_ a0 x4).f1.length 3 ((at_ a0 x4).f1.flatMap e54))]), 2 ≤ ((a0.flatMap (e28 true)).drop (x4.toNat * 2)).length, 2 = 2 ∧ 0 + 2 ≤ 2], []⟩ [c_ 15666, c_ 15667, b_ 1, c_ 1959, l_ 122, b_ 0, c_ 31] (alc ⟨c4, c3⟩ (alc (ldA (e28_ok true) rfl rfl c4 c3) (alc (okI (e28_ok true) c4 c3 (by decide)) (alc ⟨rfl, by decide⟩ aln)))) nocal ?_
        by_cases c5 : 0 ≤ (wrap64 (((at_ a0 x4).f1.length : Int) - 1))
        · rw [if_pos c5] at h
          by_cases c6 : (wrap64 (((at_ a0 x4).f1.length : Int) - 1)) ≤ ((at_ a0 x4).f1.length : Int)
          · rw [if_pos c6] at h
            refine .reg' [1, 2, 3, 4, 9, 10, 23, 24, 25, 36, 37, 38] [.no, .no, .no, .no, .no, .no, .v (.sl true (((at_ a0 x4).f1.drop (0 : Int).toNat).take ((wrap64 (((at_ a0 x4).f1.length : Int) - 1)).toNat - (0 : Int).toNat)).length 3 ((((at_ a0 x4).f1.drop (0 : Int).toNat).take ((wrap64 (((at_ a0 x4).f1.length : Int) - 1)).toNat - (0 : Int).toNat)).flatMap e54))] ⟨[(1, (I a1)), (2, (I a2)), (3, (I a3)), (4, (.pt 256 0 1)), (9, (.rf 1024 0 x3.length 2 (x3.length * 2))), (10, (I x4)), (23, (.sl true a0.length 2 (a0.flatMap (e28 true)))), (24, (I (a0.length : Int))), (25, (I x4)), (36, (.sl true (((at_ a0 x4).f1.drop (0 : Int).toNat).take ((wrap64 (((at_ a0 x4).f1.length : Int) - 1)).toNat - (0 : Int).toNat)).length 3 ((((at_ a0 x4).f1.drop (0 : Int).toNat).take ((wrap64 (((at_ a0 x4).f1.length : Int) - 1)).toNat - (0 : Int).toNat)).flatMap e54))), (37, (I ((((at_ a0 x4).f1.drop (0 : Int).toNat).take ((wrap64 (((at_ a0 x4).f1.length : Int) - 1)).toNat - (0 : Int).toNat)).length : Int))), (38, (I 0))], [(256, [(.sl true a0.length 2 (a0.flatMap (e28 true)))]), (1024, (x3.flatMap e58)), (1795, [(S (at_ a0 x4).f0), (.sl true (at_ a0 x4).f1.length 3 ((at_ a0 x4).f1.flatMap e54))])], [2 = 2 ∧ 1 + 1 ≤ 2, 2 = 2 ∧ 1 + 1 ≤ 2, V.sl true ((wrap64 (((at_ a0 x4).f1.length : Int) - 1)).toNat - (0 : Int).toNat) 3 ((((at_ a0 x4).f1.flatMap e54).drop ((0 : Int).toNat * 3)).take (((wrap64 (((at_ a0 x4).f1.length : Int) - 1)).toNat - (0 : Int).toNat) * 3)) = (.sl true (((at_ a0 x4).f1.drop (0 : Int).toNat).take ((wrap64 (((at_ a0 x4).f1.length : Int) - 1)).toNat - (0 : Int).toNat)).length 3 ((((at_ a0 x4).f1.drop (0 : Int).toNat).take ((wrap64 (((at_ a0 x4).f1.length : Int) - 1)).toNat - (0 : Int).toNat)).flatMap e54)), 0 ≤ (0 : Int) ∧ 0 ≤ (wrap64 (((at_ a0 x4).f1.length : Int) - 1)) ∧ (wrap64 (((at_ a0 x4).f1.length : Int) - 1)) ≤ ((at_ a0 x4).f1.length : Int)], []⟩ [l_ 31334, b_ 2, b_ 1, c_ 1959, l_ 122, b_ 0, c_ 31] (alc ⟨rfl, by decide⟩ (alc ⟨rfl, by decide⟩ (alc (slS e54_ok (by omega) (by omega)) (alc ⟨(by decide), c5, c6⟩ aln)))) nocal ?_
            refine .wk' [] [(256, 256), (1024, 1024)] [(1, (I a1)), (2, (I a2)), (3, (I a3)), (4, (.pt 256 0 1)), (9, (.rf 1024 0 x3.length 2 (x3.length * 2))), (10, (I x4)), (23, (.sl true a0.length 2 (a0.flatMap (e28 true)))), (24, (I (a0.length : Int))), (25, (I x4)), (36, (.sl true (((at_ a0 x4).f1.drop (0 : Int).toNat).take ((wrap64 (((at_ a0 x4).f1.length : Int) - 1)).toNat - (0 : Int).toNat)).length 3 ((((at_ a0 x4).f1.drop (0 : Int).toNat).take ((wrap64 (((at_ a0 x4).f1.length : Int) - 1)).toNat - (0 : Int).toNat)).flatMap e54))), (37, (I ((((at_ a0 x4).f1.drop (0 : Int).toNat).take ((wrap64 (((at_ a0 x4).f1.length : Int) - 1)).toNat - (0 : Int).toNat)).length : Int))), (38, (I 0))] [(256, [(.sl true a0.length 2 (a0.flatMap (e28 true)))]), (1024, (x3.flatMap e58))] (shc 256 (a2c (.z (frz_sl (e28_ok true) (fun h => h))) a2n) (shc 1024 (rowF e58_ok _) shn)) (enc_ (.z .s) (enc_ (.z .s) (enc_ (.z .s) (enc_ (.pt (memP_mem (p := (256, 256)) rfl)) (enc_ (.rf (memP_mem (p := (1024, 1024)) rfl)) (enc_ (.z .s) (enc_ (.z (frz_sl (e28_ok true) (fun h => h))) (enc_ (.z .s) (enc_ (.z .s) (enc_ (.z (frz_sl e54_ok (fun h => h))) (enc_ (.z .s) (enc_ (.z .s) enn)))))))))))) ?_
            exact ih1 a0 a1 a2 a3 x4 x3 0 _ h
          · rw [if_neg c6] at h
            cases h
        · rw [if_neg c5] at h
          cases h
      · rw [if_neg c4] at h
        cases h
    · rw [if_neg c3] at h
      refine .cond' (.tmp 26) false [c_ 62, c_ 63] (bF (dF c3)) ?_
      obtain ⟨x7, hx7, h⟩ := Option.bind_eq_some_iff.mp h
      refine .reg' [3, 9] [.no, .no, .c ⟨52, [(.rf 0 0 x3.length 2 (x3.length * 2)), (.fn (.func 53) [] [(.pt 24 0 1)])], [(0, (x3.flatMap e58)), (24, [(.sl true a0.length 2 (a0.flatMap (e28 true)))])], (.tp []), [(0, (x7.1.flatMap e58)), (24, [(.sl true x7.2.length 2 (x7.2.flatMap (e28 true)))])], [], [(1024, 0), (256, 24)], [(1024, 0), (256, 24)], (.tp []), [(1024, (x7.1.flatMap e58)), (256, [(.sl true x7.2.length 2 (x7.2.flatMap (e28 true)))])]⟩] ⟨[(3, (I a3)), (9, (.rf 1024 0 x3.length 2 (x3.length * 2)))], [(256, [(.sl true x7.2.length 2 (x7.2.flatMap (e28 true)))]), (1024, (x7.1.flatMap e58))], [COK (hget [(256, [(.sl true a0.length 2 (a0.flatMap (e28 true)))]), (1024, (x3.flatMap e58))]) [(.rf 1024 0 x3.length 2 (x3.length * 2)), (.fn (.func 53) [] [(.pt 256 0 1)])] ⟨52, [(.rf 0 0 x3.length 2 (x3.length * 2)), (.fn (.func 53) [] [(.pt 24 0 1)])], [(0, (x3.flatMap e58)), (24, [(.sl true a0.length 2 (a0.flatMap (e28 true)))])], (.tp []), [(0, (x7.1.flatMap e58)), (24, [(.sl true x7.2.length 2 (x7.2.flatMap (e28 true)))])], [], [(1024, 0), (256, 24)], [(1024, 0), (256, 24)], (.tp []), [(1024, (x7.1.flatMap e58)), (256, [(.sl true x7.2.length 2 (x7.2.flatMap (e28 true)))])]⟩], [⟨52, [(.rf 0 0 x3.length 2 (x3.length * 2)), (.fn (.func 53) [] [(.pt 24 0 1)])], [(0, (x3.flatMap e58)), (24, [(.sl true a0.length 2 (a0.flatMap (e28 true)))])], (.tp []), [(0, (x7.1.flatMap e58)), (24, [(.sl true x7.2.length 2 (x7.2.flatMap (e28 true)))])], [], [(1024, 0), (256, 24)], [(1024, 0), (256, 24)], (.tp []), [(1024, (x7.1.flatMap e58)), (256, [(.sl true x7.2.length 2 (x7.2.flatMap (e28 true)))])]⟩]⟩ [c_ 126, c_ 127] (alc (cokW true (a2c (.rf (memP_mem (p := (1024, 0)) rfl)) (a2c (cnv_fn a2n (a2c (.pt (memP_mem (p := (256, 24)) rfl)) a2n)) a2n)) (akc ⟨_, _, rfl, rfl, (rowF e58_ok _)⟩ (akc ⟨_, _, rfl, rfl, (a2c (.z (frz_sl (e28_ok true) (fun h => h))) a2n)⟩ akn)) (akc (.inl rfl) (akc (.inl rfl) akn)) (bck_tp a2n) (akc ⟨_, _, rfl, rfl, rowB e58_c _⟩ (akc ⟨_, _, rfl, rfl, (a2c (.z (clnS e28_c1 (fun h => rfl))) a2n)⟩ akn)) (fun h => rfl)) aln) (acal (slices_SortStableFunc_1.J k x3 a0 _ hx7) nocal) ?_
      refine .eqs (env2 := [(3, (I a3)), (9, (.rf 1024 0 x7.1.length 2 (x7.1.length * 2)))]) (H2 := [(256, [(.sl true x7.2.length 2 (x7.2.flatMap (e28 true)))]), (1024, (x7.1.flatMap e58))]) (by first | (simp only [List.length_set, (slices_SortStableFunc_1.len k x3 a0 _ hx7)]; done) | simp) (by first | rfl | (simp only [List.length_set, (slices_SortStableFunc_1.len k x3 a0 _ hx7)]; done) | simp) ?_
      refine .wk' [1024] [(256, 256)] [(3, (I a3)), (9, (.sl false x7.1.length 2 (x7.1.flatMap e58)))] [(256, [(.sl true x7.2.length 2 (x7.2.flatMap (e28 true)))])] (shc 256 (a2c (.z (frz_sl (e28_ok true) (fun h => h))) a2n) shn) (enc_ (.z .s) (enc_ (.z (frz_rf (k := 1024) e58_ok (by simp) rfl rfl (row_len e58_ok _).symm)) enn)) ?_
      by_cases c12 : 0 ≤ (mn (x7.1.length : Int) a3)
      · rw [if_pos c12] at h
        by_cases c13 : (mn (x7.1.length : Int) a3) ≤ (x7.1.length : Int)
        · rw [if_pos c13] at h
          by_cases c14 : (([] : List S58).length + ((x7.1.drop (0 : Int).toNat).take ((mn (x7.1.length : Int) a3).toNat - (0 : Int).toNat)).length) * 16 ≤ 70368744177664
          · rw [if_pos c14] at h
            refine .reg' [8] [.no, .no, .no, .no, .no, .no, .v (.sl false ((x7.1.drop (0 : Int).toNat).take ((mn (x7.1.length : Int) a3).toNat - (0 : Int).toNat)).length 2 (((x7.1.drop (0 : Int).toNat).take ((mn (x7.1.length : Int) a3).toNat - (0 : Int).toNat)).flatMap e58)), .w (.rf 4096 0 ((([] : List S58) ++ ((x7.1.drop (0 : Int).toNat).take ((mn (x7.1.length : Int) a3).toNat - (0 : Int).toNat))).length) 2 ((([] : List S58) ++ ((x7.1.drop (0 : Int).toNat).take ((mn (x7.1.length : Int) a3).toNat - (0 : Int).toNat))).length * 2)) ((([] : List S58) ++ ((x7.1.drop (0 : Int).toNat).take ((mn (x7.1.length : Int) a3).toNat - (0 : Int).toNat))).flatMap e58)] ⟨[(8, (.rf 4096 0 ((([] : List S58) ++ ((x7.1.drop (0 : Int).toNat).take ((mn (x7.1.length : Int) a3).toNat - (0 : Int).toNat))).length) 2 ((([] : List S58) ++ ((x7.1.drop (0 : Int).toNat).take ((mn (x7.1.length : Int) a3).toNat - (0 : Int).toNat))).length * 2)))], [(256, [(.sl true x7.2.length 2 (x7.2.flatMap (e28 true)))]), (4096, ((([] : List S58) ++ ((x7.1.drop (0 : Int).toNat).take ((mn (x7.1.length : Int) a3).toNat - (0 : Int).toNat))).flatMap e58))], [V.sl false ((mn (x7.1.length : Int) a3).toNat - (0 : Int).toNat) 2 (((x7.1.flatMap e58).drop ((0 : Int).toNat * 2)).take (((mn (x7.1.length : Int) a3).toNat - (0 : Int).toNat) * 2)) = (.sl false ((x7.1.drop (0 : Int).toNat).take ((mn (x7.1.length : Int) a3).toNat - (0 : Int).toNat)).length 2 (((x7.1.drop (0 : Int).toNat).take ((mn (x7.1.length : Int) a3).toNat - (0 : Int).toNat)).flatMap e58)), 0 ≤ (0 : Int) ∧ 0 ≤ (mn (x7.1.length : Int) a3) ∧ (mn (x7.1.length : Int) a3) ≤ (x7.1.length : Int), V.rf 4096 0 (([] : List S58).length + ((x7.1.drop (0 : Int).toNat).take ((mn (x7.1.length : Int) a3).toNat - (0 : Int).toNat)).length) 2 (([] : List S58).length * 2 + ((x7.1.drop (0 : Int).toNat).take ((mn (x7.1.length : Int) a3).toNat - (0 : Int).toNat)).length * 2) = (.rf 4096 0 ((([] : List S58) ++ ((x7.1.drop (0 : Int).toNat).take ((mn (x7.1.length : Int) a3).toNat - (0 : Int).toNat))).length) 2 ((([] : List S58) ++ ((x7.1.drop (0 : Int).toNat).take ((mn (x7.1.length : Int) a3).toNat - (0 : Int).toNat))).length * 2)), ([] : List S58).flatMap e58 ++ (((x7.1.drop (0 : Int).toNat).take ((mn (x7.1.length : Int) a3).toNat - (0 : Int).toNat)).flatMap e58) = ((([] : List S58) ++ ((x7.1.drop (0 : Int).toNat).take ((mn (x7.1.length : Int) a3).toNat - (0 : Int).toNat))).flatMap e58), True ∧ ([] : List S58).length * 2 = (([] : List S58).flatMap e58).length ∧ ([] : List S58).length * 2 = (([] : List S58).flatMap e58).length ∧ (([] : List S58).length + ((x7.1.drop (0 : Int).toNat).take ((mn (x7.1.length : Int) a3).toNat - (0 : Int).toNat)).length) * 16 ≤ 70368744177664], []⟩ [c_ 127] (alc (slS e58_ok (by omega) (by omega)) (alc ⟨(by decide), c12, c13⟩ (alc (apV rfl) (alc apS (alc (apOS e58_ok c14) aln))))) nocal ?_
            have h := Option.some.inj h
            subst h
            exact .fin' [] [(4096, 4096)] (.rf 4096 0 ((([] : List S58) ++ ((x7.1.drop (0 : Int).toNat).take ((mn (x7.1.length : Int) a3).toNat - (0 : Int).toNat))).length) 2 ((([] : List S58) ++ ((x7.1.drop (0 : Int).toNat).take ((mn (x7.1.length : Int) a3).toNat - (0 : Int).toNat))).length * 2)) [] aln (shc 4096 (rowF e58_ok _) shn) (.rf (memP_mem (p := (4096, 4096)) rfl))
          · rw [if_neg c14] at h
            cases h
        · rw [if_neg c13] at h
          cases h
      · rw [if_neg c12] at h
        cases h
  · intro a0 a1 a2 a3 x4 x5 x6 r h
    unfold impl_Board.l1 at h
    refine .loop' [c_ 125336, c_ 125337, l_ 31334, b_ 2, b_ 1, c_ 1959, l_ 122, b_ 0, c_ 31] ?_
    refine .reg' [1, 2, 3, 4, 9, 10, 23, 24, 25, 36, 37, 38, 39] [] ⟨[(1, (I a1)), (2, (I a2)), (3, (I a3)), (4, (.pt 256 0 1)), (9, (.rf 1024 0 x5.length 2 (x5.length * 2))), (10, (I x4)), (23, (.sl true a0.length 2 (a0.flatMap (e28 true)))), (24, (I (a0.length : Int))), (25, (I x4)), (36, (.sl true (((at_ a0 x4).f1.drop (0 : Int).toNat).take ((wrap64 (((at_ a0 x4).f1.length : Int) - 1)).toNat - (0 : Int).toNat)).length 3 ((((at_ a0 x4).f1.drop (0 : Int).toNat).take ((wrap64 (((at_ a0 x4).f1.length : Int) - 1)).toNat - (0 : Int).toNat)).flatMap e54))), (37, (I ((((at_ a0 x4).f1.drop (0 : Int).toNat).take ((wrap64 (((at_ a0 x4).f1.length : Int) - 1)).toNat - (0 : Int).toNat)).length : Int))), (38, (I x6)), (39, (B (decide (x6 < ((((at_ a0 x4).f1.drop (0 : Int).toNat).take ((wrap64 (((at_ a0 x4).f1.length : Int) - 1)).toNat - (0 : Int).toNat)).length : Int)))))], [(256, [(.sl true a0.length 2 (a0.flatMap (e28 true)))]), (1024, (x5.flatMap e58))], [], []⟩ [c_ 250674, c_ 250675, l_ 31334, b_ 2, b_ 1, c_ 1959, l_ 122, b_ 0, c_ 31] aln nocal ?_
    by_cases c7 : x6 < ((((at_ a0 x4).f1.drop (0 : Int).toNat).take ((wrap64 (((at_ a0 x4).f1.length : Int) - 1)).toNat - (0 : Int).toNat)).length : Int)
    · rw [if_pos c7] at h
      refine .cond' (.tmp 39) true [c_ 2005400, c_ 2005401, b_ 3, c_ 501351, l_ 31334, b_ 2, b_ 1, c_ 1959, l_ 122, b_ 0, c_ 31] (bT (dT c7)) ?_
      by_cases c8 : 0 ≤ x6
      · rw [if_pos c8] at h
        refine .reg' [1, 2, 3, 4, 9, 10, 12, 13, 23, 24, 25, 36, 37, 38] [.no, .no, .v (.ag [(I (at_ (((at_ a0 x4).f1.drop (0 : Int).toNat).take ((wrap64 (((at_ a0 x4).f1.length : Int) - 1)).toNat - (0 : Int).toNat)) x6).f0), (I (at_ (((at_ a0 x4).f1.drop (0 : Int).toNat).take ((wrap64 (((at_ a0 x4).f1.length : Int) - 1)).toNat - (0 : Int).toNat)) x6).f1), (I (at_ (((at_ a0 x4).f1.drop (0 : Int).toNat).take ((wrap64 (((at_ a0 x4).f1.length : Int) - 1)).toNat - (0 : Int).toNat)) x6).f2)])] ⟨[(1, (I a1)), (2, (I a2)), (3, (I a3)), (4, (.pt 256 0 1)), (9, (.rf 1024 0 x5.length 2 (x5.length * 2))), (10, (I x4)), (12, (I x6)), (13, (.pt 2563 0 3)), (23, (.sl true a0.length 2 (a0.flatMap (e28 true)))), (24, (I (a0.length : Int))), (25, (I x4)), (36, (.sl true (((at_ a0 x4).f1.drop (0 : Int).toNat).take ((wrap64 (((at_ a0 x4).f1.length : Int) - 1)).toNat - (0 : Int).toNat)).length 3 ((((at_ a0 x4).f1.drop (0 : Int).toNat).take ((wrap64 (((at_ a0 x4).f1.length : Int) - 1)).toNat - (0 : Int).toNat)).flatMap e54))), (37, (I ((((at_ a0 x4).f1.drop (0 : Int).toNat).take ((wrap64 (((at_ a0 x4).f1.length : Int) - 1)).toNat - (0 : Int).toNat)).length : Int))), (38, (I x6))], [(256, [(.sl true a0.length 2 (a0.flatMap (e28 true)))]), (1024, (x5.flatMap e58)), (2563, [(I (at_ (((at_ a0 x4).f1.drop (0 : Int).toNat).take ((wrap64 (((at_ a0 x4).f1.length : Int) - 1)).toNat - (0 : Int).toNat)) x6).f0), (I (at_ (((at_ a0 x4).f1.drop (0 : Int).toNat).take ((wrap64 (((at_ a0 x4).f1.length : Int) - 1)).toNat - (0 : Int).toNat)) x6).f1), (I (at_ (((at_ a0 x4).f1.drop (0 : Int).toNat).take ((wrap64 (((at_ a0 x4).f1.length : Int) - 1)).toNat - (0 : Int).toNat)) x6).f2)])], [(0 : Int) ≤ x6 ∧ x6 < ((((at_ a0 x4).f1.drop (0 : Int).toNat).take ((wrap64 (((at_ a0 x4).f1.length : Int) - 1)).toNat - (0 : Int).toNat)).length : Int), rdC prog 55 (((((at_ a0 x4).f1.drop (0 : Int).toNat).take ((wrap64 (((at_ a0 x4).f1.length : Int) - 1)).toNat - (0 : Int).toNat)).flatMap e54).drop (x6.toNat * 3)) = (.ag [(I (at_ (((at_ a0 x4).f1.drop (0 : Int).toNat).take ((wrap64 (((at_ a0 x4).f1.length : Int) - 1)).toNat - (0 : Int).toNat)) x6).f0), (I (at_ (((at_ a0 x4).f1.drop (0 : Int).toNat).take ((wrap64 (((at_ a0 x4).f1.length : Int) - 1)).toNat - (0 : Int).toNat)) x6).f1), (I (at_ (((at_ a0 x4).f1.drop (0 : Int).toNat).take ((wrap64 (((at_ a0 x4).f1.length : Int) - 1)).toNat - (0 : Int).toNat)) x6).f2)]), 3 ≤ (((((at_ a0 x4).f1.drop (0 : Int).toNat).take ((wrap64 (((at_ a0 x4).f1.length : Int) - 1)).toNat - (0 : Int).toNat)).flatMap e54).drop (x6.toNat * 3)).length, 3 = 3 ∧ 0 + 3 ≤ 3], []⟩ [c_ 4010802, c_ 4010803, b_ 3, c_ 501351, l_ 31334, b_ 2, b_ 1, c_ 1959, l_ 122, b_ 0, c_ 31] (alc ⟨c8, c7⟩ (alc (ldA e54_ok rfl rfl c8 c7) (alc (okI e54_ok c8 c7 (by decide)) (alc ⟨rfl, by decide⟩ aln)))) nocal ?_
        by_cases c9 : (at_ (((at_ a0 x4).f1.drop (0 : Int).toNat).take ((wrap64 (((at_ a0 x4).f1.length : Int) - 1)).toNat - (0 : Int).toNat)) x6).f0 = a1
        · rw [if_pos c9] at h
          refine .reg' [1, 2, 3, 4, 9, 10, 12, 23, 24, 25, 36, 37, 38, 52] [.no, .no, .no, .no, .v (B true)] ⟨[(1, (I a1)), (2, (I a2)), (3, (I a3)), (4, (.pt 256 0 1)), (9, (.rf 1024 0 x5.length 2 (x5.length * 2))), (10, (I x4)), (12, (I x6)), (23, (.sl true a0.length 2 (a0.flatMap (e28 true)))), (24, (I (a0.length : Int))), (25, (I x4)), (36, (.sl true (((at_ a0 x4).f1.drop (0 : Int).toNat).take ((wrap64 (((at_ a0 x4).f1.length : Int) - 1)).toNat - (0 : Int).toNat)).length 3 ((((at_ a0 x4).f1.drop (0 : Int).toNat).take ((wrap64 (((at_ a0 x4).f1.length : Int) - 1)).toNat - (0 : Int).toNat)).flatMap e54))), (37, (I ((((at_ a0 x4).f1.drop (0 : Int).toNat).take ((wrap64 (((at_ a0 x4).f1.length : Int) - 1)).toNat - (0 : Int).toNat)).length : Int))), (38, (I x6)), (52, (B (decide ((at_ (((at_ a0 x4).f1.drop (0 : Int).toNat).take ((wrap64 (((at_ a0 x4).f1.length : Int) - 1)).toNat - (0 : Int).toNat)) x6).f2 ≥ a2))))], [(256, [(.sl true a0.length 2 (a0.flatMap (e28 true)))]), (1024, (x5.flatMap e58)), (2563, [(I (at_ (((at_ a0 x4).f1.drop (0 : Int).toNat).take ((wrap64 (((at_ a0 x4).f1.length : Int) - 1)).toNat - (0 : Int).toNat)) x6).f0), (I (at_ (((at_ a0 x4).f1.drop (0 : Int).toNat).take ((wrap64 (((at_ a0 x4).f1.length : Int) - 1)).toNat - (0 : Int).toNat)) x6).f1), (I (at_ (((at_ a0 x4).f1.drop (0 : Int).toNat).take ((wrap64 (((at_ a0 x4).f1.length : Int) - 1)).toNat - (0 : Int).toNat)) x6).f2)])], [3 = 3 ∧ 0 + 1 ≤ 3, (B ((at_ (((at_ a0 x4).f1.drop (0 : Int).toNat).take ((wrap64 (((at_ a0 x4).f1.length : Int) - 1)).toNat - (0 : Int).toNat)) x6).f0 == a1) : V) = B true, 3 = 3 ∧ 2 + 1 ≤ 3], []⟩ [c_ 4010803, b_ 3, c_ 501351, l_ 31334, b_ 2, b_ 1, c_ 1959, l_ 122, b_ 0, c_ 31] (alc ⟨rfl, by decide⟩ (alc (bT (qT c9)) (alc ⟨rfl, by decide⟩ aln))) nocal ?_
          by_cases c10 : (at_ (((at_ a0 x4).f1.drop (0 : Int).toNat).take ((wrap64 (((at_ a0 x4).f1.length : Int) - 1)).toNat - (0 : Int).toNat)) x6).f2 ≥ a2
          · rw [if_pos c10] at h
            refine .cond' (.tmp 52) true [c_ 8021606, b_ 3, c_ 501351, l_ 31334, b_ 2, b_ 1, c_ 1959, l_ 122, b_ 0, c_ 31] (bT (dT c10)) ?_
            by_cases c11 : (x5.length + ([(⟨x4, x6⟩ : S58)] : List S58).length) * 16 ≤ 70368744177664
            · rw [if_pos c11] at h
              refine .reg' [1, 2, 3, 4, 9, 10, 23, 24, 25, 36, 37, 38] [.no, .no, .no, .no, .no, .w (.rf 1024 0 ((x5 ++ ([(⟨x4, x6⟩ : S58)] : List S58)).length) 2 ((x5 ++ ([(⟨x4, x6⟩ : S58)] : List S58)).length * 2)) ((x5 ++ ([(⟨x4, x6⟩ : S58)] : List S58)).flatMap e58)] ⟨[(1, (I a1)), (2, (I a2)), (3, (I a3)), (4, (.pt 256 0 1)), (9, (.rf 1024 0 ((x5 ++ ([(⟨x4, x6⟩ : S58)] : List S58)).length) 2 ((x5 ++ ([(⟨x4, x6⟩ : S58)] : List S58)).length * 2))), (10, (I x4)), (23, (.sl true a0.length 2 (a0.flatMap (e28 true)))), (24, (I (a0.length : Int))), (25, (I x4)), (36, (.sl true (((at_ a0 x4).f1.drop (0 : Int).toNat).take ((wrap64 (((at_ a0 x4).f1.length : Int) - 1)).toNat - (0 : Int).toNat)).length 3 ((((at_ a0 x4).f1.drop (0 : Int).toNat).take ((wrap64 (((at_ a0 x4).f1.length : Int) - 1)).toNat - (0 : Int).toNat)).flatMap e54))), (37, (I ((((at_ a0 x4).f1.drop (0 : Int).toNat).take ((wrap64 (((at_ a0 x4).f1.length : Int) - 1)).toNat - (0 : Int).toNat)).length : Int))), (38, (I x6))], [(256, [(.sl true a0.length 2 (a0.flatMap (e28 true)))]), (1024, ((x5 ++ ([(⟨x4, x6⟩ : S58)] : List S58)).flatMap e58)), (2563, [(I (at_ (((at_ a0 x4).f1.drop (0 : Int).toNat).take ((wrap64 (((at_ a0 x4).f1.length : Int) - 1)).toNat - (0 : Int).toNat)) x6).f0), (I (at_ (((at_ a0 x4).f1.drop (0 : Int).toNat).take ((wrap64 (((at_ a0 x4).f1.length : Int) - 1)).toNat - (0 : Int).toNat)) x6).f1), (I (at_ (((at_ a0 x4).f1.drop (0 : Int).toNat).take ((wrap64 (((at_ a0 x4).f1.length : Int) - 1)).toNat - (0 : Int).toNat)) x6).f2)]), (3076, (([(⟨x4, x6⟩ : S58)] : List S58).flatMap e58))], [V.rf 1024 0 (x5.length + ([(⟨x4, x6⟩ : S58)] : List S58).length) 2 (x5.length * 2 + ([(⟨x4, x6⟩ : S58)] : List S58).length * 2) = (.rf 1024 0 ((x5 ++ ([(⟨x4, x6⟩ : S58)] : List S58)).length) 2 ((x5 ++ ([(⟨x4, x6⟩ : S58)] : List S58)).length * 2)), x5.flatMap e58 ++ (((([(⟨x4, x6⟩ : S58)] : List S58).flatMap e58).drop 0).take (([(⟨x4, x6⟩ : S58)] : List S58).length * 2)) = ((x5 ++ ([(⟨x4, x6⟩ : S58)] : List S58)).flatMap e58), (([(⟨x4, x6⟩ : S58)] : List S58).length * 2 = (([(⟨x4, x6⟩ : S58)] : List S58).flatMap e58).length ∧ 0 + ([(⟨x4, x6⟩ : S58)] : List S58).length * 2 ≤ (([(⟨x4, x6⟩ : S58)] : List S58).flatMap e58).length) ∧ x5.length * 2 = (x5.flatMap e58).length ∧ x5.length * 2 = (x5.flatMap e58).length ∧ (x5.length + ([(⟨x4, x6⟩ : S58)] : List S58).length) * 16 ≤ 70368744177664], []⟩ [c_ 501351, l_ 31334, b_ 2, b_ 1, c_ 1959, l_ 122, b_ 0, c_ 31] (alc (apV rfl) (alc (apR e58_ok rfl) (alc (apO e58_ok rfl c11 rfl) aln))) nocal ?_
              refine .reg' [1, 2, 3, 4, 9, 10, 23, 24, 25, 36, 37, 38] [] ⟨[(1, (I a1)), (2, (I a2)), (3, (I a3)), (4, (.pt 256 0 1)), (9, (.rf 1024 0 ((x5 ++ ([(⟨x4, x6⟩ : S58)] : List S58)).length) 2 ((x5 ++ ([(⟨x4, x6⟩ : S58)] : List S58)).length * 2))), (10, (I x4)), (23, (.sl true a0.length 2 (a0.flatMap (e28 true)))), (24, (I (a0.length : Int))), (25, (I x4)), (36, (.sl true (((at_ a0 x4).f1.drop (0 : Int).toNat).take ((wrap64 (((at_ a0 x4).f1.length : Int) - 1)).toNat - (0 : Int).toNat)).length 3 ((((at_ a0 x4).f1.drop (0 : Int).toNat).take ((wrap64 (((at_ a0 x4).f1.length : Int) - 1)).toNat - (0 : Int).toNat)).flatMap e54))), (37, (I ((((at_ a0 x4).f1.drop (0 : Int).toNat).take ((wrap64 (((at_ a0 x4).f1.length : Int) - 1)).toNat - (0 : Int).toNat)).length : Int))), (38, (I (wrap64 (x6 + 1))))], [(256, [(.sl true a0.length 2 (a0.flatMap (e28 true)))]), (1024, ((x5 ++ ([(⟨x4, x6⟩ : S58)] : List S58)).flatMap e58)), (2563, [(I (at_ (((at_ a0 x4).f1.drop (0 : Int).toNat).take ((wrap64 (((at_ a0 x4).f1.length : Int) - 1)).toNat - (0 : Int).toNat)) x6).f0), (I (at_ (((at_ a0 x4).f1.drop (0 : Int).toNat).take ((wrap64 (((at_ a0 x4).f1.length : Int) - 1)).toNat - (0 : Int).toNat)) x6).f1), (I (at_ (((at_ a0 x4).f1.drop (0 : Int).toNat).take ((wrap64 (((at_ a0 x4).f1.length : Int) - 1)).toNat - (0 : Int).toNat)) x6).f2)]), (3076, (([(⟨x4, x6⟩ : S58)] : List S58).flatMap e58))], [], []⟩ [l_ 31334, b_ 2, b_ 1, c_ 1959, l_ 122, b_ 0, c_ 31] aln nocal ?_
              refine .wk' [] [(256, 256), (1024, 1024)] [(1, (I a1)), (2, (I a2)), (3, (I a3)), (4, (.pt 256 0 1)), (9, (.rf 1024 0 ((x5 ++ ([(⟨x4, x6⟩ : S58)] : List S58)).length) 2 ((x5 ++ ([(⟨x4, x6⟩ : S58)] : List S58)).length * 2))), (10, (I x4)), (23, (.sl true a0.length 2 (a0.flatMap (e28 true)))), (24, (I (a0.length : Int))), (25, (I x4)), (36, (.sl true (((at_ a0 x4).f1.drop (0 : Int).toNat).take ((wrap64 (((at_ a0 x4).f1.length : Int) - 1)).toNat - (0 : Int).toNat)).length 3 ((((at_ a0 x4).f1.drop (0 : Int).toNat).take ((wrap64 (((at_ a0 x4).f1.length : Int) - 1)).toNat - (0 : Int).toNat)).flatMap e54))), (37, (I ((((at_ a0 x4).f1.drop (0 : Int).toNat).take ((wrap64 (((at_ a0 x4).f1.length : Int) - 1)).toNat - (0 : Int).toNat)).length : Int))), (38, (I (wrap64 (x6 + 1))))] [(256, [(.sl true a0.length 2 (a0.flatMap (e28 true)))]), (1024, ((x5 ++ ([(⟨x4, x6⟩ : S58)] : List S58)).flatMap e58))] (shc 256 (a2c (.z (frz_sl (e28_ok true) (fun h => h))) a2n) (shc 1024 (rowF e58_ok _) shn)) (enc_ (.z .s) (enc_ (.z .s) (enc_ (.z .s) (enc_ (.pt (memP_mem (p := (256, 256)) rfl)) (enc_ (.rf (memP_mem (p := (1024, 1024)) rfl)) (enc_ (.z .s) (enc_ (.z (frz_sl (e28_ok true) (fun h => h))) (enc_ (.z .s) (enc_ (.z .s) (enc_ (.z (frz_sl e54_ok (fun h => h))) (enc_ (.z .s) (enc_ (.z .s) enn)))))))))))) ?_
              exact ih1 a0 a1 a2 a3 x4 (x5 ++ ([(⟨x4, x6⟩ : S58)] : List S58)) (wrap64 (x6 + 1)) _ h
            · rw [if_neg c11] at h
              cases h
          · rw [if_neg c10] at h
            refine .cond' (.tmp 52) false [c_ 501351, l_ 31334, b_ 2, b_ 1, c_ 1959, l_ 122, b_ 0, c_ 31] (bF (dF c10)) ?_
            refine .reg' [1, 2, 3, 4, 9, 10, 23, 24, 25, 36, 37, 38] [] ⟨[(1, (I a1)), (2, (I a2)), (3, (I a3)), (4, (.pt 256 0 1)), (9, (.rf 1024 0 x5.length 2 (x5.length * 2))), (10, (I x4)), (23, (.sl true a0.length 2 (a0.flatMap (e28 true)))), (24, (I (a0.length : Int))), (25, (I x4)), (36, (.sl true (((at_ a0 x4).f1.drop (0 : Int).toNat).take ((wrap64 (((at_ a0 x4).f1.length : Int) - 1)).toNat - (0 : Int).toNat)).length 3 ((((at_ a0 x4).f1.drop (0 : Int).toNat).take ((wrap64 (((at_ a0 x4).f1.length : Int) - 1)).toNat - (0 : Int).toNat)).flatMap e54))), (37, (I ((((at_ a0 x4).f1.drop (0 : Int).toNat).take ((wrap64 (((at_ a0 x4).f1.length : Int) - 1)).toNat - (0 : Int).toNat)).length : Int))), (38, (I (wrap64 (x6 + 1))))], [(256, [(.sl true a0.length 2 (a0.flatMap (e28 true)))]), (1024, (x5.flatMap e58)), (2563, [(I (at_ (((at_ a0 x4).f1.drop (0 : Int).toNat).take ((wrap64 (((at_ a0 x4).f1.length : Int) - 1)).toNat - (0 : Int).toNat)) x6).f0), (I (at_ (((at_ a0 x4).f1.drop (0 : Int).toNat).take ((wrap64 (((at_ a0 x4).f1.length : Int) - 1)).toNat - (0 : Int).toNat)) x6).f1), (I (at_ (((at_ a0 x4).f1.drop (0 : Int).toNat).take ((wrap64 (((at_ a0 x4).f1.length : Int) - 1)).toNat - (0 : Int).toNat)) x6).f2)])], [], []⟩ [l_ 31334, b_ 2, b_ 1, c_ 1959, l_ 122, b_ 0, c_ 31] aln nocal ?_
            refine .wk' [] [(256, 256), (1024, 1024)] [(1, (I a1)), (2, (I a2)), (3, (I a3)), (4, (.pt 256 0 1)), (9, (.rf 1024 0 x5.length 2 (x5.length * 2))), (10, (I x4)), (23, (.sl true a0.length 2 (a0.flatMap (e28 true)))), (24, (I (a0.length : Int))), (25, (I x4)), (36, (.sl true (((at_ a0 x4).f1.drop (0 : Int).toNat).take ((wrap64 (((at_ a0 x4).f1.length : Int) - 1)).toNat - (0 : Int).toNat)).length 3 ((((at_ a0 x4).f1.drop (0 : Int).toNat).take ((wrap64 (((at_ a0 x4).f1.length : Int) - 1)).toNat - (0 : Int).toNat)).flatMap e54))), (37, (I ((((at_ a0 x4).f1.drop (0 : Int).toNat).take ((wrap64 (((at_ a0 x4).f1.length : Int) - 1)).toNat - (0 : Int).toNat)).length : Int))), (38, (I (wrap64 (x6 + 1))))] [(256, [(.sl true a0.length 2 (a0.flatMap (e28 true)))]), (1024, (x5.flatMap e58))] (shc 256 (a2c (.z (frz_sl (e28_ok true) (fun h => h))) a2n) (shc 1024 (rowF e58_ok _) shn)) (enc_ (.z .s) (enc_ (.z .s) (enc_ (.z .s) (enc_ (.pt (memP_mem (p := (256, 256)) rfl)) (enc_ (.rf (memP_mem (p := (1024, 1024)) rfl)) (enc_ (.z .s) (enc_ (.z (frz_sl (e28_ok true) (fun h => h))) (enc_ (.z .s) (enc_ (.z .s) (enc_ (.z (frz_sl e54_ok (fun h => h))) (enc_ (.z .s) (enc_ (.z .s) enn)))))))))))) ?_
            exact ih1 a0 a1 a2 a3 x4 x5 (wrap64 (x6 + 1)) _ h
        · rw [if_neg c9] at h
          refine .reg' [1, 2, 3, 4, 9, 10, 12, 23, 24, 25, 36, 37, 38, 52] [.no, .no, .no, .no, .v (B false)] ⟨[(1, (I a1)), (2, (I a2)), (3, (I a3)), (4, (.pt 256 0 1)), (9, (.rf 1024 0 x5.length 2 (x5.length * 2))), (10, (I x4)), (12, (I x6)), (23, (.sl true a0.length 2 (a0.flatMap (e28 true)))), (24, (I (a0.length : Int))), (25, (I x4)), (36, (.sl true (((at_ a0 x4).f1.drop (0 : Int).toNat).take ((wrap64 (((at_ a0 x4).f1.length : Int) - 1)).toNat - (0 : Int).toNat)).length 3 ((((at_ a0 x4).f1.drop (0 : Int).toNat).take ((wrap64 (((at_ a0 x4).f1.length : Int) - 1)).toNat - (0 : Int).toNat)).flatMap e54))), (37, (I ((((at_ a0 x4).f1.drop (0 : Int).toNat).take ((wrap64 (((at_ a0 x4).f1.length : Int) - 1)).toNat - (0 : Int).toNat)).length : Int))), (38, (I x6)), (52, (B false))], [(256, [(.sl true a0.length 2 (a0.flatMap (e28 true)))]), (1024, (x5.flatMap e58)), (2563, [(I (at_ (((at_ a0 x4).f1.drop (0 : Int).toNat).take ((wrap64 (((at_ a0 x4).f1.length : Int) - 1)).toNat - (0 : Int).toNat)) x6).f0), (I (at_ (((at_ a0 x4).f1.drop (0 : Int).toNat).take ((wrap64 (((at_ a0 x4).f1.length : Int) - 1)).toNat - (0 : Int).toNat)) x6).f1), (I (at_ (((at_ a0 x4).f1.drop (0 : Int).toNat).take ((wrap64 (((at_ a0 x4).f1.length : Int) - 1)).toNat - (0 : Int).toNat)) x6).f2)])], [3 = 3 ∧ 0 + 1 ≤ 3, (B ((at_ (((at_ a0 x4).f1.drop (0 : Int).toNat).take ((wrap64 (((at_ a0 x4).f1.length : Int) - 1)).toNat - (0 : Int).toNat)) x6).f0 == a1) : V) = B false], []⟩ [c_ 4010803, b_ 3, c_ 501351, l_ 31334, b_ 2, b_ 1, c_ 1959, l_ 122, b_ 0, c_ 31] (alc ⟨rfl, by decide⟩ (alc (bF (qF c9)) aln)) nocal ?_
          refine .cond' (.tmp 52) false [c_ 501351, l_ 31334, b_ 2, b_ 1, c_ 1959, l_ 122, b_ 0, c_ 31] (rfl) ?_
          refine .reg' [1, 2, 3, 4, 9, 10, 23, 24, 25, 36, 37, 38] [] ⟨[(1, (I a1)), (2, (I a2)), (3, (I a3)), (4, (.pt 256 0 1)), (9, (.rf 1024 0 x5.length 2 (x5.length * 2))), (10, (I x4)), (23, (.sl true a0.length 2 (a0.flatMap (e28 true)))), (24, (I (a0.length : Int))), (25, (I x4)), (36, (.sl true (((at_ a0 x4).f1.drop (0 : Int).toNat).take ((wrap64 (((at_ a0 x4).f1.length : Int) - 1)).toNat - (0 : Int).toNat)).length 3 ((((at_ a0 x4).f1.drop (0 : Int).toNat).take ((wrap64 (((at_ a0 x4).f1.length : Int) - 1)).toNat - (0 : Int).toNat)).flatMap e54))), (37, (I ((((at_ a0 x4).f1.drop (0 : Int).toNat).take ((wrap64 (((at_ a0 x4).f1.length : Int) - 1)).toNat - (0 : Int).toNat)).length : Int))), (38, (I (wrap64 (x6 + 1))))], [(256, [(.sl true a0.length 2 (a0.flatMap (e28 true)))]), (1024, (x5.flatMap e58)), (2563, [(I (at_ (((at_ a0 x4).f1.drop (0 : Int).toNat).take ((wrap64 (((at_ a0 x4).f1.length : Int) - 1)).toNat - (0 : Int).toNat)) x6).f0), (I (at_ (((at_ a0 x4).f1.drop (0 : Int).toNat).take ((wrap64 (((at_ a0 x4).f1.length : Int) - 1)).toNat - (0 : Int).toNat)) x6).f1), (I (at_ (((at_ a0 x4).f1.drop (0 : Int).toNat).take ((wrap64 (((at_ a0 x4).f1.length : Int) - 1)).toNat - (0 : Int).toNat)) x6).f2)])], [], []⟩ [l_ 31334, b_ 2, b_ 1, c_ 1959, l_ 122, b_ 0, c_ 31] aln nocal ?_
          refine .wk' [] [(256, 256), (1024, 1024)] [(1, (I a1)), (2, (I a2)), (3, (I a3)), (4, (.pt 256 0 1)), (9, (.rf 1024 0 x5.length 2 (x5.length * 2))), (10, (I x4)), (23, (.sl true a0.length 2 (a0.flatMap (e28 true)))), (24, (I (a0.length : Int))), (25, (I x4)), (36, (.sl true (((at_ a0 x4).f1.drop (0 : Int).toNat).take ((wrap64 (((at_ a0 x4).f1.length : Int) - 1)).toNat - (0 : Int).toNat)).length 3 ((((at_ a0 x4).f1.drop (0 : Int).toNat).take ((wrap64 (((at_ a0 x4).f1.length : Int) - 1)).toNat - (0 : Int).toNat)).flatMap e54))), (37, (I ((((at_ a0 x4).f1.drop (0 : Int).toNat).take ((wrap64 (((at_ a0 x4).f1.length : Int) - 1)).toNat - (0 : Int).toNat)).length : Int))), (38, (I (wrap64 (x6 + 1))))] [(256, [(.sl true a0.length 2 (a0.flatMap (e28 true)))]), (1024, (x5.flatMap e58))] (shc 256 (a2c (.z (frz_sl (e28_ok true) (fun h => h))) a2n) (shc 1024 (rowF e58_ok _) shn)) (enc_ (.z .s) (enc_ (.z .s) (enc_ (.z .s) (enc_ (.pt (memP_mem (p := (256, 256)) rfl)) (enc_ (.rf (memP_mem (p := (1024, 1024)) rfl)) (enc_ (.z .s) (enc_ (.z (frz_sl (e28_ok true) (fun h => h))) (enc_ (.z .s) (enc_ (.z .s) (enc_ (.z (frz_sl e54_ok (fun h => h))) (enc_ (.z .s) (enc_ (.z .s) enn)))))))))))) ?_
          exact ih1 a0 a1 a2 a3 x4 x5 (wrap64 (x6 + 1)) _ h
      · rw [if_neg c8] at h
        cases h
    · rw [if_neg c7] at h
      refine .cond' (.tmp 39) false [c_ 1959, l_ 122, b_ 0, c_ 31] (bF (dF c7)) ?_
      refine .reg' [1, 2, 3, 4, 9, 23, 24, 25] [] ⟨[(1, (I a1)), (2, (I a2)), (3, (I a3)), (4, (.pt 256 0 1)), (9, (.rf 1024 0 x5.length 2 (x5.length * 2))), (23, (.sl true a0.length 2 (a0.flatMap (e28 true)))), (24, (I (a0.length : Int))), (25, (I (wrap64 (x4 + 1))))], [(256, [(.sl true a0.length 2 (a0.flatMap (e28 true)))]), (1024, (x5.flatMap e58))], [], []⟩ [l_ 122, b_ 0, c_ 31] aln nocal ?_
      exact ih0 a0 a1 a2 a3 x5 (wrap64 (x4 + 1)) _ h
theorem impl_Board.J (k : Nat) (a0 : (List S28)) (a1 : Int) (a2 : Int) (a3 : Int) (r : (List S58)) (h : impl_Board.f k a0 a1 a2 a3 = some r) : J prog (.call 30 [(.sl true a0.length 2 (a0.flatMap (e28 true))), (I a1), (I a2), (I a3)] [] (.rf 4096 0 r.length 2 (r.length * 2)) [(4096, (r.flatMap e58))]) := by
  unfold impl_Board.f at h
  obtain ⟨ih0, ih1⟩ := impl_Board.lab k
  refine .call' [c_ 2, c_ 3] ?_
  refine .reg' [1, 2, 3, 4] [] ⟨[(1, (I a1)), (2, (I a2)), (3, (I a3)), (4, (.pt 256 0 1))], [(256, [(.sl true a0.length 2 (a0.flatMap (e28 true)))])], [], []⟩ [c_ 12, c_ 13, c_ 7] aln nocal ?_
  obtain ⟨x1, hx1, h⟩ := Option.bind_eq_some_iff.mp h
  by_cases c1 : x1 = true
  · rw [if_pos c1] at h
    obtain ⟨x2, hx2, h⟩ := Option.bind_eq_some_iff.mp h
    refine .reg' [1, 2, 3, 4, 21] [.no, .c ⟨21, [(.sl true a0.length 2 (a0.flatMap (e28 true)))], [], (B x1), [], [], [], [], (B x1), []⟩, .no, .v (B false), .no, .c ⟨44, [(I a3), (I 0), (I 50)], [], (B x2), [], [], [], [], (B x2), []⟩] ⟨[(1, (I a1)), (2, (I a2)), (3, (I a3)), (4, (.pt 256 0 1)), (21, (B (!x2)))], [(256, [(.sl true a0.length 2 (a0.flatMap (e28 true)))])], [1 = 1 ∧ 0 + 1 ≤ 1, COK (hget [(256, [(.sl true a0.length 2 (a0.flatMap (e28 true)))])]) [(.sl true a0.length 2 (a0.flatMap (e28 true)))] ⟨21, [(.sl true a0.length 2 (a0.flatMap (e28 true)))], [], (B x1), [], [], [], [], (B x1), []⟩, (B (!x1) : V) = B false, COK (hget [(256, [(.sl true a0.length 2 (a0.flatMap (e28 true)))])]) [(I a3), (I 0), (I 50)] ⟨44, [(I a3), (I 0), (I 50)], [], (B x2), [], [], [], [], (B x2), []⟩], [⟨21, [(.sl true a0.length 2 (a0.flatMap (e28 true)))], [], (B x1), [], [], [], [], (B x1), []⟩, ⟨44, [(I a3), (I 0), (I 50)], [], (B x2), [], [], [], [], (B x2), []⟩]⟩ [c_ 13, c_ 7] (alc ⟨rfl, by decide⟩ (alc (cok0 false (a2c (.z (frz_sl (e28_ok true) (fun h => h))) a2n) (.z .s) (fun h => absurd h (by decide))) (alc (bF (nF c1)) (alc (cok0 false (a2c (.z .s) (a2c (.z .s) (a2c (.z .s) a2n))) (.z .s) (fun h => absurd h (by decide))) aln)))) (acal (impl_TableOk.J k a0 _ hx1) (acal (impl_between.J a3 0 50 _ hx2) nocal)) ?_
    by_cases c2 : x2 = true
    · rw [if_pos c2] at h
      refine .cond' (.tmp 21) false [c_ 14, c_ 15] (bF (nF c2)) ?_
      refine .reg' [1, 2, 3, 4, 9] [] ⟨[(1, (I a1)), (2, (I a2)), (3, (I a3)), (4, (.pt 256 0 1)), (9, (.rf 1024 0 (([] : List S58).length) 2 (([] : List S58).length * 2)))], [(256, [(.sl true a0.length 2 (a0.flatMap (e28 true)))]), (1024, (([] : List S58).flatMap e58))], [], []⟩ [c_ 60, c_ 61, c_ 31] aln nocal ?_
      refine .reg' [1, 2, 3, 4, 9, 23, 24, 25] [] ⟨[(1, (I a1)), (2, (I a2)), (3, (I a3)), (4, (.pt 256 0 1)), (9, (.rf 1024 0 (([] : List S58).length) 2 (([] : List S58).length * 2))), (23, (.sl true a0.length 2 (a0.flatMap (e28 true)))), (24, (I (a0.length : Int))), (25, (I 0))], [(256, [(.sl true a0.length 2 (a0.flatMap (e28 true)))]), (1024, (([] : List S58).flatMap e58))], [1 = 1 ∧ 0 + 1 ≤ 1], []⟩ [l_ 122, b_ 0, c_ 31] (alc ⟨rfl, by decide⟩ aln) nocal ?_
      exact ih0 a0 a1 a2 a3 ([] : List S58) 0 _ h
    · rw [if_neg c2] at h
      refine .cond' (.tmp 21) true [c_ 52, c_ 53, c_ 7] (bT (nT (vF c2))) ?_
      refine .reg' [8] [] ⟨[(8, nilS)], [(256, [(.sl true a0.length 2 (a0.flatMap (e28 true)))])], [], []⟩ [c_ 53, c_ 7] aln nocal ?_
      have h := Option.some.inj h
      subst h
      refine .nl' 4096 ?_
      exact .fin' [] [(4096, 4096)] nilS [] aln (shc 4096 (rowF e58_ok _) shn) (.nl (memP_mem (p := (4096, 4096)) rfl) rfl)
  · rw [if_neg c1] at h
    refine .reg' [1, 2, 3, 4, 21] [.no, .c ⟨21, [(.sl true a0.length 2 (a0.flatMap (e28 true)))], [], (B x1), [], [], [], [], (B x1), []⟩, .no, .v (B true)] ⟨[(1, (I a1)), (2, (I a2)), (3, (I a3)), (4, (.pt 256 0 1)), (21, (B true))], [(256, [(.sl true a0.length 2 (a0.flatMap (e28 true)))])], [1 = 1 ∧ 0 + 1 ≤ 1, COK (hget [(256, [(.sl true a0.length 2 (a0.flatMap (e28 true)))])]) [(.sl true a0.length 2 (a0.flatMap (e28 true)))] ⟨21, [(.sl true a0.length 2 (a0.flatMap (e28 true)))], [], (B x1), [], [], [], [], (B x1), []⟩, (B (!x1) : V) = B true], [⟨21, [(.sl true a0.length 2 (a0.flatMap (e28 true)))], [], (B x1), [], [], [], [], (B x1), []⟩]⟩ [c_ 13, c_ 7] (alc ⟨rfl, by decide⟩ (alc (cok0 false (a2c (.z (frz_sl (e28_ok true) (fun h => h))) a2n) (.z .s) (fun h => absurd h (by decide))) (alc (bT (nT (vF c1))) aln))) (acal (impl_TableOk.J k a0 _ hx1) nocal) ?_
    refine .cond' (.tmp 21) true [c_ 52, c_ 53, c_ 7] (rfl) ?_
    refine .reg' [8] [] ⟨[(8, nilS)], [(256, [(.sl true a0.length 2 (a0.flatMap (e28 true)))])], [], []⟩ [c_ 53, c_ 7] aln nocal ?_
    have h := Option.some.inj h
    subst h
    refine .nl' 4096 ?_
    exact .fin' [] [(4096, 4096)] nilS [] aln (shc 4096 (rowF e58_ok _) shn) (.nl (memP_mem (p := (4096, 4096)) rfl) rfl)
/-! laws_eqEntry: function 55 -/
def laws_eqEntry.f (a0 : S58) (a1 : S58) : Option Bool := (if a0.f0 = a1.f0 then (if a0.f1 = a1.f1 then (some true) else (some false)) else (some false))
theorem laws_eqEntry.J (a0 : S58) (a1 : S58) (r : Bool) (h : laws_eqEntry.f a0 a1 = some r) : J prog (.call 55 [(.ag [(I a0.f0), (I a0.f1)]), (.ag [(I a1.f0), (I a1.f1)])] [] (B r) []) := by
  unfold laws_eqEntry.f at h
  refine .call' [c_ 2, c_ 3] ?_
  refine .reg' [2, 3] [] ⟨[(2, (.pt 256 0 2)), (3, (.pt 257 0 2))], [(256, [(I a0.f0), (I a0.f1)]), (257, [(I a1.f0), (I a1.f1)])], [], []⟩ [c_ 12, c_ 13, c_ 7] aln nocal ?_
  refine .reg' [2, 3, 9] [] ⟨[(2, (.pt 256 0 2)), (3, (.pt 257 0 2)), (9, (B (!(a0.f0 == a1.f0))))], [(256, [(I a0.f0), (I a0.f1)]), (257, [(I a1.f0), (I a1.f1)])], [2 = 2 ∧ 0 + 1 ≤ 2, 2 = 2 ∧ 0 + 1 ≤ 2], []⟩ [c_ 13, c_ 7] (alc ⟨rfl, by decide⟩ (alc ⟨rfl, by decide⟩ aln)) nocal ?_
  by_cases c1 : a0.f0 = a1.f0
  · rw [if_pos c1] at h
    refine .cond' (.tmp 9) false [c_ 28, c_ 29, c_ 15] (bF (nF (qT c1))) ?_
    refine .reg' [14] [] ⟨[(14, (B (!(a0.f1 == a1.f1))))], [(256, [(I a0.f0), (I a0.f1)]), (257, [(I a1.f0), (I a1.f1)])], [2 = 2 ∧ 1 + 1 ≤ 2, 2 = 2 ∧ 1 + 1 ≤ 2], []⟩ [c_ 29, c_ 15] (alc ⟨rfl, by decide⟩ (alc ⟨rfl, by decide⟩ aln)) nocal ?_
    by_cases c2 : a0.f1 = a1.f1
    · rw [if_pos c2] at h
      refine .cond' (.tmp 14) false [c_ 30, c_ 31] (bF (nF (qT c2))) ?_
      refine .reg' [4] [] ⟨[(4, (B true))], [(256, [(I a0.f0), (I a0.f1)]), (257, [(I a1.f0), (I a1.f1)])], [], []⟩ [c_ 31] aln nocal ?_
      have h := Option.some.inj h
      subst h
      exact .fin0 [] (B true) [] aln (.z .s)
    · rw [if_neg c2] at h
      refine .cond' (.tmp 14) true [c_ 116, c_ 117, c_ 15] (bT (nT (qF c2))) ?_
      refine .reg' [4] [] ⟨[(4, (B false))], [(256, [(I a0.f0), (I a0.f1)]), (257, [(I a1.f0), (I a1.f1)])], [], []⟩ [c_ 117, c_ 15] aln nocal ?_
      have h := Option.some.inj h
      subst h
      exact .fin0 [] (B false) [] aln (.z .s)
  · rw [if_neg c1] at h
    refine .cond' (.tmp 9) true [c_ 52, c_ 53, c_ 7] (bT (nT (qF c1))) ?_
    refine .reg' [4] [] ⟨[(4, (B false))], [(256, [(I a0.f0), (I a0.f1)]), (257, [(I a1.f0), (I a1.f1)])], [], []⟩ [c_ 53, c_ 7] aln nocal ?_
    have h := Option.some.inj h
    subst h
    exact .fin0 [] (B false) [] aln (.z .s)
/-! laws_eqEntryS: function 31 -/
def laws_eqEntryS.l0 : Nat → (List S58) → (List S58) → Int → Option Bool
 | 0, _, _, _ => none
 | k + 1, a0, a1, x1 => (if x1 < (a0.length : Int) then (if 0 ≤ x1 then (if x1 < (a1.length : Int) then ((laws_eqEntry.f (at_ a0 x1) (at_ a1 x1)).bind fun x2 => (if x2 = true then (laws_eqEntryS.l0 k a0 a1 (wrap64 (x1 + 1))) else (some false))) else none) else none) else (some true))
def laws_eqEntryS.f (k : Nat) (a0 : (List S58)) (a1 : (List S58)) : Option Bool := (if (a0.length : Int) = (a1.length : Int) then (laws_eqEntryS.l0 k a0 a1 0) else (some false))
theorem laws_eqEntryS.lab : ∀ k, (∀ (a0 : (List S58)) (a1 : (List S58)) (x1 : Int) (r : Bool), laws_eqEntryS.l0 k a0 a1 x1 = some r → J prog (.run 31 [] [l_ 58, b_ 0, c_ 15] [(0, (.sl true a0.length 2 (a0.flatMap e58))), (1, (.sl true a1.length 2 (a1.flatMap e58))), (5, (I x1))] [] (B r) []))
 | 0 => (by intro a0 a1 x1 r h; unfold laws_eqEntryS.l0 at h; cases h)
 | k + 1 => by
  have ih0 := laws_eqEntryS.lab k
  · intro a0 a1 x1 r h
    unfold laws_eqEntryS.l0 at h
    refine .loop' [c_ 464, c_ 465, c_ 233, l_ 58, b_ 0, c_ 15] ?_
    refine .reg' [0, 1, 5, 14] [] ⟨[(0, (.sl true a0.length 2 (a0.flatMap e58))), (1, (.sl true a1.length 2 (a1.flatMap e58))), (5, (I x1)), (14, (B (decide (x1 < (a0.length : Int)))))], [], [], []⟩ [c_ 465, c_ 233, l_ 58, b_ 0, c_ 15] aln nocal ?_
    by_cases c2 : x1 < (a0.length : Int)
    · rw [if_pos c2] at h
      refine .cond' (.tmp 14) true [c_ 1864, c_ 1865, b_ 1, c_ 467, l_ 58, b_ 0, c_ 15] (bT (dT c2)) ?_
      by_cases c3 : 0 ≤ x1
      · rw [if_pos c3] at h
        by_cases c4 : x1 < (a1.length : Int)
        · rw [if_pos c4] at h
          obtain ⟨x2, hx2, h⟩ := Option.bind_eq_some_iff.mp h
          refine .reg' [0, 1, 5, 26] [.no, .no, .no, .v (.ag [(I (at_ a0 x1).f0), (I (at_ a0 x1).f1)]), .no, .no, .no, .v (.ag [(I (at_ a1 x1).f0), (I (at_ a1 x1).f1)]), .c ⟨55, [(.ag [(I (at_ a0 x1).f0), (I (at_ a0 x1).f1)]), (.ag [(I (at_ a1 x1).f0), (I (at_ a1 x1).f1)])], [], (B x2), [], [], [], [], (B x2), []⟩] ⟨[(0, (.sl true a0.length 2 (a0.flatMap e58))), (1, (.sl true a1.length 2 (a1.flatMap e58))), (5, (I x1)), (26, (B (!x2)))], [], [(0 : Int) ≤ x1 ∧ x1 < (a0.length : Int), rdC prog 59 ((a0.flatMap e58).drop (x1.toNat * 2)) = (.ag [(I (at_ a0 x1).f0), (I (at_ a0 x1).f1)]), 2 ≤ ((a0.flatMap e58).drop (x1.toNat * 2)).length, (0 : Int) ≤ x1 ∧ x1 < (a1.length : Int), rdC prog 59 ((a1.flatMap e58).drop (x1.toNat * 2)) = (.ag [(I (at_ a1 x1).f0), (I (at_ a1 x1).f1)]), 2 ≤ ((a1.flatMap e58).drop (x1.toNat * 2)).length, COK (hget []) [(.ag [(I (at_ a0 x1).f0), (I (at_ a0 x1).f1)]), (.ag [(I (at_ a1 x1).f0), (I (at_ a1 x1).f1)])] ⟨55, [(.ag [(I (at_ a0 x1).f0), (I (at_ a0 x1).f1)]), (.ag [(I (at_ a1 x1).f0), (I (at_ a1 x1).f1)])], [], (B x2), [], [], [], [], (B x2), []⟩], [⟨55, [(.ag [(I (at_ a0 x1).f0), (I (at_ a0 x1).f1)]), (.ag [(I (at_ a1 x1).f0), (I (at_ a1 x1).f1)])], [], (B x2), [], [], [], [], (B x2), []⟩]⟩ [c_ 1865, b_ 1, c_ 467, l_ 58, b_ 0, c_ 15] (alc ⟨c3, c2⟩ (alc (ldA e58_ok rfl rfl c3 c2) (alc (okI e58_ok c3 c2 (by decide)) (alc ⟨c3, c4⟩ (alc (ldA e58_ok rfl rfl c3 c4) (alc (okI e58_ok c3 c4 (by decide)) (alc (cok0 false (a2c (.z (frz_ag (a2c .s (a2c .s a2n)))) (a2c (.z (frz_ag (a2c .s (a2c .s a2n)))) a2n)) (.z .s) (fun h => absurd h (by decide))) aln))))))) (acal (laws_eqEntry.J (at_ a0 x1) (at_ a1 x1) _ hx2) nocal) ?_
          by_cases c5 : x2 = true
          · rw [if_pos c5] at h
            refine .cond' (.tmp 26) false [c_ 467, l_ 58, b_ 0, c_ 15] (bF (nF c5)) ?_
            refine .reg' [0, 1, 5] [] ⟨[(0, (.sl true a0.length 2 (a0.flatMap e58))), (1, (.sl true a1.length 2 (a1.flatMap e58))), (5, (I (wrap64 (x1 + 1))))], [], [], []⟩ [l_ 58, b_ 0, c_ 15] aln nocal ?_
            exact ih0 a0 a1 (wrap64 (x1 + 1)) _ h
          · rw [if_neg c5] at h
            refine .cond' (.tmp 26) true [c_ 7460, c_ 7461, b_ 1, c_ 467, l_ 58, b_ 0, c_ 15] (bT (nT (vF c5))) ?_
            refine .reg' [4] [] ⟨[(4, (B false))], [], [], []⟩ [c_ 7461, b_ 1, c_ 467, l_ 58, b_ 0, c_ 15] aln nocal ?_
            have h := Option.some.inj h
            subst h
            exact .fin0 [] (B false) [] aln (.z .s)
        · rw [if_neg c4] at h
          cases h
      · rw [if_neg c3] at h
        cases h
    · rw [if_neg c2] at h
      refine .cond' (.tmp 14) false [c_ 30, c_ 31] (bF (dF c2)) ?_
      refine .reg' [4] [] ⟨[(4, (B true))], [], [], []⟩ [c_ 31] aln nocal ?_
      have h := Option.some.inj h
      subst h
      exact .fin0 [] (B true) [] aln (.z .s)
theorem laws_eqEntryS.J (k : Nat) (a0 : (List S58)) (a1 : (List S58)) (r : Bool) (h : laws_eqEntryS.f k a0 a1 = some r) : J prog (.call 31 [(.sl true a0.length 2 (a0.flatMap e58)), (.sl true a1.length 2 (a1.flatMap e58))] [] (B r) []) := by
  unfold laws_eqEntryS.f at h
  have ih0 := laws_eqEntryS.lab k
  refine .call' [c_ 2, c_ 3] ?_
  refine .reg' [0, 1] [] ⟨[(0, (.sl true a0.length 2 (a0.flatMap e58))), (1, (.sl true a1.length 2 (a1.flatMap e58)))], [], [], []⟩ [c_ 12, c_ 13, c_ 7] aln nocal ?_
  refine .reg' [0, 1, 10] [] ⟨[(0, (.sl true a0.length 2 (a0.flatMap e58))), (1, (.sl true a1.length 2 (a1.flatMap e58))), (10, (B (!((a0.length : Int) == (a1.length : Int)))))], [], [], []⟩ [c_ 13, c_ 7] aln nocal ?_
  by_cases c1 : (a0.length : Int) = (a1.length : Int)
  · rw [if_pos c1] at h
    refine .cond' (.tmp 10) false [c_ 28, c_ 29, c_ 15] (bF (nF (qT c1))) ?_
    refine .reg' [0, 1, 5] [] ⟨[(0, (.sl true a0.length 2 (a0.flatMap e58))), (1, (.sl true a1.length 2 (a1.flatMap e58))), (5, (I 0))], [], [], []⟩ [l_ 58, b_ 0, c_ 15] aln nocal ?_
    exact ih0 a0 a1 0 _ h
  · rw [if_neg c1] at h
    refine .cond' (.tmp 10) true [c_ 52, c_ 53, c_ 7] (bT (nT (qF c1))) ?_
    refine .reg' [4] [] ⟨[(4, (B false))], [], [], []⟩ [c_ 53, c_ 7] aln nocal ?_
    have h := Option.some.inj h
    subst h
    exact .fin0 [] (B false) [] aln (.z .s)
/-! laws_eqCall: function 62 -/
def laws_eqCall.f (a0 : S54) (a1 : S54) : Option Bool := (if a0.f0 = a1.f0 then (if a0.f1 = a1.f1 then (if a0.f2 = a1.f2 then (some true) else (some false)) else (some false)) else (some false))
theorem laws_eqCall.J (a0 : S54) (a1 : S54) (r : Bool) (h : laws_eqCall.f a0 a1 = some r) : J prog (.call 62 [(.ag [(I a0.f0), (I a0.f1), (I a0.f2)]), (.ag [(I a1.f0), (I a1.f1), (I a1.f2)])] [] (B r) []) := by
  unfold laws_eqCall.f at h
  refine .call' [c_ 2, c_ 3] ?_
  refine .reg' [2, 3] [] ⟨[(2, (.pt 256 0 3)), (3, (.pt 257 0 3))], [(256, [(I a0.f0), (I a0.f1), (I a0.f2)]), (257, [(I a1.f0), (I a1.f1), (I a1.f2)])], [], []⟩ [c_ 12, c_ 13, c_ 7] aln nocal ?_
  refine .reg' [2, 3, 9] [] ⟨[(2, (.pt 256 0 3)), (3, (.pt 257 0 3)), (9, (B (!(a0.f0 == a1.f0))))], [(256, [(I a0.f0), (I a0.f1), (I a0.f2)]), (257, [(I a1.f0), (I a1.f1), (I a1.f2)])], [3 = 3 ∧ 0 + 1 ≤ 3, 3 = 3 ∧ 0 + 1 ≤ 3], []⟩ [c_ 13, c_ 7] (alc ⟨rfl, by decide⟩ (alc ⟨rfl, by decide⟩ aln)) nocal ?_
  by_cases c1 : a0.f0 = a1.f0
  · rw [if_pos c1] at h
    refine .cond' (.tmp 9) false [c_ 28, c_ 29, c_ 15] (bF (nF (qT c1))) ?_
    refine .reg' [2, 3, 14] [] ⟨[(2, (.pt 256 0 3)), (3, (.pt 257 0 3)), (14, (B (!(a0.f1 == a1.f1))))], [(256, [(I a0.f0), (I a0.f1), (I a0.f2)]), (257, [(I a1.f0), (I a1.f1), (I a1.f2)])], [3 = 3 ∧ 1 + 1 ≤ 3, 3 = 3 ∧ 1 + 1 ≤ 3], []⟩ [c_ 29, c_ 15] (alc ⟨rfl, by decide⟩ (alc ⟨rfl, by decide⟩ aln)) nocal ?_
    by_cases c2 : a0.f1 = a1.f1
    · rw [if_pos c2] at h
      refine .cond' (.tmp 14) false [c_ 60, c_ 61, c_ 31] (bF (nF (qT c2))) ?_
      refine .reg' [19] [] ⟨[(19, (B (!(a0.f2 == a1.f2))))], [(256, [(I a0.f0), (I a0.f1), (I a0.f2)]), (257, [(I a1.f0), (I a1.f1), (I a1.f2)])], [3 = 3 ∧ 2 + 1 ≤ 3, 3 = 3 ∧ 2 + 1 ≤ 3], []⟩ [c_ 61, c_ 31] (alc ⟨rfl, by decide⟩ (alc ⟨rfl, by decide⟩ aln)) nocal ?_
      by_cases c3 : a0.f2 = a1.f2
      · rw [if_pos c3] at h
        refine .cond' (.tmp 19) false [c_ 62, c_ 63] (bF (nF (qT c3))) ?_
        refine .reg' [4] [] ⟨[(4, (B true))], [(256, [(I a0.f0), (I a0.f1), (I a0.f2)]), (257, [(I a1.f0), (I a1.f1), (I a1.f2)])], [], []⟩ [c_ 63] aln nocal ?_
        have h := Option.some.inj h
        subst h
        exact .fin0 [] (B true) [] aln (.z .s)
      · rw [if_neg c3] at h
        refine .cond' (.tmp 19) true [c_ 244, c_ 245, c_ 31] (bT (nT (qF c3))) ?_
        refine .reg' [4] [] ⟨[(4, (B false))], [(256, [(I a0.f0), (I a0.f1), (I a0.f2)]), (257, [(I a1.f0), (I a1.f1), (I a1.f2)])], [], []⟩ [c_ 245, c_ 31] aln nocal ?_
        have h := Option.some.inj h
        subst h
        exact .fin0 [] (B false) [] aln (.z .s)
    · rw [if_neg c2] at h
      refine .cond' (.tmp 14) true [c_ 116, c_ 117, c_ 15] (bT (nT (qF c2))) ?_
      refine .reg' [4] [] ⟨[(4, (B false))], [(256, [(I a0.f0), (I a0.f1), (I a0.f2)]), (257, [(I a1.f0), (I a1.f1), (I a1.f2)])], [], []⟩ [c_ 117, c_ 15] aln nocal ?_
      have h := Option.some.inj h
      subst h
      exact .fin0 [] (B false) [] aln (.z .s)
  · rw [if_neg c1] at h
    refine .cond' (.tmp 9) true [c_ 52, c_ 53, c_ 7] (bT (nT (qF c1))) ?_
    refine .reg' [4] [] ⟨[(4, (B false))], [(256, [(I a0.f0), (I a0.f1), (I a0.f2)]), (257, [(I a1.f0), (I a1.f1), (I a1.f2)])], [], []⟩ [c_ 53, c_ 7] aln nocal ?_
    have h := Option.some.inj h
    subst h
    exact .fin0 [] (B false) [] aln (.z .s)
/-! laws_eqCallS: function 46 -/
def laws_eqCallS.l0 : Nat → (List S54) → (List S54) → Int → Option Bool
 | 0, _, _, _ => none
 | k + 1, a0, a1, x1 => (if x1 < (a0.length : Int) then (if 0 ≤ x1 then (if x1 < (a1.length : Int) then ((laws_eqCall.f (at_ a0 x1) (at_ a1 x1)).bind fun x2 => (if x2 = true then (laws_eqCallS.l0 k a0 a1 (wrap64 (x1 + 1))) else (some false))) else none) else none) else (some true))
def laws_eqCallS.f (k : Nat) (a0 : (List S54)) (a1 : (List S54)) : Option Bool := (if (a0.length : Int) = (a1.length : Int) then (laws_eqCallS.l0 k a0 a1 0) else (some false))
theorem laws_eqCallS.lab : ∀ k, (∀ (a0 : (List S54)) (a1 : (List S54)) (x1 : Int) (r : Bool), laws_eqCallS.l0 k a0 a1 x1 = some r → J prog (.run 46 [] [l_ 58, b_ 0, c_ 15] [(0, (.sl true a0.length 3 (a0.flatMap e54))), (1, (.sl true a1.length 3 (a1.flatMap e54))), (5, (I x1))] [] (B r) []))
 | 0 => (by intro a0 a1 x1 r h; unfold laws_eqCallS.l0 at h; cases h)
 | k + 1 => by
  have ih0 := laws_eqCallS.lab k
  · intro a0 a1 x1 r h
    unfold laws_eqCallS.l0 at h
    refine .loop' [c_ 464, c_ 465, c_ 233, l_ 58, b_ 0, c_ 15] ?_
    refine .reg' [0, 1, 5, 14] [] ⟨[(0, (.sl true a0.length 3 (a0.flatMap e54))), (1, (.sl true a1.length 3 (a1.flatMap e54))), (5, (I x1)), (14, (B (decide (x1 < (a0.length : Int)))))], [], [], []⟩ [c_ 465, c_ 233, l_ 58, b_ 0, c_ 15] aln nocal ?_
    by_cases c2 : x1 < (a0.length : Int)
    · rw [if_pos c2] at h
      refine .cond' (.tmp 14) true [c_ 1864, c_ 1865, b_ 1, c_ 467, l_ 58, b_ 0, c_ 15] (bT (dT c2)) ?_
      by_cases c3 : 0 ≤ x1
      · rw [if_pos c3] at h
        by_cases c4 : x1 < (a1.length : Int)
        · rw [if_pos c4] at h
          obtain ⟨x2, hx2, h⟩ := Option.bind_eq_some_iff.mp h
          refine .reg' [0, 1, 5, 26] [.no, .no, .no, .v (.ag [(I (at_ a0 x1).f0), (I (at_ a0 x1).f1), (I (at_ a0 x1).f2)]), .no, .no, .no, .v (.ag [(I (at_ a1 x1).f0), (I (at_ a1 x1).f1), (I (at_ a1 x1).f2)]), .c ⟨62, [(.ag [(I (at_ a0 x1).f0), (I (at_ a0 x1).f1), (I (at_ a0 x1).f2)]), (.ag [(I (at_ a1 x1).f0), (I (at_ a1 x1).f1), (I (at_ a1 x1).f2)])], [], (B x2), [], [], [], [], (B x2), []⟩] ⟨[(0, (.sl true a0.length 3 (a0.flatMap e54))), (1, (.sl true a1.length 3 (a1.flatMap e54))), (5, (I x1)), (26, (B (!x2)))], [], [(0 : Int) ≤ x1 ∧ x1 < (a0.length : Int), rdC prog 55 ((a0.flatMap e54).drop (x1.toNat * 3)) = (.ag [(I (at_ a0 x1).f0), (I (at_ a0 x1).f1), (I (at_ a0 x1).f2)]), 3 ≤ ((a0.flatMap e54).drop (x1.toNat * 3)).length, (0 : Int) ≤ x1 ∧ x1 < (a1.length : Int), rdC prog 55 ((a1.flatMap e54).drop (x1.toNat * 3)) = (.ag [(I (at_ a1 x1).f0), (I (at_ a1 x1).f1), (I (at_ a1 x1).f2)]), 3 ≤ ((a1.flatMap e54).drop (x1.toNat * 3)).length, COK (hget []) [(.ag [(I (at_ a0 x1).f0), (I (at_ a0 x1).f1), (I (at_ a0 x1).f2)]), (.ag [(I (at_ a1 x1).f0), (I (at_ a1 x1).f1), (I (at_ a1 x1).f2)])] ⟨62, [(.ag [(I (at_ a0 x1).f0), (I (at_ a0 x1).f1), (I (at_ a0 x1).f2)]), (.ag [(I (at_ a1 x1).f0), (I (at_ a1 x1).f1), (I (at_ a1 x1).f2)])], [], (B x2), [], [], [], [], (B x2), []⟩], [⟨62, [(.ag [(I (at_ a0 x1).f0), (I (at_ a0 x1).f1), (I (at_ a0 x1).f2)]), (.ag [(I (at_ a1 x1).f0), (I (at_ a1 x1).f1), (I (at_ a1 x1).f2)])], [], (B x2), [], [], [], [], (B x2), []⟩]⟩ [c_ 1865, b_ 1, c_ 467, l_ 58, b_ 0, c_ 15] (alc ⟨c3, c2⟩ (alc (ldA e54_ok rfl rfl c3 c2) (alc (okI e54_ok c3 c2 (by decide)) (alc ⟨c3, c4⟩ (alc (ldA e54_ok rfl rfl c3 c4) (alc (okI e54_ok c3 c4 (by decide)) (alc (cok0 false (a2c (.z (frz_ag (a2c .s (a2c .s (a2c .s a2n))))) (a2c (.z (frz_ag (a2c .s (a2c .s (a2c .s a2n))))) a2n)) (.z .s) (fun h => absurd h (by decide))) aln))))))) (acal (laws_eqCall.J (at_ a0 x1) (at_ a1 x1) _ hx2) nocal) ?_
          by_cases c5 : x2 = true
          · rw [if_pos c5] at h
            refine .cond' (.tmp 26) false [c_ 467, l_ 58, b_ 0, c_ 15] (bF (nF c5)) ?_
            refine .reg' [0, 1, 5] [] ⟨[(0, (.sl true a0.length 3 (a0.flatMap e54))), (1, (.sl true a1.length 3 (a1.flatMap e54))), (5, (I (wrap64 (x1 + 1))))], [], [], []⟩ [l_ 58, b_ 0, c_ 15] aln nocal ?_
            exact ih0 a0 a1 (wrap64 (x1 + 1)) _ h
          · rw [if_neg c5] at h
            refine .cond' (.tmp 26) true [c_ 7460, c_ 7461, b_ 1, c_ 467, l_ 58, b_ 0, c_ 15] (bT (nT (vF c5))) ?_
            refine .reg' [4] [] ⟨[(4, (B false))], [], [], []⟩ [c_ 7461, b_ 1, c_ 467, l_ 58, b_ 0, c_ 15] aln nocal ?_
            have h := Option.some.inj h
            subst h
            exact .fin0 [] (B false) [] aln (.z .s)
        · rw [if_neg c4] at h
          cases h
      · rw [if_neg c3] at h
        cases h
    · rw [if_neg c2] at h
      refine .cond' (.tmp 14) false [c_ 30, c_ 31] (bF (dF c2)) ?_
      refine .reg' [4] [] ⟨[(4, (B true))], [], [], []⟩ [c_ 31] aln nocal ?_
      have h := Option.some.inj h
      subst h
      exact .fin0 [] (B true) [] aln (.z .s)
theorem laws_eqCallS.J (k : Nat) (a0 : (List S54)) (a1 : (List S54)) (r : Bool) (h : laws_eqCallS.f k a0 a1 = some r) : J prog (.call 46 [(.sl true a0.length 3 (a0.flatMap e54)), (.sl true a1.length 3 (a1.flatMap e54))] [] (B r) []) := by
  unfold laws_eqCallS.f at h
  have ih0 := laws_eqCallS.lab k
  refine .call' [c_ 2, c_ 3] ?_
  refine .reg' [0, 1] [] ⟨[(0, (.sl true a0.length 3 (a0.flatMap e54))), (1, (.sl true a1.length 3 (a1.flatMap e54)))], [], [], []⟩ [c_ 12, c_ 13, c_ 7] aln nocal ?_
  refine .reg' [0, 1, 10] [] ⟨[(0, (.sl true a0.length 3 (a0.flatMap e54))), (1, (.sl true a1.length 3 (a1.flatMap e54))), (10, (B (!((a0.length : Int) == (a1.length : Int)))))], [], [], []⟩ [c_ 13, c_ 7] aln nocal ?_
  by_cases c1 : (a0.length : Int) = (a1.length : Int)
  · rw [if_pos c1] at h
    refine .cond' (.tmp 10) false [c_ 28, c_ 29, c_ 15] (bF (nF (qT c1))) ?_
    refine .reg' [0, 1, 5] [] ⟨[(0, (.sl true a0.length 3 (a0.flatMap e54))), (1, (.sl true a1.length 3 (a1.flatMap e54))), (5, (I 0))], [], [], []⟩ [l_ 58, b_ 0, c_ 15] aln nocal ?_
    exact ih0 a0 a1 0 _ h
  · rw [if_neg c1] at h
    refine .cond' (.tmp 10) true [c_ 52, c_ 53, c_ 7] (bT (nT (qF c1))) ?_
    refine .reg' [4] [] ⟨[(4, (B false))], [], [], []⟩ [c_ 53, c_ 7] aln nocal ?_
    have h := Option.some.inj h
    subst h
    exact .fin0 [] (B false) [] aln (.z .s)
/-! laws_eqTrip: function 15 -/
def laws_eqTrip.f (k : Nat) (a0 : S28) (a1 : S28) : Option Bool := (if (sEq a0.f0 a1.f0) = true then ((laws_eqCallS.f k a0.f1 a1.f1).bind fun x1 => (if x1 = true then (some true) else (some false))) else (some false))
end Go.Proofs.Ytoeedickghjdbaa.Fns
