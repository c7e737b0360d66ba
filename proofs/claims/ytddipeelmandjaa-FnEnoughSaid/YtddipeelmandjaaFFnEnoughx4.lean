/- The functions that the law FnEnough reaches, by the engine. Printed by a program of this seat. -/
import Derived.Test.YtddipeelmandjaaE5
import Derived.Test.YtddipeelmandjaaProg
import Derived.Test.YtddipeelmandjaaFFnEnoughx3
namespace Go.Proofs.Ytddipeelmandjaa.Fns
open Go.Proofs.Try Go.Proofs.Ytddipeelmandjaa.Eng Go.RowKit
set_option maxRecDepth 100000
set_option linter.unusedVariables false
set_option linter.unusedSimpArgs false
theorem slices_stableCmpFunc_1.lab : ∀ k, (∀ (a1 : Int) (x1 : (List Int)) (x2 : (List S49)) (x3 : Int) (x4 : Int) (r : ((List Int) × (List S49))), slices_stableCmpFunc_1.l0 k a1 x1 x2 x3 x4 = some r → J prog (.run 63 [0, 40] [l_ 28, b_ 0, c_ 15] [(0, (.rf 0 0 x1.length 1 (x1.length * 1))), (1, (I a1)), (2, (.fn (.func 59) [] [(.pt 40 0 1)])), (6, (I 20)), (7, (I x3)), (8, (I x4))] [(0, (x1.flatMap encI)), (40, [(.sl true x2.length 3 (x2.flatMap e49))])] (.tp []) [(0, (r.1.flatMap encI)), (40, [(.sl true r.2.length 3 (r.2.flatMap e49))])])) ∧ (∀ (a1 : Int) (x7 : (List Int)) (x8 : (List S49)) (x9 : Int) (r : ((List Int) × (List S49))), slices_stableCmpFunc_1.l1 k a1 x7 x8 x9 = some r → J prog (.run 63 [0, 40] [l_ 62, b_ 2] [(0, (.rf 0 0 x7.length 1 (x7.length * 1))), (1, (I a1)), (2, (.fn (.func 59) [] [(.pt 40 0 1)])), (6, (I x9))] [(0, (x7.flatMap encI)), (40, [(.sl true x8.length 3 (x8.flatMap e49))])] (.tp []) [(0, (r.1.flatMap encI)), (40, [(.sl true r.2.length 3 (r.2.flatMap e49))])])) ∧ (∀ (a1 : Int) (x9 : Int) (x10 : (List Int)) (x11 : (List S49)) (x12 : Int) (x13 : Int) (r : ((List Int) × (List S49))), slices_stableCmpFunc_1.l2 k a1 x9 x10 x11 x12 x13 = some r → J prog (.run 63 [0, 40] [l_ 3988, b_ 4, c_ 1995, b_ 3, l_ 62, b_ 2] [(0, (.rf 0 0 x10.length 1 (x10.length * 1))), (1, (I a1)), (2, (.fn (.func 59) [] [(.pt 40 0 1)])), (6, (I x9)), (7, (I x12)), (8, (I x13))] [(0, (x10.flatMap encI)), (40, [(.sl true x11.length 3 (x11.flatMap e49))])] (.tp []) [(0, (r.1.flatMap encI)), (40, [(.sl true r.2.length 3 (r.2.flatMap e49))])]))
 | 0 => ⟨(by intro a1 x1 x2 x3 x4 r h; unfold slices_stableCmpFunc_1.l0 at h; cases h), (by intro a1 x7 x8 x9 r h; unfold slices_stableCmpFunc_1.l1 at h; cases h), (by intro a1 x9 x10 x11 x12 x13 r h; unfold slices_stableCmpFunc_1.l2 at h; cases h)⟩
 | k + 1 => by
  obtain ⟨ih0, ih1, ih2⟩ := slices_stableCmpFunc_1.lab k
  refine ⟨?_, ?_, ?_⟩
  · intro a1 x1 x2 x3 x4 r h
    unfold slices_stableCmpFunc_1.l0 at h
    refine .loop' [c_ 224, c_ 225, c_ 113, l_ 28, b_ 0, c_ 15] ?_
    refine .reg' [0, 1, 2, 6, 7, 8, 13] [] ⟨[(0, (.rf 0 0 x1.length 1 (x1.length * 1))), (1, (I a1)), (2, (.fn (.func 59) [] [(.pt 40 0 1)])), (6, (I 20)), (7, (I x3)), (8, (I x4)), (13, (B (decide (x4 ≤ a1))))], [(0, (x1.flatMap encI)), (40, [(.sl true x2.length 3 (x2.flatMap e49))])], [], []⟩ [c_ 225, c_ 113, l_ 28, b_ 0, c_ 15] aln nocal ?_
    by_cases c1 : x4 ≤ a1
    · rw [if_pos c1] at h
      refine .cond' (.tmp 13) true [c_ 452, c_ 453, b_ 1, l_ 28, b_ 0, c_ 15] (bT (dT c1)) ?_
      obtain ⟨x5, hx5, h⟩ := Option.bind_eq_some_iff.mp h
      refine .reg' [0, 1, 2, 6, 8] [.no, .no, .no, .no, .c ⟨65, [(.rf 0 0 x1.length 1 (x1.length * 1)), (I x3), (I x4), (.fn (.func 59) [] [(.pt 56 0 1)])], [(0, (x1.flatMap encI)), (56, [(.sl true x2.length 3 (x2.flatMap e49))])], (.tp []), [(0, (x5.1.flatMap encI)), (56, [(.sl true x5.2.length 3 (x5.2.flatMap e49))])], [], [(0, 0), (40, 56)], [(0, 0), (40, 56)], (.tp []), [(0, (x5.1.flatMap encI)), (40, [(.sl true x5.2.length 3 (x5.2.flatMap e49))])]⟩] ⟨[(0, (.rf 0 0 x1.length 1 (x1.length * 1))), (1, (I a1)), (2, (.fn (.func 59) [] [(.pt 40 0 1)])), (6, (I 20)), (8, (I x4))], [(0, (x5.1.flatMap encI)), (40, [(.sl true x5.2.length 3 (x5.2.flatMap e49))])], [COK (hget [(0, (x1.flatMap encI)), (40, [(.sl true x2.length 3 (x2.flatMap e49))])]) [(.rf 0 0 x1.length 1 (x1.length * 1)), (I x3), (I x4), (.fn (.func 59) [] [(.pt 40 0 1)])] ⟨65, [(.rf 0 0 x1.length 1 (x1.length * 1)), (I x3), (I x4), (.fn (.func 59) [] [(.pt 56 0 1)])], [(0, (x1.flatMap encI)), (56, [(.sl true x2.length 3 (x2.flatMap e49))])], (.tp []), [(0, (x5.1.flatMap encI)), (56, [(.sl true x5.2.length 3 (x5.2.flatMap e49))])], [], [(0, 0), (40, 56)], [(0, 0), (40, 56)], (.tp []), [(0, (x5.1.flatMap encI)), (40, [(.sl true x5.2.length 3 (x5.2.flatMap e49))])]⟩], [⟨65, [(.rf 0 0 x1.length 1 (x1.length * 1)), (I x3), (I x4), (.fn (.func 59) [] [(.pt 56 0 1)])], [(0, (x1.flatMap encI)), (56, [(.sl true x2.length 3 (x2.flatMap e49))])], (.tp []), [(0, (x5.1.flatMap encI)), (56, [(.sl true x5.2.length 3 (x5.2.flatMap e49))])], [], [(0, 0), (40, 56)], [(0, 0), (40, 56)], (.tp []), [(0, (x5.1.flatMap encI)), (40, [(.sl true x5.2.length 3 (x5.2.flatMap e49))])]⟩]⟩ [c_ 906, c_ 907, b_ 1, l_ 28, b_ 0, c_ 15] (alc (cokW true (a2c (.rf (memP_mem (p := (0, 0)) rfl)) (a2c (.z .s) (a2c (.z .s) (a2c (cnv_fn a2n (a2c (.pt (memP_mem (p := (40, 56)) rfl)) a2n)) a2n)))) (akc ⟨_, _, rfl, rfl, (rowF encI_ok _)⟩ (akc ⟨_, _, rfl, rfl, (a2c (.z (frz_sl e49_ok (fun h => h))) a2n)⟩ akn)) (akc (.inl rfl) (akc (.inl rfl) akn)) (bck_tp a2n) (akc ⟨_, _, rfl, rfl, rowB encI_c _⟩ (akc ⟨_, _, rfl, rfl, (a2c (.z (clnS e49_c (fun h => rfl))) a2n)⟩ akn)) (fun h => rfl)) aln) (acal (slices_insertionSortCmpFunc_1.J k x1 x3 x4 x2 _ hx5) nocal) ?_
      refine .eqs (env2 := [(0, (.rf 0 0 x5.1.length 1 (x5.1.length * 1))), (1, (I a1)), (2, (.fn (.func 59) [] [(.pt 40 0 1)])), (6, (I 20)), (8, (I x4))]) (H2 := [(0, (x5.1.flatMap encI)), (40, [(.sl true x5.2.length 3 (x5.2.flatMap e49))])]) (by first | (simp only [List.length_set, (slices_insertionSortCmpFunc_1.len k x1 x3 x4 x2 _ hx5)]; done) | simp) (by first | rfl | (simp only [List.length_set, (slices_insertionSortCmpFunc_1.len k x1 x3 x4 x2 _ hx5)]; done) | simp) ?_
      refine .reg' [0, 1, 2, 6, 7, 8] [] ⟨[(0, (.rf 0 0 x5.1.length 1 (x5.1.length * 1))), (1, (I a1)), (2, (.fn (.func 59) [] [(.pt 40 0 1)])), (6, (I 20)), (7, (I x4)), (8, (I x4))], [(0, (x5.1.flatMap encI)), (40, [(.sl true x5.2.length 3 (x5.2.flatMap e49))])], [], []⟩ [c_ 907, b_ 1, l_ 28, b_ 0, c_ 15] aln nocal ?_
      refine .reg' [0, 1, 2, 6, 7, 8] [] ⟨[(0, (.rf 0 0 x5.1.length 1 (x5.1.length * 1))), (1, (I a1)), (2, (.fn (.func 59) [] [(.pt 40 0 1)])), (6, (I 20)), (7, (I x4)), (8, (I (wrap64 (x4 + 20))))], [(0, (x5.1.flatMap encI)), (40, [(.sl true x5.2.length 3 (x5.2.flatMap e49))])], [], []⟩ [l_ 28, b_ 0, c_ 15] aln nocal ?_
      exact ih0 a1 x5.1 x5.2 x4 (wrap64 (x4 + 20)) _ h
    · rw [if_neg c1] at h
      refine .cond' (.tmp 13) false [c_ 30, c_ 31] (bF (dF c1)) ?_
      obtain ⟨x6, hx6, h⟩ := Option.bind_eq_some_iff.mp h
      refine .reg' [0, 1, 2, 6] [.no, .no, .no, .no, .c ⟨65, [(.rf 0 0 x1.length 1 (x1.length * 1)), (I x3), (I a1), (.fn (.func 59) [] [(.pt 56 0 1)])], [(0, (x1.flatMap encI)), (56, [(.sl true x2.length 3 (x2.flatMap e49))])], (.tp []), [(0, (x6.1.flatMap encI)), (56, [(.sl true x6.2.length 3 (x6.2.flatMap e49))])], [], [(0, 0), (40, 56)], [(0, 0), (40, 56)], (.tp []), [(0, (x6.1.flatMap encI)), (40, [(.sl true x6.2.length 3 (x6.2.flatMap e49))])]⟩] ⟨[(0, (.rf 0 0 x1.length 1 (x1.length * 1))), (1, (I a1)), (2, (.fn (.func 59) [] [(.pt 40 0 1)])), (6, (I 20))], [(0, (x6.1.flatMap encI)), (40, [(.sl true x6.2.length 3 (x6.2.flatMap e49))])], [COK (hget [(0, (x1.flatMap encI)), (40, [(.sl true x2.length 3 (x2.flatMap e49))])]) [(.rf 0 0 x1.length 1 (x1.length * 1)), (I x3), (I a1), (.fn (.func 59) [] [(.pt 40 0 1)])] ⟨65, [(.rf 0 0 x1.length 1 (x1.length * 1)), (I x3), (I a1), (.fn (.func 59) [] [(.pt 56 0 1)])], [(0, (x1.flatMap encI)), (56, [(.sl true x2.length 3 (x2.flatMap e49))])], (.tp []), [(0, (x6.1.flatMap encI)), (56, [(.sl true x6.2.length 3 (x6.2.flatMap e49))])], [], [(0, 0), (40, 56)], [(0, 0), (40, 56)], (.tp []), [(0, (x6.1.flatMap encI)), (40, [(.sl true x6.2.length 3 (x6.2.flatMap e49))])]⟩], [⟨65, [(.rf 0 0 x1.length 1 (x1.length * 1)), (I x3), (I a1), (.fn (.func 59) [] [(.pt 56 0 1)])], [(0, (x1.flatMap encI)), (56, [(.sl true x2.length 3 (x2.flatMap e49))])], (.tp []), [(0, (x6.1.flatMap encI)), (56, [(.sl true x6.2.length 3 (x6.2.flatMap e49))])], [], [(0, 0), (40, 56)], [(0, 0), (40, 56)], (.tp []), [(0, (x6.1.flatMap encI)), (40, [(.sl true x6.2.length 3 (x6.2.flatMap e49))])]⟩]⟩ [l_ 62, b_ 2] (alc (cokW true (a2c (.rf (memP_mem (p := (0, 0)) rfl)) (a2c (.z .s) (a2c (.z .s) (a2c (cnv_fn a2n (a2c (.pt (memP_mem (p := (40, 56)) rfl)) a2n)) a2n)))) (akc ⟨_, _, rfl, rfl, (rowF encI_ok _)⟩ (akc ⟨_, _, rfl, rfl, (a2c (.z (frz_sl e49_ok (fun h => h))) a2n)⟩ akn)) (akc (.inl rfl) (akc (.inl rfl) akn)) (bck_tp a2n) (akc ⟨_, _, rfl, rfl, rowB encI_c _⟩ (akc ⟨_, _, rfl, rfl, (a2c (.z (clnS e49_c (fun h => rfl))) a2n)⟩ akn)) (fun h => rfl)) aln) (acal (slices_insertionSortCmpFunc_1.J k x1 x3 a1 x2 _ hx6) nocal) ?_
      refine .eqs (env2 := [(0, (.rf 0 0 x6.1.length 1 (x6.1.length * 1))), (1, (I a1)), (2, (.fn (.func 59) [] [(.pt 40 0 1)])), (6, (I 20))]) (H2 := [(0, (x6.1.flatMap encI)), (40, [(.sl true x6.2.length 3 (x6.2.flatMap e49))])]) (by first | (simp only [List.length_set, (slices_insertionSortCmpFunc_1.len k x1 x3 a1 x2 _ hx6)]; done) | simp) (by first | rfl | (simp only [List.length_set, (slices_insertionSortCmpFunc_1.len k x1 x3 a1 x2 _ hx6)]; done) | simp) ?_
      exact ih1 a1 x6.1 x6.2 20 _ h
  · intro a1 x7 x8 x9 r h
    unfold slices_stableCmpFunc_1.l1 at h
    refine .loop' [c_ 496, c_ 497, c_ 249, l_ 62, b_ 2] ?_
    refine .reg' [0, 1, 2, 6, 30] [] ⟨[(0, (.rf 0 0 x7.length 1 (x7.length * 1))), (1, (I a1)), (2, (.fn (.func 59) [] [(.pt 40 0 1)])), (6, (I x9)), (30, (B (decide (x9 < a1))))], [(0, (x7.flatMap encI)), (40, [(.sl true x8.length 3 (x8.flatMap e49))])], [], []⟩ [c_ 497, c_ 249, l_ 62, b_ 2] aln nocal ?_
    by_cases c2 : x9 < a1
    · rw [if_pos c2] at h
      refine .cond' (.tmp 30) true [c_ 996, c_ 997, b_ 3, l_ 62, b_ 2] (bT (dT c2)) ?_
      refine .reg' [0, 1, 2, 6, 7, 8] [] ⟨[(0, (.rf 0 0 x7.length 1 (x7.length * 1))), (1, (I a1)), (2, (.fn (.func 59) [] [(.pt 40 0 1)])), (6, (I x9)), (7, (I 0)), (8, (I (wrap64 (2 * x9))))], [(0, (x7.flatMap encI)), (40, [(.sl true x8.length 3 (x8.flatMap e49))])], [], []⟩ [l_ 3988, b_ 4, c_ 1995, b_ 3, l_ 62, b_ 2] aln nocal ?_
      exact ih2 a1 x9 x7 x8 0 (wrap64 (2 * x9)) _ h
    · rw [if_neg c2] at h
      refine .cond' (.tmp 30) false [] (bF (dF c2)) ?_
      have h := Option.some.inj h
      subst h
      exact .fin' [] [(0, 0), (40, 40)] (.tp []) [] aln (shc 0 (rowF encI_ok _) (shc 40 (a2c (.z (frz_sl e49_ok (fun h => h))) a2n) shn)) (cnv_tp a2n)
  · intro a1 x9 x10 x11 x12 x13 r h
    unfold slices_stableCmpFunc_1.l2 at h
    refine .loop' [c_ 31904, c_ 31905, c_ 15953, l_ 3988, b_ 4, c_ 1995, b_ 3, l_ 62, b_ 2] ?_
    refine .reg' [0, 1, 2, 6, 7, 8, 35] [] ⟨[(0, (.rf 0 0 x10.length 1 (x10.length * 1))), (1, (I a1)), (2, (.fn (.func 59) [] [(.pt 40 0 1)])), (6, (I x9)), (7, (I x12)), (8, (I x13)), (35, (B (decide (x13 ≤ a1))))], [(0, (x10.flatMap encI)), (40, [(.sl true x11.length 3 (x11.flatMap e49))])], [], []⟩ [c_ 31905, c_ 15953, l_ 3988, b_ 4, c_ 1995, b_ 3, l_ 62, b_ 2] aln nocal ?_
    by_cases c3 : x13 ≤ a1
    · rw [if_pos c3] at h
      refine .cond' (.tmp 35) true [c_ 63812, c_ 63813, b_ 5, l_ 3988, b_ 4, c_ 1995, b_ 3, l_ 62, b_ 2] (bT (dT c3)) ?_
      obtain ⟨x14, hx14, h⟩ := Option.bind_eq_some_iff.mp h
      refine .reg' [0, 1, 2, 6, 8] [.no, .no, .no, .no, .no, .no, .no, .c ⟨66, [(.rf 0 0 x10.length 1 (x10.length * 1)), (I x12), (I (wrap64 (x12 + x9))), (I x13), (.fn (.func 59) [] [(.pt 72 0 1)])], [(0, (x10.flatMap encI)), (72, [(.sl true x11.length 3 (x11.flatMap e49))])], (.tp []), [(0, (x14.1.flatMap encI)), (72, [(.sl true x14.2.length 3 (x14.2.flatMap e49))])], [], [(0, 0), (40, 72)], [(0, 0), (40, 72)], (.tp []), [(0, (x14.1.flatMap encI)), (40, [(.sl true x14.2.length 3 (x14.2.flatMap e49))])]⟩] ⟨[(0, (.rf 0 0 x10.length 1 (x10.length * 1))), (1, (I a1)), (2, (.fn (.func 59) [] [(.pt 40 0 1)])), (6, (I x9)), (8, (I x13))], [(0, (x14.1.flatMap encI)), (40, [(.sl true x14.2.length 3 (x14.2.flatMap e49))])], [COK (hget [(0, (x10.flatMap encI)), (40, [(.sl true x11.length 3 (x11.flatMap e49))])]) [(.rf 0 0 x10.length 1 (x10.length * 1)), (I x12), (I (wrap64 (x12 + x9))), (I x13), (.fn (.func 59) [] [(.pt 40 0 1)])] ⟨66, [(.rf 0 0 x10.length 1 (x10.length * 1)), (I x12), (I (wrap64 (x12 + x9))), (I x13), (.fn (.func 59) [] [(.pt 72 0 1)])], [(0, (x10.flatMap encI)), (72, [(.sl true x11.length 3 (x11.flatMap e49))])], (.tp []), [(0, (x14.1.flatMap encI)), (72, [(.sl true x14.2.length 3 (x14.2.flatMap e49))])], [], [(0, 0), (40, 72)], [(0, 0), (40, 72)], (.tp []), [(0, (x14.1.flatMap encI)), (40, [(.sl true x14.2.length 3 (x14.2.flatMap e49))])]⟩], [⟨66, [(.rf 0 0 x10.length 1 (x10.length * 1)), (I x12), (I (wrap64 (x12 + x9))), (I x13), (.fn (.func 59) [] [(.pt 72 0 1)])], [(0, (x10.flatMap encI)), (72, [(.sl true x11.length 3 (x11.flatMap e49))])], (.tp []), [(0, (x14.1.flatMap encI)), (72, [(.sl true x14.2.length 3 (x14.2.flatMap e49))])], [], [(0, 0), (40, 72)], [(0, 0), (40, 72)], (.tp []), [(0, (x14.1.flatMap encI)), (40, [(.sl true x14.2.length 3 (x14.2.flatMap e49))])]⟩]⟩ [c_ 127626, c_ 127627, b_ 5, l_ 3988, b_ 4, c_ 1995, b_ 3, l_ 62, b_ 2] (alc (cokW true (a2c (.rf (memP_mem (p := (0, 0)) rfl)) (a2c (.z .s) (a2c (.z .s) (a2c (.z .s) (a2c (cnv_fn a2n (a2c (.pt (memP_mem (p := (40, 72)) rfl)) a2n)) a2n))))) (akc ⟨_, _, rfl, rfl, (rowF encI_ok _)⟩ (akc ⟨_, _, rfl, rfl, (a2c (.z (frz_sl e49_ok (fun h => h))) a2n)⟩ akn)) (akc (.inl rfl) (akc (.inl rfl) akn)) (bck_tp a2n) (akc ⟨_, _, rfl, rfl, rowB encI_c _⟩ (akc ⟨_, _, rfl, rfl, (a2c (.z (clnS e49_c (fun h => rfl))) a2n)⟩ akn)) (fun h => rfl)) aln) (acal (slices_symMergeCmpFunc_1.J k x10 x12 (wrap64 (x12 + x9)) x13 x11 _ hx14) nocal) ?_
      refine .eqs (env2 := [(0, (.rf 0 0 x14.1.length 1 (x14.1.length * 1))), (1, (I a1)), (2, (.fn (.func 59) [] [(.pt 40 0 1)])), (6, (I x9)), (8, (I x13))]) (H2 := [(0, (x14.1.flatMap encI)), (40, [(.sl true x14.2.length 3 (x14.2.flatMap e49))])]) (by first | (simp only [List.length_set, (slices_symMergeCmpFunc_1.len k x10 x12 (wrap64 (x12 + x9)) x13 x11 _ hx14)]; done) | simp) (by first | rfl | (simp only [List.length_set, (slices_symMergeCmpFunc_1.len k x10 x12 (wrap64 (x12 + x9)) x13 x11 _ hx14)]; done) | simp) ?_
      refine .reg' [0, 1, 2, 6, 7, 8] [] ⟨[(0, (.rf 0 0 x14.1.length 1 (x14.1.length * 1))), (1, (I a1)), (2, (.fn (.func 59) [] [(.pt 40 0 1)])), (6, (I x9)), (7, (I x13)), (8, (I x13))], [(0, (x14.1.flatMap encI)), (40, [(.sl true x14.2.length 3 (x14.2.flatMap e49))])], [], []⟩ [c_ 127627, b_ 5, l_ 3988, b_ 4, c_ 1995, b_ 3, l_ 62, b_ 2] aln nocal ?_
      refine .reg' [0, 1, 2, 6, 7, 8] [] ⟨[(0, (.rf 0 0 x14.1.length 1 (x14.1.length * 1))), (1, (I a1)), (2, (.fn (.func 59) [] [(.pt 40 0 1)])), (6, (I x9)), (7, (I x13)), (8, (I (wrap64 (x13 + (wrap64 (2 * x9))))))], [(0, (x14.1.flatMap encI)), (40, [(.sl true x14.2.length 3 (x14.2.flatMap e49))])], [], []⟩ [l_ 3988, b_ 4, c_ 1995, b_ 3, l_ 62, b_ 2] aln nocal ?_
      exact ih2 a1 x9 x14.1 x14.2 x13 (wrap64 (x13 + (wrap64 (2 * x9)))) _ h
    · rw [if_neg c3] at h
      refine .cond' (.tmp 35) false [c_ 7980, c_ 7981, c_ 3991, b_ 3, l_ 62, b_ 2] (bF (dF c3)) ?_
      refine .reg' [0, 1, 2, 6, 7, 9] [] ⟨[(0, (.rf 0 0 x10.length 1 (x10.length * 1))), (1, (I a1)), (2, (.fn (.func 59) [] [(.pt 40 0 1)])), (6, (I x9)), (7, (I x12)), (9, (I (wrap64 (x12 + x9))))], [(0, (x10.flatMap encI)), (40, [(.sl true x11.length 3 (x11.flatMap e49))])], [], []⟩ [c_ 15962, c_ 15963, c_ 3991, b_ 3, l_ 62, b_ 2] aln nocal ?_
      refine .reg' [0, 1, 2, 6, 7, 9, 54] [] ⟨[(0, (.rf 0 0 x10.length 1 (x10.length * 1))), (1, (I a1)), (2, (.fn (.func 59) [] [(.pt 40 0 1)])), (6, (I x9)), (7, (I x12)), (9, (I (wrap64 (x12 + x9)))), (54, (B (decide ((wrap64 (x12 + x9)) < a1))))], [(0, (x10.flatMap encI)), (40, [(.sl true x11.length 3 (x11.flatMap e49))])], [], []⟩ [c_ 15963, c_ 3991, b_ 3, l_ 62, b_ 2] aln nocal ?_
      by_cases c4 : (wrap64 (x12 + x9)) < a1
      · rw [if_pos c4] at h
        refine .cond' (.tmp 54) true [c_ 31926, c_ 3991, b_ 3, l_ 62, b_ 2] (bT (dT c4)) ?_
        obtain ⟨x15, hx15, h⟩ := Option.bind_eq_some_iff.mp h
        refine .reg' [0, 1, 2, 6] [.no, .no, .no, .no, .no, .c ⟨66, [(.rf 0 0 x10.length 1 (x10.length * 1)), (I x12), (I (wrap64 (x12 + x9))), (I a1), (.fn (.func 59) [] [(.pt 72 0 1)])], [(0, (x10.flatMap encI)), (72, [(.sl true x11.length 3 (x11.flatMap e49))])], (.tp []), [(0, (x15.1.flatMap encI)), (72, [(.sl true x15.2.length 3 (x15.2.flatMap e49))])], [], [(0, 0), (40, 72)], [(0, 0), (40, 72)], (.tp []), [(0, (x15.1.flatMap encI)), (40, [(.sl true x15.2.length 3 (x15.2.flatMap e49))])]⟩] ⟨[(0, (.rf 0 0 x10.length 1 (x10.length * 1))), (1, (I a1)), (2, (.fn (.func 59) [] [(.pt 40 0 1)])), (6, (I x9))], [(0, (x15.1.flatMap encI)), (40, [(.sl true x15.2.length 3 (x15.2.flatMap e49))])], [COK (hget [(0, (x10.flatMap encI)), (40, [(.sl true x11.length 3 (x11.flatMap e49))])]) [(.rf 0 0 x10.length 1 (x10.length * 1)), (I x12), (I (wrap64 (x12 + x9))), (I a1), (.fn (.func 59) [] [(.pt 40 0 1)])] ⟨66, [(.rf 0 0 x10.length 1 (x10.length * 1)), (I x12), (I (wrap64 (x12 + x9))), (I a1), (.fn (.func 59) [] [(.pt 72 0 1)])], [(0, (x10.flatMap encI)), (72, [(.sl true x11.length 3 (x11.flatMap e49))])], (.tp []), [(0, (x15.1.flatMap encI)), (72, [(.sl true x15.2.length 3 (x15.2.flatMap e49))])], [], [(0, 0), (40, 72)], [(0, 0), (40, 72)], (.tp []), [(0, (x15.1.flatMap encI)), (40, [(.sl true x15.2.length 3 (x15.2.flatMap e49))])]⟩], [⟨66, [(.rf 0 0 x10.length 1 (x10.length * 1)), (I x12), (I (wrap64 (x12 + x9))), (I a1), (.fn (.func 59) [] [(.pt 72 0 1)])], [(0, (x10.flatMap encI)), (72, [(.sl true x11.length 3 (x11.flatMap e49))])], (.tp []), [(0, (x15.1.flatMap encI)), (72, [(.sl true x15.2.length 3 (x15.2.flatMap e49))])], [], [(0, 0), (40, 72)], [(0, 0), (40, 72)], (.tp []), [(0, (x15.1.flatMap encI)), (40, [(.sl true x15.2.length 3 (x15.2.flatMap e49))])]⟩]⟩ [c_ 3991, b_ 3, l_ 62, b_ 2] (alc (cokW true (a2c (.rf (memP_mem (p := (0, 0)) rfl)) (a2c (.z .s) (a2c (.z .s) (a2c (.z .s) (a2c (cnv_fn a2n (a2c (.pt (memP_mem (p := (40, 72)) rfl)) a2n)) a2n))))) (akc ⟨_, _, rfl, rfl, (rowF encI_ok _)⟩ (akc ⟨_, _, rfl, rfl, (a2c (.z (frz_sl e49_ok (fun h => h))) a2n)⟩ akn)) (akc (.inl rfl) (akc (.inl rfl) akn)) (bck_tp a2n) (akc ⟨_, _, rfl, rfl, rowB encI_c _⟩ (akc ⟨_, _, rfl, rfl, (a2c (.z (clnS e49_c (fun h => rfl))) a2n)⟩ akn)) (fun h => rfl)) aln) (acal (slices_symMergeCmpFunc_1.J k x10 x12 (wrap64 (x12 + x9)) a1 x11 _ hx15) nocal) ?_
        refine .eqs (env2 := [(0, (.rf 0 0 x15.1.length 1 (x15.1.length * 1))), (1, (I a1)), (2, (.fn (.func 59) [] [(.pt 40 0 1)])), (6, (I x9))]) (H2 := [(0, (x15.1.flatMap encI)), (40, [(.sl true x15.2.length 3 (x15.2.flatMap e49))])]) (by first | (simp only [List.length_set, (slices_symMergeCmpFunc_1.len k x10 x12 (wrap64 (x12 + x9)) a1 x11 _ hx15)]; done) | simp) (by first | rfl | (simp only [List.length_set, (slices_symMergeCmpFunc_1.len k x10 x12 (wrap64 (x12 + x9)) a1 x11 _ hx15)]; done) | simp) ?_
        refine .reg' [0, 1, 2, 6] [] ⟨[(0, (.rf 0 0 x15.1.length 1 (x15.1.length * 1))), (1, (I a1)), (2, (.fn (.func 59) [] [(.pt 40 0 1)])), (6, (I (wrap64 (x9 * 2))))], [(0, (x15.1.flatMap encI)), (40, [(.sl true x15.2.length 3 (x15.2.flatMap e49))])], [], []⟩ [l_ 62, b_ 2] aln nocal ?_
        exact ih1 a1 x15.1 x15.2 (wrap64 (x9 * 2)) _ h
      · rw [if_neg c4] at h
        refine .cond' (.tmp 54) false [c_ 3991, b_ 3, l_ 62, b_ 2] (bF (dF c4)) ?_
        refine .reg' [0, 1, 2, 6] [] ⟨[(0, (.rf 0 0 x10.length 1 (x10.length * 1))), (1, (I a1)), (2, (.fn (.func 59) [] [(.pt 40 0 1)])), (6, (I (wrap64 (x9 * 2))))], [(0, (x10.flatMap encI)), (40, [(.sl true x11.length 3 (x11.flatMap e49))])], [], []⟩ [l_ 62, b_ 2] aln nocal ?_
        exact ih1 a1 x10 x11 (wrap64 (x9 * 2)) _ h
theorem slices_stableCmpFunc_1.J (k : Nat) (a0 : (List Int)) (a1 : Int) (a2c0 : (List S49)) (r : ((List Int) × (List S49))) (h : slices_stableCmpFunc_1.f k a0 a1 a2c0 = some r) : J prog (.call 63 [(.rf 0 0 a0.length 1 (a0.length * 1)), (I a1), (.fn (.func 59) [] [(.pt 40 0 1)])] [(0, (a0.flatMap encI)), (40, [(.sl true a2c0.length 3 (a2c0.flatMap e49))])] (.tp []) [(0, (r.1.flatMap encI)), (40, [(.sl true r.2.length 3 (r.2.flatMap e49))])]) := by
  unfold slices_stableCmpFunc_1.f at h
  obtain ⟨ih0, ih1, ih2⟩ := slices_stableCmpFunc_1.lab k
  refine .call' [c_ 2, c_ 3] ?_
  refine .reg' [0, 1, 2, 6] [] ⟨[(0, (.rf 0 0 a0.length 1 (a0.length * 1))), (1, (I a1)), (2, (.fn (.func 59) [] [(.pt 40 0 1)])), (6, (I 20))], [(0, (a0.flatMap encI)), (40, [(.sl true a2c0.length 3 (a2c0.flatMap e49))])], [], []⟩ [c_ 6, c_ 7] aln nocal ?_
  refine .reg' [0, 1, 2, 6, 7, 8] [] ⟨[(0, (.rf 0 0 a0.length 1 (a0.length * 1))), (1, (I a1)), (2, (.fn (.func 59) [] [(.pt 40 0 1)])), (6, (I 20)), (7, (I 0)), (8, (I 20))], [(0, (a0.flatMap encI)), (40, [(.sl true a2c0.length 3 (a2c0.flatMap e49))])], [], []⟩ [l_ 28, b_ 0, c_ 15] aln nocal ?_
  exact ih0 a1 a0 a2c0 0 20 _ h
theorem slices_stableCmpFunc_1.lenl : ∀ k, (∀ (a1 : Int) (x1 : (List Int)) (x2 : (List S49)) (x3 : Int) (x4 : Int) (r : ((List Int) × (List S49))), slices_stableCmpFunc_1.l0 k a1 x1 x2 x3 x4 = some r → r.1.length = x1.length) ∧ (∀ (a1 : Int) (x7 : (List Int)) (x8 : (List S49)) (x9 : Int) (r : ((List Int) × (List S49))), slices_stableCmpFunc_1.l1 k a1 x7 x8 x9 = some r → r.1.length = x7.length) ∧ (∀ (a1 : Int) (x9 : Int) (x10 : (List Int)) (x11 : (List S49)) (x12 : Int) (x13 : Int) (r : ((List Int) × (List S49))), slices_stableCmpFunc_1.l2 k a1 x9 x10 x11 x12 x13 = some r → r.1.length = x10.length)
 | 0 => ⟨(by intro a1 x1 x2 x3 x4 r h; unfold slices_stableCmpFunc_1.l0 at h; cases h), (by intro a1 x7 x8 x9 r h; unfold slices_stableCmpFunc_1.l1 at h; cases h), (by intro a1 x9 x10 x11 x12 x13 r h; unfold slices_stableCmpFunc_1.l2 at h; cases h)⟩
 | k + 1 => by
  obtain ⟨ih0, ih1, ih2⟩ := slices_stableCmpFunc_1.lenl k
  refine ⟨?_, ?_, ?_⟩
  · intro a1 x1 x2 x3 x4 r h
    unfold slices_stableCmpFunc_1.l0 at h
    by_cases c1 : x4 ≤ a1
    · rw [if_pos c1] at h
      obtain ⟨x5, hx5, h⟩ := Option.bind_eq_some_iff.mp h
      have lhx5 := slices_insertionSortCmpFunc_1.len k x1 x3 x4 x2 _ hx5
      have q := ih0 a1 x5.1 x5.2 x4 (wrap64 (x4 + 20)) _ h
      first | exact q | (simp only [List.length_set, lhx5] at q; exact q)
    · rw [if_neg c1] at h
      obtain ⟨x6, hx6, h⟩ := Option.bind_eq_some_iff.mp h
      have lhx6 := slices_insertionSortCmpFunc_1.len k x1 x3 a1 x2 _ hx6
      have q := ih1 a1 x6.1 x6.2 20 _ h
      first | exact q | (simp only [List.length_set, lhx6] at q; exact q)
  · intro a1 x7 x8 x9 r h
    unfold slices_stableCmpFunc_1.l1 at h
    by_cases c2 : x9 < a1
    · rw [if_pos c2] at h
      have q := ih2 a1 x9 x7 x8 0 (wrap64 (2 * x9)) _ h
      first | exact q | (simp only [List.length_set] at q; exact q)
    · rw [if_neg c2] at h
      have h := Option.some.inj h
      subst h
      first | rfl | (simp only [List.length_set]; done) | exact ⟨by first | rfl | simp only [List.length_set]⟩
  · intro a1 x9 x10 x11 x12 x13 r h
    unfold slices_stableCmpFunc_1.l2 at h
    by_cases c3 : x13 ≤ a1
    · rw [if_pos c3] at h
      obtain ⟨x14, hx14, h⟩ := Option.bind_eq_some_iff.mp h
      have lhx14 := slices_symMergeCmpFunc_1.len k x10 x12 (wrap64 (x12 + x9)) x13 x11 _ hx14
      have q := ih2 a1 x9 x14.1 x14.2 x13 (wrap64 (x13 + (wrap64 (2 * x9)))) _ h
      first | exact q | (simp only [List.length_set, lhx14] at q; exact q)
    · rw [if_neg c3] at h
      by_cases c4 : (wrap64 (x12 + x9)) < a1
      · rw [if_pos c4] at h
        obtain ⟨x15, hx15, h⟩ := Option.bind_eq_some_iff.mp h
        have lhx15 := slices_symMergeCmpFunc_1.len k x10 x12 (wrap64 (x12 + x9)) a1 x11 _ hx15
        have q := ih1 a1 x15.1 x15.2 (wrap64 (x9 * 2)) _ h
        first | exact q | (simp only [List.length_set, lhx15] at q; exact q)
      · rw [if_neg c4] at h
        have q := ih1 a1 x10 x11 (wrap64 (x9 * 2)) _ h
        first | exact q | (simp only [List.length_set] at q; exact q)
theorem slices_stableCmpFunc_1.len (k : Nat) (a0 : (List Int)) (a1 : Int) (a2c0 : (List S49)) (r : ((List Int) × (List S49))) (h : slices_stableCmpFunc_1.f k a0 a1 a2c0 = some r) : r.1.length = a0.length := by
  unfold slices_stableCmpFunc_1.f at h
  obtain ⟨ih0, ih1, ih2⟩ := slices_stableCmpFunc_1.lenl k
  have q := ih0 a1 a0 a2c0 0 20 _ h
  first | exact q | (simp only [List.length_set] at q; exact q)
/-! slices_SortStableFunc_1: function 58 -/
def slices_SortStableFunc_1.f (k : Nat) (a0 : (List Int)) (a1c0 : (List S49)) : Option ((List Int) × (List S49)) := ((slices_stableCmpFunc_1.f k a0 (a0.length : Int) a1c0).bind fun x1 => (some (x1.1, x1.2)))
theorem slices_SortStableFunc_1.J (k : Nat) (a0 : (List Int)) (a1c0 : (List S49)) (r : ((List Int) × (List S49))) (h : slices_SortStableFunc_1.f k a0 a1c0 = some r) : J prog (.call 58 [(.rf 0 0 a0.length 1 (a0.length * 1)), (.fn (.func 59) [] [(.pt 24 0 1)])] [(0, (a0.flatMap encI)), (24, [(.sl true a1c0.length 3 (a1c0.flatMap e49))])] (.tp []) [(0, (r.1.flatMap encI)), (24, [(.sl true r.2.length 3 (r.2.flatMap e49))])]) := by
  unfold slices_SortStableFunc_1.f at h
  refine .call' [c_ 1] ?_
  obtain ⟨x1, hx1, h⟩ := Option.bind_eq_some_iff.mp h
  refine .reg' [] [.no, .no, .no, .no, .c ⟨63, [(.rf 0 0 a0.length 1 (a0.length * 1)), (I (a0.length : Int)), (.fn (.func 59) [] [(.pt 40 0 1)])], [(0, (a0.flatMap encI)), (40, [(.sl true a1c0.length 3 (a1c0.flatMap e49))])], (.tp []), [(0, (x1.1.flatMap encI)), (40, [(.sl true x1.2.length 3 (x1.2.flatMap e49))])], [], [(0, 0), (24, 40)], [(0, 0), (24, 40)], (.tp []), [(0, (x1.1.flatMap encI)), (24, [(.sl true x1.2.length 3 (x1.2.flatMap e49))])]⟩] ⟨[], [(0, (x1.1.flatMap encI)), (24, [(.sl true x1.2.length 3 (x1.2.flatMap e49))])], [COK (hget [(0, (a0.flatMap encI)), (24, [(.sl true a1c0.length 3 (a1c0.flatMap e49))])]) [(.rf 0 0 a0.length 1 (a0.length * 1)), (I (a0.length : Int)), (.fn (.func 59) [] [(.pt 24 0 1)])] ⟨63, [(.rf 0 0 a0.length 1 (a0.length * 1)), (I (a0.length : Int)), (.fn (.func 59) [] [(.pt 40 0 1)])], [(0, (a0.flatMap encI)), (40, [(.sl true a1c0.length 3 (a1c0.flatMap e49))])], (.tp []), [(0, (x1.1.flatMap encI)), (40, [(.sl true x1.2.length 3 (x1.2.flatMap e49))])], [], [(0, 0), (24, 40)], [(0, 0), (24, 40)], (.tp []), [(0, (x1.1.flatMap encI)), (24, [(.sl true x1.2.length 3 (x1.2.flatMap e49))])]⟩], [⟨63, [(.rf 0 0 a0.length 1 (a0.length * 1)), (I (a0.length : Int)), (.fn (.func 59) [] [(.pt 40 0 1)])], [(0, (a0.flatMap encI)), (40, [(.sl true a1c0.length 3 (a1c0.flatMap e49))])], (.tp []), [(0, (x1.1.flatMap encI)), (40, [(.sl true x1.2.length 3 (x1.2.flatMap e49))])], [], [(0, 0), (24, 40)], [(0, 0), (24, 40)], (.tp []), [(0, (x1.1.flatMap encI)), (24, [(.sl true x1.2.length 3 (x1.2.flatMap e49))])]⟩]⟩ [] (alc (cokW true (a2c (.rf (memP_mem (p := (0, 0)) rfl)) (a2c (.z .s) (a2c (cnv_fn a2n (a2c (.pt (memP_mem (p := (24, 40)) rfl)) a2n)) a2n))) (akc ⟨_, _, rfl, rfl, (rowF encI_ok _)⟩ (akc ⟨_, _, rfl, rfl, (a2c (.z (frz_sl e49_ok (fun h => h))) a2n)⟩ akn)) (akc (.inl rfl) (akc (.inl rfl) akn)) (bck_tp a2n) (akc ⟨_, _, rfl, rfl, rowB encI_c _⟩ (akc ⟨_, _, rfl, rfl, (a2c (.z (clnS e49_c (fun h => rfl))) a2n)⟩ akn)) (fun h => rfl)) aln) (acal (slices_stableCmpFunc_1.J k a0 (a0.length : Int) a1c0 _ hx1) nocal) ?_
  have h := Option.some.inj h
  subst h
  exact .fin' [] [(0, 0), (24, 24)] (.tp []) [] aln (shc 0 (rowF encI_ok _) (shc 24 (a2c (.z (frz_sl e49_ok (fun h => h))) a2n) shn)) (cnv_tp a2n)
theorem slices_SortStableFunc_1.len (k : Nat) (a0 : (List Int)) (a1c0 : (List S49)) (r : ((List Int) × (List S49))) (h : slices_SortStableFunc_1.f k a0 a1c0 = some r) : r.1.length = a0.length := by
  unfold slices_SortStableFunc_1.f at h
  obtain ⟨x1, hx1, h⟩ := Option.bind_eq_some_iff.mp h
  have lhx1 := slices_stableCmpFunc_1.len k a0 (a0.length : Int) a1c0 _ hx1
  have h := Option.some.inj h
  subst h
  first | rfl | (simp only [List.length_set, lhx1]; done) | exact ⟨by first | rfl | simp only [List.length_set, lhx1]⟩
/-! impl_inTurn: function 51 -/
def impl_inTurn.l0 : Nat → (List S49) → (List Int) → Int → Option (List Int)
 | 0, _, _, _ => none
 | k + 1, a0, x1, x2 => (if x2 < ((List.replicate (a0.length : Int).toNat (0 : Int)).length : Int) then (if 0 ≤ x2 then (if x2 < (x1.length : Int) then (impl_inTurn.l0 k a0 (x1.set x2.toNat x2) (wrap64 (x2 + 1))) else none) else none) else ((slices_SortStableFunc_1.f k x1 a0).bind fun x3 => (some x3.1)))
def impl_inTurn.f (k : Nat) (a0 : (List S49)) : Option (List Int) := (if 0 ≤ (a0.length : Int) then (if (a0.length : Int) * 8 ≤ 281474976710656 then (impl_inTurn.l0 k a0 (List.replicate (a0.length : Int).toNat (0 : Int)) 0) else none) else none)
theorem impl_inTurn.lab : ∀ k, (∀ (a0 : (List S49)) (x1 : (List Int)) (x2 : Int) (r : (List Int)), impl_inTurn.l0 k a0 x1 x2 = some r → J prog (.run 51 [] [l_ 58, b_ 0, c_ 15] [(1, (.pt 256 0 1)), (3, (.rf 514 0 x1.length 1 (x1.length * 1))), (9, (I ((List.replicate (a0.length : Int).toNat (0 : Int)).length : Int))), (10, (I x2))] [(256, [(.sl true a0.length 3 (a0.flatMap e49))]), (514, (x1.flatMap encI))] (.rf 514 0 r.length 1 (r.length * 1)) [(514, (r.flatMap encI))]))
 | 0 => (by intro a0 x1 x2 r h; unfold impl_inTurn.l0 at h; cases h)
 | k + 1 => by
  have ih0 := impl_inTurn.lab k
  · intro a0 x1 x2 r h
    unfold impl_inTurn.l0 at h
    refine .loop' [c_ 232, c_ 233, l_ 58, b_ 0, c_ 15] ?_
    refine .reg' [1, 3, 9, 10, 11] [] ⟨[(1, (.pt 256 0 1)), (3, (.rf 514 0 x1.length 1 (x1.length * 1))), (9, (I ((List.replicate (a0.length : Int).toNat (0 : Int)).length : Int))), (10, (I x2)), (11, (B (decide (x2 < ((List.replicate (a0.length : Int).toNat (0 : Int)).length : Int)))))], [(256, [(.sl true a0.length 3 (a0.flatMap e49))]), (514, (x1.flatMap encI))], [], []⟩ [c_ 466, c_ 467, l_ 58, b_ 0, c_ 15] aln nocal ?_
    by_cases c3 : x2 < ((List.replicate (a0.length : Int).toNat (0 : Int)).length : Int)
    · rw [if_pos c3] at h
      refine .cond' (.tmp 11) true [c_ 3736, c_ 3737, b_ 1, c_ 935, l_ 58, b_ 0, c_ 15] (bT (dT c3)) ?_
      refine .reg' [1, 3, 4, 9, 10] [] ⟨[(1, (.pt 256 0 1)), (3, (.rf 514 0 x1.length 1 (x1.length * 1))), (4, (I x2)), (9, (I ((List.replicate (a0.length : Int).toNat (0 : Int)).length : Int))), (10, (I x2))], [(256, [(.sl true a0.length 3 (a0.flatMap e49))]), (514, (x1.flatMap encI))], [], []⟩ [c_ 3737, b_ 1, c_ 935, l_ 58, b_ 0, c_ 15] aln nocal ?_
      by_cases c4 : 0 ≤ x2
      · rw [if_pos c4] at h
        by_cases c5 : x2 < (x1.length : Int)
        · rw [if_pos c5] at h
          refine .reg' [1, 3, 9, 10] [.no, .no, .no, .no, .w .un ((x1.set x2.toNat x2).flatMap encI)] ⟨[(1, (.pt 256 0 1)), (3, (.rf 514 0 x1.length 1 (x1.length * 1))), (9, (I ((List.replicate (a0.length : Int).toNat (0 : Int)).length : Int))), (10, (I x2))], [(256, [(.sl true a0.length 3 (a0.flatMap e49))]), (514, ((x1.set x2.toNat x2).flatMap encI))], [(0 : Int) ≤ x2 ∧ x2 < (x1.length : Int), V.un = V.un, spl (x1.flatMap encI) (0 + x2.toNat * 1) [(I x2)] = ((x1.set x2.toNat x2).flatMap encI), x1.length * 1 = (x1.flatMap encI).length ∧ 0 + x2.toNat * 1 + 1 ≤ (x1.flatMap encI).length], []⟩ [c_ 935, l_ 58, b_ 0, c_ 15] (alc ⟨c4, c5⟩ (alc rfl (alc (st_row1 encI_ok c4 c5 (I x2) rfl) (alc (okA0 encI_ok c4 c5 (by decide)) aln)))) nocal ?_
          refine .eqs (env2 := [(1, (.pt 256 0 1)), (3, (.rf 514 0 ((x1.set x2.toNat x2).length) 1 ((x1.set x2.toNat x2).length * 1))), (9, (I ((List.replicate (a0.length : Int).toNat (0 : Int)).length : Int))), (10, (I x2))]) (H2 := [(256, [(.sl true a0.length 3 (a0.flatMap e49))]), (514, ((x1.set x2.toNat x2).flatMap encI))]) (by first | (simp only [List.length_set]; done) | simp) (by first | rfl | (simp only [List.length_set]; done) | simp) ?_
          refine .reg' [1, 3, 9, 10] [] ⟨[(1, (.pt 256 0 1)), (3, (.rf 514 0 ((x1.set x2.toNat x2).length) 1 ((x1.set x2.toNat x2).length * 1))), (9, (I ((List.replicate (a0.length : Int).toNat (0 : Int)).length : Int))), (10, (I (wrap64 (x2 + 1))))], [(256, [(.sl true a0.length 3 (a0.flatMap e49))]), (514, ((x1.set x2.toNat x2).flatMap encI))], [], []⟩ [l_ 58, b_ 0, c_ 15] aln nocal ?_
          exact ih0 a0 (x1.set x2.toNat x2) (wrap64 (x2 + 1)) _ h
        · rw [if_neg c5] at h
          cases h
      · rw [if_neg c4] at h
        cases h
    · rw [if_neg c3] at h
      refine .cond' (.tmp 11) false [c_ 30, c_ 31] (bF (dF c3)) ?_
      obtain ⟨x3, hx3, h⟩ := Option.bind_eq_some_iff.mp h
      refine .reg' [3] [.no, .no, .c ⟨58, [(.rf 0 0 x1.length 1 (x1.length * 1)), (.fn (.func 59) [] [(.pt 24 0 1)])], [(0, (x1.flatMap encI)), (24, [(.sl true a0.length 3 (a0.flatMap e49))])], (.tp []), [(0, (x3.1.flatMap encI)), (24, [(.sl true x3.2.length 3 (x3.2.flatMap e49))])], [], [(514, 0), (256, 24)], [(514, 0), (256, 24)], (.tp []), [(514, (x3.1.flatMap encI)), (256, [(.sl true x3.2.length 3 (x3.2.flatMap e49))])]⟩] ⟨[(3, (.rf 514 0 x1.length 1 (x1.length * 1)))], [(256, [(.sl true x3.2.length 3 (x3.2.flatMap e49))]), (514, (x3.1.flatMap encI))], [COK (hget [(256, [(.sl true a0.length 3 (a0.flatMap e49))]), (514, (x1.flatMap encI))]) [(.rf 514 0 x1.length 1 (x1.length * 1)), (.fn (.func 59) [] [(.pt 256 0 1)])] ⟨58, [(.rf 0 0 x1.length 1 (x1.length * 1)), (.fn (.func 59) [] [(.pt 24 0 1)])], [(0, (x1.flatMap encI)), (24, [(.sl true a0.length 3 (a0.flatMap e49))])], (.tp []), [(0, (x3.1.flatMap encI)), (24, [(.sl true x3.2.length 3 (x3.2.flatMap e49))])], [], [(514, 0), (256, 24)], [(514, 0), (256, 24)], (.tp []), [(514, (x3.1.flatMap encI)), (256, [(.sl true x3.2.length 3 (x3.2.flatMap e49))])]⟩], [⟨58, [(.rf 0 0 x1.length 1 (x1.length * 1)), (.fn (.func 59) [] [(.pt 24 0 1)])], [(0, (x1.flatMap encI)), (24, [(.sl true a0.length 3 (a0.flatMap e49))])], (.tp []), [(0, (x3.1.flatMap encI)), (24, [(.sl true x3.2.length 3 (x3.2.flatMap e49))])], [], [(514, 0), (256, 24)], [(514, 0), (256, 24)], (.tp []), [(514, (x3.1.flatMap encI)), (256, [(.sl true x3.2.length 3 (x3.2.flatMap e49))])]⟩]⟩ [c_ 62, c_ 63] (alc (cokW true (a2c (.rf (memP_mem (p := (514, 0)) rfl)) (a2c (cnv_fn a2n (a2c (.pt (memP_mem (p := (256, 24)) rfl)) a2n)) a2n)) (akc ⟨_, _, rfl, rfl, (rowF encI_ok _)⟩ (akc ⟨_, _, rfl, rfl, (a2c (.z (frz_sl e49_ok (fun h => h))) a2n)⟩ akn)) (akc (.inl rfl) (akc (.inl rfl) akn)) (bck_tp a2n) (akc ⟨_, _, rfl, rfl, rowB encI_c _⟩ (akc ⟨_, _, rfl, rfl, (a2c (.z (clnS e49_c (fun h => rfl))) a2n)⟩ akn)) (fun h => rfl)) aln) (acal (slices_SortStableFunc_1.J k x1 a0 _ hx3) nocal) ?_
      refine .eqs (env2 := [(3, (.rf 514 0 x3.1.length 1 (x3.1.length * 1)))]) (H2 := [(256, [(.sl true x3.2.length 3 (x3.2.flatMap e49))]), (514, (x3.1.flatMap encI))]) (by first | (simp only [List.length_set, (slices_SortStableFunc_1.len k x1 a0 _ hx3)]; done) | simp) (by first | rfl | (simp only [List.length_set, (slices_SortStableFunc_1.len k x1 a0 _ hx3)]; done) | simp) ?_
      refine .reg' [2] [] ⟨[(2, (.rf 514 0 x3.1.length 1 (x3.1.length * 1)))], [(256, [(.sl true x3.2.length 3 (x3.2.flatMap e49))]), (514, (x3.1.flatMap encI))], [], []⟩ [c_ 63] aln nocal ?_
      have h := Option.some.inj h
      subst h
      exact .fin' [] [(514, 514)] (.rf 514 0 x3.1.length 1 (x3.1.length * 1)) [] aln (shc 514 (rowF encI_ok _) shn) (.rf (memP_mem (p := (514, 514)) rfl))
theorem impl_inTurn.J (k : Nat) (a0 : (List S49)) (r : (List Int)) (h : impl_inTurn.f k a0 = some r) : J prog (.call 51 [(.sl true a0.length 3 (a0.flatMap e49))] [] (.rf 514 0 r.length 1 (r.length * 1)) [(514, (r.flatMap encI))]) := by
  unfold impl_inTurn.f at h
  have ih0 := impl_inTurn.lab k
  refine .call' [c_ 2, c_ 3] ?_
  refine .reg' [1] [] ⟨[(1, (.pt 256 0 1))], [(256, [(.sl true a0.length 3 (a0.flatMap e49))])], [], []⟩ [c_ 6, c_ 7] aln nocal ?_
  by_cases c1 : 0 ≤ (a0.length : Int)
  · rw [if_pos c1] at h
    by_cases c2 : (a0.length : Int) * 8 ≤ 281474976710656
    · rw [if_pos c2] at h
      refine .reg' [1, 3] [.no, .no, .w (.rf 514 0 ((List.replicate (a0.length : Int).toNat (0 : Int)).length) 1 ((List.replicate (a0.length : Int).toNat (0 : Int)).length * 1)) ((List.replicate (a0.length : Int).toNat (0 : Int)).flatMap encI)] ⟨[(1, (.pt 256 0 1)), (3, (.rf 514 0 ((List.replicate (a0.length : Int).toNat (0 : Int)).length) 1 ((List.replicate (a0.length : Int).toNat (0 : Int)).length * 1)))], [(256, [(.sl true a0.length 3 (a0.flatMap e49))]), (514, ((List.replicate (a0.length : Int).toNat (0 : Int)).flatMap encI))], [1 = 1 ∧ 0 + 1 ≤ 1, V.rf 514 0 (a0.length : Int).toNat 1 ((a0.length : Int).toNat * 1) = (.rf 514 0 ((List.replicate (a0.length : Int).toNat (0 : Int)).length) 1 ((List.replicate (a0.length : Int).toNat (0 : Int)).length * 1)), rept (a0.length : Int).toNat [(I 0)] = (List.replicate (a0.length : Int).toNat (0 : Int)).flatMap encI, (a0.length : Int) = (a0.length : Int) ∧ 0 ≤ (a0.length : Int) ∧ (a0.length : Int) * 8 ≤ 281474976710656 ∧ (a0.length : Int) ≤ 9223372036854775807], []⟩ [c_ 28, c_ 29, c_ 15] (alc ⟨rfl, by decide⟩ (alc mkV (alc (row_rept1 (enc := encI) (x := 0) (v := (I 0)) rfl _) (alc ⟨rfl, c1, c2, by omega⟩ aln)))) nocal ?_
      refine .reg' [1, 3, 9, 10] [] ⟨[(1, (.pt 256 0 1)), (3, (.rf 514 0 ((List.replicate (a0.length : Int).toNat (0 : Int)).length) 1 ((List.replicate (a0.length : Int).toNat (0 : Int)).length * 1))), (9, (I ((List.replicate (a0.length : Int).toNat (0 : Int)).length : Int))), (10, (I 0))], [(256, [(.sl true a0.length 3 (a0.flatMap e49))]), (514, ((List.replicate (a0.length : Int).toNat (0 : Int)).flatMap encI))], [], []⟩ [l_ 58, b_ 0, c_ 15] aln nocal ?_
      exact ih0 a0 (List.replicate (a0.length : Int).toNat (0 : Int)) 0 _ h
    · rw [if_neg c2] at h
      cases h
  · rw [if_neg c1] at h
    cases h
/-! impl_Stay_meets: function 56 -/
def impl_Stay_meets.f (a0 : S49) (a1 : S49) (a2 : Int) : Option Bool := ((impl_Stay_holds.f a0 a1.f0 a2).bind fun x1 => (if x1 = true then (some true) else ((impl_Stay_holds.f a1 a0.f0 a2).bind fun x2 => (some x2))))
theorem impl_Stay_meets.J (a0 : S49) (a1 : S49) (a2 : Int) (r : Bool) (h : impl_Stay_meets.f a0 a1 a2 = some r) : J prog (.call 56 [(.ag [(I a0.f0), (I a0.f1), (I a0.f2)]), (.ag [(I a1.f0), (I a1.f1), (I a1.f2)]), (I a2)] [] (B r) []) := by
  unfold impl_Stay_meets.f at h
  refine .call' [c_ 2, c_ 3] ?_
  refine .reg' [2, 3, 4] [] ⟨[(2, (I a2)), (3, (.pt 256 0 3)), (4, (.pt 257 0 3))], [(256, [(I a0.f0), (I a0.f1), (I a0.f2)]), (257, [(I a1.f0), (I a1.f1), (I a1.f2)])], [], []⟩ [c_ 6, c_ 7] aln nocal ?_
  obtain ⟨x1, hx1, h⟩ := Option.bind_eq_some_iff.mp h
  by_cases c1 : x1 = true
  · rw [if_pos c1] at h
    refine .reg' [6] [.no, .no, .no, .no, .c ⟨47, [(.ag [(I a0.f0), (I a0.f1), (I a0.f2)]), (I a1.f0), (I a2)], [], (B x1), [], [], [], [], (B x1), []⟩, .v (B true)] ⟨[(6, (B true))], [(256, [(I a0.f0), (I a0.f1), (I a0.f2)]), (257, [(I a1.f0), (I a1.f1), (I a1.f2)])], [3 = 3 ∧ 0 + 3 ≤ 3, 3 = 3 ∧ 0 + 1 ≤ 3, COK (hget [(256, [(I a0.f0), (I a0.f1), (I a0.f2)]), (257, [(I a1.f0), (I a1.f1), (I a1.f2)])]) [(.ag [(I a0.f0), (I a0.f1), (I a0.f2)]), (I a1.f0), (I a2)] ⟨47, [(.ag [(I a0.f0), (I a0.f1), (I a0.f2)]), (I a1.f0), (I a2)], [], (B x1), [], [], [], [], (B x1), []⟩, (B x1 : V) = B true], [⟨47, [(.ag [(I a0.f0), (I a0.f1), (I a0.f2)]), (I a1.f0), (I a2)], [], (B x1), [], [], [], [], (B x1), []⟩]⟩ [c_ 7] (alc ⟨rfl, by decide⟩ (alc ⟨rfl, by decide⟩ (alc (cok0 false (a2c (.z (frz_ag (a2c .s (a2c .s (a2c .s a2n))))) (a2c (.z .s) (a2c (.z .s) a2n))) (.z .s) (fun h => absurd h (by decide))) (alc (bT c1) aln)))) (acal (impl_Stay_holds.J a0 a1.f0 a2 _ hx1) nocal) ?_
    have h := Option.some.inj h
    subst h
    exact .fin0 [] (B true) [] aln (.z .s)
  · rw [if_neg c1] at h
    obtain ⟨x2, hx2, h⟩ := Option.bind_eq_some_iff.mp h
    refine .reg' [6] [.no, .no, .no, .no, .c ⟨47, [(.ag [(I a0.f0), (I a0.f1), (I a0.f2)]), (I a1.f0), (I a2)], [], (B x1), [], [], [], [], (B x1), []⟩, .v (B false), .no, .no, .no, .no, .c ⟨47, [(.ag [(I a1.f0), (I a1.f1), (I a1.f2)]), (I a0.f0), (I a2)], [], (B x2), [], [], [], [], (B x2), []⟩] ⟨[(6, (B x2))], [(256, [(I a0.f0), (I a0.f1), (I a0.f2)]), (257, [(I a1.f0), (I a1.f1), (I a1.f2)])], [3 = 3 ∧ 0 + 3 ≤ 3, 3 = 3 ∧ 0 + 1 ≤ 3, COK (hget [(256, [(I a0.f0), (I a0.f1), (I a0.f2)]), (257, [(I a1.f0), (I a1.f1), (I a1.f2)])]) [(.ag [(I a0.f0), (I a0.f1), (I a0.f2)]), (I a1.f0), (I a2)] ⟨47, [(.ag [(I a0.f0), (I a0.f1), (I a0.f2)]), (I a1.f0), (I a2)], [], (B x1), [], [], [], [], (B x1), []⟩, (B x1 : V) = B false, 3 = 3 ∧ 0 + 3 ≤ 3, 3 = 3 ∧ 0 + 1 ≤ 3, COK (hget [(256, [(I a0.f0), (I a0.f1), (I a0.f2)]), (257, [(I a1.f0), (I a1.f1), (I a1.f2)])]) [(.ag [(I a1.f0), (I a1.f1), (I a1.f2)]), (I a0.f0), (I a2)] ⟨47, [(.ag [(I a1.f0), (I a1.f1), (I a1.f2)]), (I a0.f0), (I a2)], [], (B x2), [], [], [], [], (B x2), []⟩], [⟨47, [(.ag [(I a0.f0), (I a0.f1), (I a0.f2)]), (I a1.f0), (I a2)], [], (B x1), [], [], [], [], (B x1), []⟩, ⟨47, [(.ag [(I a1.f0), (I a1.f1), (I a1.f2)]), (I a0.f0), (I a2)], [], (B x2), [], [], [], [], (B x2), []⟩]⟩ [c_ 7] (alc ⟨rfl, by decide⟩ (alc ⟨rfl, by decide⟩ (alc (cok0 false (a2c (.z (frz_ag (a2c .s (a2c .s (a2c .s a2n))))) (a2c (.z .s) (a2c (.z .s) a2n))) (.z .s) (fun h => absurd h (by decide))) (alc (bF (vF c1)) (alc ⟨rfl, by decide⟩ (alc ⟨rfl, by decide⟩ (alc (cok0 false (a2c (.z (frz_ag (a2c .s (a2c .s (a2c .s a2n))))) (a2c (.z .s) (a2c (.z .s) a2n))) (.z .s) (fun h => absurd h (by decide))) aln))))))) (acal (impl_Stay_holds.J a0 a1.f0 a2 _ hx1) (acal (impl_Stay_holds.J a1 a0.f0 a2 _ hx2) nocal)) ?_
    have h := Option.some.inj h
    subst h
    exact .fin0 [] (B x2) [] aln (.z .s)
/-! impl_room: function 49 -/
def impl_room.l0 : Nat → (List S49) → Int → (List Int) → Int → Int → Int → Option Bool
 | 0, _, _, _, _, _, _ => none
 | k + 1, a0, a1, a2, a3, a4, x1 => (if x1 < (a2.length : Int) then (if 0 ≤ x1 then (if x1 = a4 then (impl_room.l0 k a0 a1 a2 a3 a4 (wrap64 (x1 + 1))) else (if (at_ a2 x1) = a3 then (if 0 ≤ a4 then (if a4 < (a0.length : Int) then (if x1 < (a0.length : Int) then ((impl_Stay_meets.f (at_ a0 a4) (at_ a0 x1) a1).bind fun x2 => (if x2 = true then (some false) else (impl_room.l0 k a0 a1 a2 a3 a4 (wrap64 (x1 + 1))))) else none) else none) else none) else (impl_room.l0 k a0 a1 a2 a3 a4 (wrap64 (x1 + 1))))) else none) else (some true))
def impl_room.f (k : Nat) (a0 : (List S49)) (a1 : Int) (a2 : (List Int)) (a3 : Int) (a4 : Int) : Option Bool := (impl_room.l0 k a0 a1 a2 a3 a4 0)
theorem impl_room.lab : ∀ k, (∀ (a0 : (List S49)) (a1 : Int) (a2 : (List Int)) (a3 : Int) (a4 : Int) (x1 : Int) (r : Bool), impl_room.l0 k a0 a1 a2 a3 a4 x1 = some r → J prog (.run 49 [] [l_ 26, b_ 0, c_ 7] [(0, (.sl true a0.length 3 (a0.flatMap e49))), (1, (I a1)), (3, (I a3)), (4, (I a4)), (13, (.sl true a2.length 1 (a2.flatMap encI))), (14, (I (a2.length : Int))), (15, (I x1))] [] (B r) []))
 | 0 => (by intro a0 a1 a2 a3 a4 x1 r h; unfold impl_room.l0 at h; cases h)
 | k + 1 => by
  have ih0 := impl_room.lab k
  · intro a0 a1 a2 a3 a4 x1 r h
    unfold impl_room.l0 at h
    refine .loop' [c_ 104, c_ 105, l_ 26, b_ 0, c_ 7] ?_
    refine .reg' [0, 1, 3, 4, 13, 14, 15, 16] [] ⟨[(0, (.sl true a0.length 3 (a0.flatMap e49))), (1, (I a1)), (3, (I a3)), (4, (I a4)), (13, (.sl true a2.length 1 (a2.flatMap encI))), (14, (I (a2.length : Int))), (15, (I x1)), (16, (B (decide (x1 < (a2.length : Int)))))], [], [], []⟩ [c_ 210, c_ 211, l_ 26, b_ 0, c_ 7] aln nocal ?_
    by_cases c1 : x1 < (a2.length : Int)
    · rw [if_pos c1] at h
      refine .cond' (.tmp 16) true [c_ 1688, c_ 1689, b_ 1, c_ 423, l_ 26, b_ 0, c_ 7] (bT (dT c1)) ?_
      by_cases c2 : 0 ≤ x1
      · rw [if_pos c2] at h
        refine .reg' [0, 1, 3, 4, 11, 12, 13, 14, 15] [.no, .no, .v (I (at_ a2 x1))] ⟨[(0, (.sl true a0.length 3 (a0.flatMap e49))), (1, (I a1)), (3, (I a3)), (4, (I a4)), (11, (I x1)), (12, (I (at_ a2 x1))), (13, (.sl true a2.length 1 (a2.flatMap encI))), (14, (I (a2.length : Int))), (15, (I x1))], [], [(0 : Int) ≤ x1 ∧ x1 < (a2.length : Int), rdC prog 3 ((a2.flatMap encI).drop (x1.toNat * 1)) = (I (at_ a2 x1)), 1 ≤ ((a2.flatMap encI).drop (x1.toNat * 1)).length], []⟩ [c_ 3378, c_ 3379, b_ 1, c_ 423, l_ 26, b_ 0, c_ 7] (alc ⟨c2, c1⟩ (alc (ldC1 encI_ok rfl c2 c1) (alc (okI encI_ok c2 c1 (by decide)) aln))) nocal ?_
        by_cases c3 : x1 = a4
        · rw [if_pos c3] at h
          refine .reg' [0, 1, 3, 4, 13, 14, 15, 39] [.no, .no, .no, .v (B false)] ⟨[(0, (.sl true a0.length 3 (a0.flatMap e49))), (1, (I a1)), (3, (I a3)), (4, (I a4)), (13, (.sl true a2.length 1 (a2.flatMap encI))), (14, (I (a2.length : Int))), (15, (I x1)), (39, (B false))], [], [(B (!(x1 == a4)) : V) = B false], []⟩ [c_ 3379, b_ 1, c_ 423, l_ 26, b_ 0, c_ 7] (alc (bF (nF (qT c3))) aln) nocal ?_
          refine .cond' (.tmp 39) false [c_ 423, l_ 26, b_ 0, c_ 7] (rfl) ?_
          refine .reg' [0, 1, 3, 4, 13, 14, 15] [] ⟨[(0, (.sl true a0.length 3 (a0.flatMap e49))), (1, (I a1)), (3, (I a3)), (4, (I a4)), (13, (.sl true a2.length 1 (a2.flatMap encI))), (14, (I (a2.length : Int))), (15, (I (wrap64 (x1 + 1))))], [], [], []⟩ [l_ 26, b_ 0, c_ 7] aln nocal ?_
          exact ih0 a0 a1 a2 a3 a4 (wrap64 (x1 + 1)) _ h
        · rw [if_neg c3] at h
          by_cases c4 : (at_ a2 x1) = a3
          · rw [if_pos c4] at h
            by_cases c5 : 0 ≤ a4
            · rw [if_pos c5] at h
              by_cases c6 : a4 < (a0.length : Int)
              · rw [if_pos c6] at h
                by_cases c7 : x1 < (a0.length : Int)
                · rw [if_pos c7] at h
                  obtain ⟨x2, hx2, h⟩ := Option.bind_eq_some_iff.mp h
                  refine .reg' [0, 1, 3, 4, 13, 14, 15, 39] [.no, .no, .no, .v (B true), .no, .no, .no, .no, .v (B true), .no, .no, .no, .v (.ag [(I (at_ a0 a4).f0), (I (at_ a0 a4).f1), (I (at_ a0 a4).f2)]), .no, .no, .no, .v (.ag [(I (at_ a0 x1).f0), (I (at_ a0 x1).f1), (I (at_ a0 x1).f2)]), .no, .c ⟨56, [(.ag [(I (at_ a0 a4).f0), (I (at_ a0 a4).f1), (I (at_ a0 a4).f2)]), (.ag [(I (at_ a0 x1).f0), (I (at_ a0 x1).f1), (I (at_ a0 x1).f2)]), (I a1)], [], (B x2), [], [], [], [], (B x2), []⟩] ⟨[(0, (.sl true a0.length 3 (a0.flatMap e49))), (1, (I a1)), (3, (I a3)), (4, (I a4)), (13, (.sl true a2.length 1 (a2.flatMap encI))), (14, (I (a2.length : Int))), (15, (I x1)), (39, (B x2))], [], [(B (!(x1 == a4)) : V) = B true, (B ((at_ a2 x1) == a3) : V) = B true, (0 : Int) ≤ a4 ∧ a4 < (a0.length : Int), rdC prog 50 ((a0.flatMap e49).drop (a4.toNat * 3)) = (.ag [(I (at_ a0 a4).f0), (I (at_ a0 a4).f1), (I (at_ a0 a4).f2)]), 3 ≤ ((a0.flatMap e49).drop (a4.toNat * 3)).length, (0 : Int) ≤ x1 ∧ x1 < (a0.length : Int), rdC prog 50 ((a0.flatMap e49).drop (x1.toNat * 3)) = (.ag [(I (at_ a0 x1).f0), (I (at_ a0 x1).f1), (I (at_ a0 x1).f2)]), 3 ≤ ((a0.flatMap e49).drop (x1.toNat * 3)).length, COK (hget []) [(.ag [(I (at_ a0 a4).f0), (I (at_ a0 a4).f1), (I (at_ a0 a4).f2)]), (.ag [(I (at_ a0 x1).f0), (I (at_ a0 x1).f1), (I (at_ a0 x1).f2)]), (I a1)] ⟨56, [(.ag [(I (at_ a0 a4).f0), (I (at_ a0 a4).f1), (I (at_ a0 a4).f2)]), (.ag [(I (at_ a0 x1).f0), (I (at_ a0 x1).f1), (I (at_ a0 x1).f2)]), (I a1)], [], (B x2), [], [], [], [], (B x2), []⟩], [⟨56, [(.ag [(I (at_ a0 a4).f0), (I (at_ a0 a4).f1), (I (at_ a0 a4).f2)]), (.ag [(I (at_ a0 x1).f0), (I (at_ a0 x1).f1), (I (at_ a0 x1).f2)]), (I a1)], [], (B x2), [], [], [], [], (B x2), []⟩]⟩ [c_ 3379, b_ 1, c_ 423, l_ 26, b_ 0, c_ 7] (alc (bT (nT (qF c3))) (alc (bT (qT c4)) (alc ⟨c5, c6⟩ (alc (ldA e49_ok rfl rfl c5 c6) (alc (okI e49_ok c5 c6 (by decide)) (alc ⟨c2, c7⟩ (alc (ldA e49_ok rfl rfl c2 c7) (alc (okI e49_ok c2 c7 (by decide)) (alc (cok0 false (a2c (.z (frz_ag (a2c .s (a2c .s (a2c .s a2n))))) (a2c (.z (frz_ag (a2c .s (a2c .s (a2c .s a2n))))) (a2c (.z .s) a2n))) (.z .s) (fun h => absurd h (by decide))) aln))))))))) (acal (impl_Stay_meets.J (at_ a0 a4) (at_ a0 x1) a1 _ hx2) nocal) ?_
                  by_cases c8 : x2 = true
                  · rw [if_pos c8] at h
                    refine .cond' (.tmp 39) true [c_ 13516, c_ 13517, b_ 1, c_ 423, l_ 26, b_ 0, c_ 7] (bT c8) ?_
                    refine .reg' [10] [] ⟨[(10, (B false))], [], [], []⟩ [c_ 13517, b_ 1, c_ 423, l_ 26, b_ 0, c_ 7] aln nocal ?_
                    have h := Option.some.inj h
                    subst h
                    exact .fin0 [] (B false) [] aln (.z .s)
                  · rw [if_neg c8] at h
                    refine .cond' (.tmp 39) false [c_ 423, l_ 26, b_ 0, c_ 7] (bF (vF c8)) ?_
                    refine .reg' [0, 1, 3, 4, 13, 14, 15] [] ⟨[(0, (.sl true a0.length 3 (a0.flatMap e49))), (1, (I a1)), (3, (I a3)), (4, (I a4)), (13, (.sl true a2.length 1 (a2.flatMap encI))), (14, (I (a2.length : Int))), (15, (I (wrap64 (x1 + 1))))], [], [], []⟩ [l_ 26, b_ 0, c_ 7] aln nocal ?_
                    exact ih0 a0 a1 a2 a3 a4 (wrap64 (x1 + 1)) _ h
                · rw [if_neg c7] at h
                  cases h
              · rw [if_neg c6] at h
                cases h
            · rw [if_neg c5] at h
              cases h
          · rw [if_neg c4] at h
            refine .reg' [0, 1, 3, 4, 13, 14, 15, 39] [.no, .no, .no, .v (B true), .no, .no, .no, .no, .v (B false)] ⟨[(0, (.sl true a0.length 3 (a0.flatMap e49))), (1, (I a1)), (3, (I a3)), (4, (I a4)), (13, (.sl true a2.length 1 (a2.flatMap encI))), (14, (I (a2.length : Int))), (15, (I x1)), (39, (B false))], [], [(B (!(x1 == a4)) : V) = B true, (B ((at_ a2 x1) == a3) : V) = B false], []⟩ [c_ 3379, b_ 1, c_ 423, l_ 26, b_ 0, c_ 7] (alc (bT (nT (qF c3))) (alc (bF (qF c4)) aln)) nocal ?_
            refine .cond' (.tmp 39) false [c_ 423, l_ 26, b_ 0, c_ 7] (rfl) ?_
            refine .reg' [0, 1, 3, 4, 13, 14, 15] [] ⟨[(0, (.sl true a0.length 3 (a0.flatMap e49))), (1, (I a1)), (3, (I a3)), (4, (I a4)), (13, (.sl true a2.length 1 (a2.flatMap encI))), (14, (I (a2.length : Int))), (15, (I (wrap64 (x1 + 1))))], [], [], []⟩ [l_ 26, b_ 0, c_ 7] aln nocal ?_
            exact ih0 a0 a1 a2 a3 a4 (wrap64 (x1 + 1)) _ h
      · rw [if_neg c2] at h
        cases h
    · rw [if_neg c1] at h
      refine .cond' (.tmp 16) false [c_ 14, c_ 15] (bF (dF c1)) ?_
      refine .reg' [10] [] ⟨[(10, (B true))], [], [], []⟩ [c_ 15] aln nocal ?_
      have h := Option.some.inj h
      subst h
      exact .fin0 [] (B true) [] aln (.z .s)
theorem impl_room.J (k : Nat) (a0 : (List S49)) (a1 : Int) (a2 : (List Int)) (a3 : Int) (a4 : Int) (r : Bool) (h : impl_room.f k a0 a1 a2 a3 a4 = some r) : J prog (.call 49 [(.sl true a0.length 3 (a0.flatMap e49)), (I a1), (.sl true a2.length 1 (a2.flatMap encI)), (I a3), (I a4)] [] (B r) []) := by
  unfold impl_room.f at h
  have ih0 := impl_room.lab k
  refine .call' [c_ 2, c_ 3] ?_
  refine .reg' [0, 1, 2, 3, 4] [] ⟨[(0, (.sl true a0.length 3 (a0.flatMap e49))), (1, (I a1)), (2, (.sl true a2.length 1 (a2.flatMap encI))), (3, (I a3)), (4, (I a4))], [], [], []⟩ [c_ 12, c_ 13, c_ 7] aln nocal ?_
  refine .reg' [0, 1, 3, 4, 13, 14, 15] [] ⟨[(0, (.sl true a0.length 3 (a0.flatMap e49))), (1, (I a1)), (3, (I a3)), (4, (I a4)), (13, (.sl true a2.length 1 (a2.flatMap encI))), (14, (I (a2.length : Int))), (15, (I 0))], [], [], []⟩ [l_ 26, b_ 0, c_ 7] aln nocal ?_
  exact ih0 a0 a1 a2 a3 a4 0 _ h
/-! impl_Assign: function 31 -/
mutual
def impl_Assign.l0 : Nat → (List Int) → (List S49) → Int → (List Int) → Int → Option (List Int)
 | 0, _, _, _, _, _ => none
 | k + 1, a0, a1, a2, x4, x5 => (if x5 < ((List.replicate (a1.length : Int).toNat (0 : Int)).length : Int) then (if 0 ≤ x5 then (if x5 < (x4.length : Int) then (impl_Assign.l0 k a0 a1 a2 (x4.set x5.toNat (-1)) (wrap64 (x5 + 1))) else none) else none) else ((impl_inTurn.f k a1).bind fun x6 => (impl_Assign.l1 k a0 a1 a2 x6 x4 0)))
def impl_Assign.l1 : Nat → (List Int) → (List S49) → Int → (List Int) → (List Int) → Int → Option (List Int)
 | 0, _, _, _, _, _, _ => none
 | k + 1, a0, a1, a2, x6, x7, x8 => (if x8 < (x6.length : Int) then (if 0 ≤ x8 then (impl_Assign.l2 k a0 a1 a2 x6 x7 x8 0) else none) else (some x7))
def impl_Assign.l2 : Nat → (List Int) → (List S49) → Int → (List Int) → (List Int) → Int → Int → Option (List Int)
 | 0, _, _, _, _, _, _, _ => none
 | k + 1, a0, a1, a2, x6, x7, x8, x9 => (if x9 < (a0.length : Int) then (if 0 ≤ x9 then (if 0 ≤ (at_ x6 x8) then (if (at_ x6 x8) < (a1.length : Int) then (if (at_ a0 x9) ≥ (at_ a1 (at_ x6 x8)).f2 then ((impl_room.f k a1 a2 x7 x9 (at_ x6 x8)).bind fun x10 => (if x10 = true then (if (at_ x6 x8) < (x7.length : Int) then (impl_Assign.l1 k a0 a1 a2 x6 (x7.set (at_ x6 x8).toNat x9) (wrap64 (x8 + 1))) else none) else (impl_Assign.l2 k a0 a1 a2 x6 x7 x8 (wrap64 (x9 + 1))))) else (impl_Assign.l2 k a0 a1 a2 x6 x7 x8 (wrap64 (x9 + 1)))) else none) else none) else none) else (impl_Assign.l1 k a0 a1 a2 x6 x7 (wrap64 (x8 + 1))))
end
def impl_Assign.f (k : Nat) (a0 : (List Int)) (a1 : (List S49)) (a2 : Int) : Option (List Int) := ((impl_BaysOk.f k a0).bind fun x1 => (if x1 = true then ((impl_StaysOk.f k a1).bind fun x2 => (if x2 = true then ((impl_gapOk.f a2).bind fun x3 => (if x3 = true then (if 0 ≤ (a1.length : Int) then (if (a1.length : Int) * 8 ≤ 281474976710656 then (impl_Assign.l0 k a0 a1 a2 (List.replicate (a1.length : Int).toNat (0 : Int)) 0) else none) else none) else (some ([] : List Int)))) else (some ([] : List Int)))) else (some ([] : List Int))))
theorem impl_Assign.lab : ∀ k, (∀ (a0 : (List Int)) (a1 : (List S49)) (a2 : Int) (x4 : (List Int)) (x5 : Int) (r : (List Int)), impl_Assign.l0 k a0 a1 a2 x4 x5 = some r → J prog (.run 31 [] [l_ 122, b_ 0, c_ 31] [(0, (.sl true a0.length 1 (a0.flatMap encI))), (1, (.sl true a1.length 3 (a1.flatMap e49))), (2, (I a2)), (7, (.rf 1026 0 x4.length 1 (x4.length * 1))), (30, (I ((List.replicate (a1.length : Int).toNat (0 : Int)).length : Int))), (31, (I x5))] [(1026, (x4.flatMap encI))] (.rf 1026 0 r.length 1 (r.length * 1)) [(1026, (r.flatMap encI))])) ∧ (∀ (a0 : (List Int)) (a1 : (List S49)) (a2 : Int) (x6 : (List Int)) (x7 : (List Int)) (x8 : Int) (r : (List Int)), impl_Assign.l1 k a0 a1 a2 x6 x7 x8 = some r → J prog (.run 31 [] [l_ 250, b_ 2, c_ 63] [(0, (.sl true a0.length 1 (a0.flatMap encI))), (1, (.sl true a1.length 3 (a1.flatMap e49))), (2, (I a2)), (7, (.rf 1026 0 x7.length 1 (x7.length * 1))), (39, (.rf 1002561 0 x6.length 1 (x6.length * 1))), (40, (I (x6.length : Int))), (41, (I x8))] [(1026, (x7.flatMap encI)), (1002561, (x6.flatMap encI))] (.rf 1026 0 r.length 1 (r.length * 1)) [(1026, (r.flatMap encI))])) ∧ (∀ (a0 : (List Int)) (a1 : (List S49)) (a2 : Int) (x6 : (List Int)) (x7 : (List Int)) (x8 : Int) (x9 : Int) (r : (List Int)), impl_Assign.l2 k a0 a1 a2 x6 x7 x8 x9 = some r → J prog (.run 31 [] [l_ 64102, b_ 4, b_ 3, c_ 4007, l_ 250, b_ 2, c_ 63] [(0, (.sl true a0.length 1 (a0.flatMap encI))), (1, (.sl true a1.length 3 (a1.flatMap e49))), (2, (I a2)), (7, (.rf 1026 0 x7.length 1 (x7.length * 1))), (10, (I (at_ x6 x8))), (39, (.rf 1002561 0 x6.length 1 (x6.length * 1))), (40, (I (x6.length : Int))), (41, (I x8)), (45, (.sl true a0.length 1 (a0.flatMap encI))), (46, (I (a0.length : Int))), (47, (I x9))] [(1026, (x7.flatMap encI)), (1002561, (x6.flatMap encI))] (.rf 1026 0 r.length 1 (r.length * 1)) [(1026, (r.flatMap encI))]))
 | 0 => ⟨(by intro a0 a1 a2 x4 x5 r h; unfold impl_Assign.l0 at h; cases h), (by intro a0 a1 a2 x6 x7 x8 r h; unfold impl_Assign.l1 at h; cases h), (by intro a0 a1 a2 x6 x7 x8 x9 r h; unfold impl_Assign.l2 at h; cases h)⟩
 | k + 1 => by
  obtain ⟨ih0, ih1, ih2⟩ := impl_Assign.lab k
  refine ⟨?_, ?_, ?_⟩
  · intro a0 a1 a2 x4 x5 r h
    unfold impl_Assign.l0 at h
    refine .loop' [c_ 488, c_ 489, l_ 122, b_ 0, c_ 31] ?_
    refine .reg' [0, 1, 2, 7, 30, 31, 32] [] ⟨[(0, (.sl true a0.length 1 (a0.flatMap encI))), (1, (.sl true a1.length 3 (a1.flatMap e49))), (2, (I a2)), (7, (.rf 1026 0 x4.length 1 (x4.length * 1))), (30, (I ((List.replicate (a1.length : Int).toNat (0 : Int)).length : Int))), (31, (I x5)), (32, (B (decide (x5 < ((List.replicate (a1.length : Int).toNat (0 : Int)).length : Int)))))], [(1026, (x4.flatMap encI))], [], []⟩ [c_ 978, c_ 979, l_ 122, b_ 0, c_ 31] aln nocal ?_
    by_cases c6 : x5 < ((List.replicate (a1.length : Int).toNat (0 : Int)).length : Int)
    · rw [if_pos c6] at h
      refine .cond' (.tmp 32) true [c_ 7832, c_ 7833, b_ 1, c_ 1959, l_ 122, b_ 0, c_ 31] (bT (dT c6)) ?_
      refine .reg' [0, 1, 2, 7, 8, 30, 31] [] ⟨[(0, (.sl true a0.length 1 (a0.flatMap encI))), (1, (.sl true a1.length 3 (a1.flatMap e49))), (2, (I a2)), (7, (.rf 1026 0 x4.length 1 (x4.length * 1))), (8, (I x5)), (30, (I ((List.replicate (a1.length : Int).toNat (0 : Int)).length : Int))), (31, (I x5))], [(1026, (x4.flatMap encI))], [], []⟩ [c_ 7833, b_ 1, c_ 1959, l_ 122, b_ 0, c_ 31] aln nocal ?_
      by_cases c7 : 0 ≤ x5
      · rw [if_pos c7] at h
        by_cases c8 : x5 < (x4.length : Int)
        · rw [if_pos c8] at h
          refine .reg' [0, 1, 2, 7, 30, 31] [.no, .no, .no, .w .un ((x4.set x5.toNat (-1)).flatMap encI)] ⟨[(0, (.sl true a0.length 1 (a0.flatMap encI))), (1, (.sl true a1.length 3 (a1.flatMap e49))), (2, (I a2)), (7, (.rf 1026 0 x4.length 1 (x4.length * 1))), (30, (I ((List.replicate (a1.length : Int).toNat (0 : Int)).length : Int))), (31, (I x5))], [(1026, ((x4.set x5.toNat (-1)).flatMap encI))], [(0 : Int) ≤ x5 ∧ x5 < (x4.length : Int), V.un = V.un, spl (x4.flatMap encI) (0 + x5.toNat * 1) [(I (-1))] = ((x4.set x5.toNat (-1)).flatMap encI), x4.length * 1 = (x4.flatMap encI).length ∧ 0 + x5.toNat * 1 + 1 ≤ (x4.flatMap encI).length], []⟩ [c_ 1959, l_ 122, b_ 0, c_ 31] (alc ⟨c7, c8⟩ (alc rfl (alc (st_row1 encI_ok c7 c8 (I (-1)) rfl) (alc (okA0 encI_ok c7 c8 (by decide)) aln)))) nocal ?_
          refine .eqs (env2 := [(0, (.sl true a0.length 1 (a0.flatMap encI))), (1, (.sl true a1.length 3 (a1.flatMap e49))), (2, (I a2)), (7, (.rf 1026 0 ((x4.set x5.toNat (-1)).length) 1 ((x4.set x5.toNat (-1)).length * 1))), (30, (I ((List.replicate (a1.length : Int).toNat (0 : Int)).length : Int))), (31, (I x5))]) (H2 := [(1026, ((x4.set x5.toNat (-1)).flatMap encI))]) (by first | (simp only [List.length_set]; done) | simp) (by first | rfl | (simp only [List.length_set]; done) | simp) ?_
          refine .reg' [0, 1, 2, 7, 30, 31] [] ⟨[(0, (.sl true a0.length 1 (a0.flatMap encI))), (1, (.sl true a1.length 3 (a1.flatMap e49))), (2, (I a2)), (7, (.rf 1026 0 ((x4.set x5.toNat (-1)).length) 1 ((x4.set x5.toNat (-1)).length * 1))), (30, (I ((List.replicate (a1.length : Int).toNat (0 : Int)).length : Int))), (31, (I (wrap64 (x5 + 1))))], [(1026, ((x4.set x5.toNat (-1)).flatMap encI))], [], []⟩ [l_ 122, b_ 0, c_ 31] aln nocal ?_
          exact ih0 a0 a1 a2 (x4.set x5.toNat (-1)) (wrap64 (x5 + 1)) _ h
        · rw [if_neg c8] at h
          cases h
      · rw [if_neg c7] at h
        cases h
    · rw [if_neg c6] at h
      refine .cond' (.tmp 32) false [c_ 124, c_ 125, c_ 63] (bF (dF c6)) ?_
      obtain ⟨x6, hx6, h⟩ := Option.bind_eq_some_iff.mp h
      refine .reg' [0, 1, 2, 7, 39, 40, 41] [.no, .c ⟨51, [(.sl true a1.length 3 (a1.flatMap e49))], [], (.rf 514 0 x6.length 1 (x6.length * 1)), [(514, (x6.flatMap encI))], [], [], [(1002561, 514)], (.rf 1002561 0 x6.length 1 (x6.length * 1)), [(1002561, (x6.flatMap encI))]⟩] ⟨[(0, (.sl true a0.length 1 (a0.flatMap encI))), (1, (.sl true a1.length 3 (a1.flatMap e49))), (2, (I a2)), (7, (.rf 1026 0 x4.length 1 (x4.length * 1))), (39, (.rf 1002561 0 x6.length 1 (x6.length * 1))), (40, (I (x6.length : Int))), (41, (I 0))], [(1026, (x4.flatMap encI)), (1002561, (x6.flatMap encI))], [COK (hget [(1026, (x4.flatMap encI))]) [(.sl true a1.length 3 (a1.flatMap e49))] ⟨51, [(.sl true a1.length 3 (a1.flatMap e49))], [], (.rf 514 0 x6.length 1 (x6.length * 1)), [(514, (x6.flatMap encI))], [], [], [(1002561, 514)], (.rf 1002561 0 x6.length 1 (x6.length * 1)), [(1002561, (x6.flatMap encI))]⟩], [⟨51, [(.sl true a1.length 3 (a1.flatMap e49))], [], (.rf 514 0 x6.length 1 (x6.length * 1)), [(514, (x6.flatMap encI))], [], [], [(1002561, 514)], (.rf 1002561 0 x6.length 1 (x6.length * 1)), [(1002561, (x6.flatMap encI))]⟩]⟩ [l_ 250, b_ 2, c_ 63] (alc (cokW false (a2c (.z (frz_sl e49_ok (fun h => h))) a2n) akn (akc (.inr rfl) akn) (.rf (memP_mem (p := (1002561, 514)) rfl)) (akc ⟨_, _, rfl, rfl, rowB encI_c _⟩ akn) (fun h => absurd h (by decide))) aln) (acal (impl_inTurn.J k a1 _ hx6) nocal) ?_
      exact ih1 a0 a1 a2 x6 x4 0 _ h
  · intro a0 a1 a2 x6 x7 x8 r h
    unfold impl_Assign.l1 at h
    refine .loop' [c_ 1000, c_ 1001, l_ 250, b_ 2, c_ 63] ?_
    refine .reg' [0, 1, 2, 7, 39, 40, 41, 42] [] ⟨[(0, (.sl true a0.length 1 (a0.flatMap encI))), (1, (.sl true a1.length 3 (a1.flatMap e49))), (2, (I a2)), (7, (.rf 1026 0 x7.length 1 (x7.length * 1))), (39, (.rf 1002561 0 x6.length 1 (x6.length * 1))), (40, (I (x6.length : Int))), (41, (I x8)), (42, (B (decide (x8 < (x6.length : Int)))))], [(1026, (x7.flatMap encI)), (1002561, (x6.flatMap encI))], [], []⟩ [c_ 2002, c_ 2003, l_ 250, b_ 2, c_ 63] aln nocal ?_
    by_cases c9 : x8 < (x6.length : Int)
    · rw [if_pos c9] at h
      refine .cond' (.tmp 42) true [c_ 16024, c_ 16025, b_ 3, c_ 4007, l_ 250, b_ 2, c_ 63] (bT (dT c9)) ?_
      by_cases c10 : 0 ≤ x8
      · rw [if_pos c10] at h
        refine .reg' [0, 1, 2, 7, 10, 39, 40, 41] [.no, .v (I (at_ x6 x8))] ⟨[(0, (.sl true a0.length 1 (a0.flatMap encI))), (1, (.sl true a1.length 3 (a1.flatMap e49))), (2, (I a2)), (7, (.rf 1026 0 x7.length 1 (x7.length * 1))), (10, (I (at_ x6 x8))), (39, (.rf 1002561 0 x6.length 1 (x6.length * 1))), (40, (I (x6.length : Int))), (41, (I x8))], [(1026, (x7.flatMap encI)), (1002561, (x6.flatMap encI))], [(0 : Int) ≤ x8 ∧ x8 < (x6.length : Int), rdC prog 3 ((x6.flatMap encI).drop (0 + x8.toNat * 1)) = (I (at_ x6 x8)), x6.length * 1 = (x6.flatMap encI).length ∧ 0 + x8.toNat * 1 + 1 ≤ (x6.flatMap encI).length], []⟩ [c_ 32050, c_ 32051, b_ 3, c_ 4007, l_ 250, b_ 2, c_ 63] (alc ⟨c10, c9⟩ (alc (ldC01 encI_ok rfl c10 c9) (alc (okA0 encI_ok c10 c9 (by decide)) aln))) nocal ?_
        refine .reg' [0, 1, 2, 7, 10, 39, 40, 41, 45, 46, 47] [] ⟨[(0, (.sl true a0.length 1 (a0.flatMap encI))), (1, (.sl true a1.length 3 (a1.flatMap e49))), (2, (I a2)), (7, (.rf 1026 0 x7.length 1 (x7.length * 1))), (10, (I (at_ x6 x8))), (39, (.rf 1002561 0 x6.length 1 (x6.length * 1))), (40, (I (x6.length : Int))), (41, (I x8)), (45, (.sl true a0.length 1 (a0.flatMap encI))), (46, (I (a0.length : Int))), (47, (I 0))], [(1026, (x7.flatMap encI)), (1002561, (x6.flatMap encI))], [], []⟩ [l_ 64102, b_ 4, b_ 3, c_ 4007, l_ 250, b_ 2, c_ 63] aln nocal ?_
        exact ih2 a0 a1 a2 x6 x7 x8 0 _ h
      · rw [if_neg c10] at h
        cases h
    · rw [if_neg c9] at h
      refine .cond' (.tmp 42) false [c_ 126, c_ 127] (bF (dF c9)) ?_
      refine .reg' [6] [] ⟨[(6, (.rf 1026 0 x7.length 1 (x7.length * 1)))], [(1026, (x7.flatMap encI)), (1002561, (x6.flatMap encI))], [], []⟩ [c_ 127] aln nocal ?_
      have h := Option.some.inj h
      subst h
      exact .fin' [] [(1026, 1026)] (.rf 1026 0 x7.length 1 (x7.length * 1)) [] aln (shc 1026 (rowF encI_ok _) shn) (.rf (memP_mem (p := (1026, 1026)) rfl))
  · intro a0 a1 a2 x6 x7 x8 x9 r h
    unfold impl_Assign.l2 at h
    refine .loop' [c_ 256408, c_ 256409, l_ 64102, b_ 4, b_ 3, c_ 4007, l_ 250, b_ 2, c_ 63] ?_
    refine .reg' [0, 1, 2, 7, 10, 39, 40, 41, 45, 46, 47, 48] [] ⟨[(0, (.sl true a0.length 1 (a0.flatMap encI))), (1, (.sl true a1.length 3 (a1.flatMap e49))), (2, (I a2)), (7, (.rf 1026 0 x7.length 1 (x7.length * 1))), (10, (I (at_ x6 x8))), (39, (.rf 1002561 0 x6.length 1 (x6.length * 1))), (40, (I (x6.length : Int))), (41, (I x8)), (45, (.sl true a0.length 1 (a0.flatMap encI))), (46, (I (a0.length : Int))), (47, (I x9)), (48, (B (decide (x9 < (a0.length : Int)))))], [(1026, (x7.flatMap encI)), (1002561, (x6.flatMap encI))], [], []⟩ [c_ 512818, c_ 512819, l_ 64102, b_ 4, b_ 3, c_ 4007, l_ 250, b_ 2, c_ 63] aln nocal ?_
    by_cases c11 : x9 < (a0.length : Int)
    · rw [if_pos c11] at h
      refine .cond' (.tmp 48) true [c_ 4102552, c_ 4102553, b_ 5, c_ 1025639, l_ 64102, b_ 4, b_ 3, c_ 4007, l_ 250, b_ 2, c_ 63] (bT (dT c11)) ?_
      by_cases c12 : 0 ≤ x9
      · rw [if_pos c12] at h
        refine .reg' [0, 1, 2, 7, 10, 11, 12, 39, 40, 41, 45, 46, 47] [.no, .no, .v (I (at_ a0 x9))] ⟨[(0, (.sl true a0.length 1 (a0.flatMap encI))), (1, (.sl true a1.length 3 (a1.flatMap e49))), (2, (I a2)), (7, (.rf 1026 0 x7.length 1 (x7.length * 1))), (10, (I (at_ x6 x8))), (11, (I x9)), (12, (I (at_ a0 x9))), (39, (.rf 1002561 0 x6.length 1 (x6.length * 1))), (40, (I (x6.length : Int))), (41, (I x8)), (45, (.sl true a0.length 1 (a0.flatMap encI))), (46, (I (a0.length : Int))), (47, (I x9))], [(1026, (x7.flatMap encI)), (1002561, (x6.flatMap encI))], [(0 : Int) ≤ x9 ∧ x9 < (a0.length : Int), rdC prog 3 ((a0.flatMap encI).drop (x9.toNat * 1)) = (I (at_ a0 x9)), 1 ≤ ((a0.flatMap encI).drop (x9.toNat * 1)).length], []⟩ [c_ 8205106, c_ 8205107, b_ 5, c_ 1025639, l_ 64102, b_ 4, b_ 3, c_ 4007, l_ 250, b_ 2, c_ 63] (alc ⟨c12, c11⟩ (alc (ldC1 encI_ok rfl c12 c11) (alc (okI encI_ok c12 c11 (by decide)) aln))) nocal ?_
        by_cases c13 : 0 ≤ (at_ x6 x8)
        · rw [if_pos c13] at h
          by_cases c14 : (at_ x6 x8) < (a1.length : Int)
          · rw [if_pos c14] at h
            by_cases c15 : (at_ a0 x9) ≥ (at_ a1 (at_ x6 x8)).f2
            · rw [if_pos c15] at h
              obtain ⟨x10, hx10, h⟩ := Option.bind_eq_some_iff.mp h
              refine .reg' [0, 1, 2, 7, 10, 11, 39, 40, 41, 45, 46, 47, 66] [.no, .no, .no, .no, .no, .v (I (at_ a1 (at_ x6 x8)).f2), .no, .v (B true), .no, .no, .no, .no, .no, .c ⟨49, [(.sl true a1.length 3 (a1.flatMap e49)), (I a2), (.sl true x7.length 1 (x7.flatMap encI)), (I x9), (I (at_ x6 x8))], [], (B x10), [], [1026], [], [], (B x10), []⟩] ⟨[(0, (.sl true a0.length 1 (a0.flatMap encI))), (1, (.sl true a1.length 3 (a1.flatMap e49))), (2, (I a2)), (7, (.rf 1026 0 x7.length 1 (x7.length * 1))), (10, (I (at_ x6 x8))), (11, (I x9)), (39, (.rf 1002561 0 x6.length 1 (x6.length * 1))), (40, (I (x6.length : Int))), (41, (I x8)), (45, (.sl true a0.length 1 (a0.flatMap encI))), (46, (I (a0.length : Int))), (47, (I x9)), (66, (B x10))], [(1026, (x7.flatMap encI)), (1002561, (x6.flatMap encI))], [(0 : Int) ≤ (at_ x6 x8) ∧ (at_ x6 x8) < (a1.length : Int), rdC prog 3 (((a1.flatMap e49).drop ((at_ x6 x8).toNat * 3)).drop 2) = (I (at_ a1 (at_ x6 x8)).f2), 1 ≤ (((a1.flatMap e49).drop ((at_ x6 x8).toNat * 3)).drop 2).length, (B (decide ((at_ a0 x9) ≥ (at_ a1 (at_ x6 x8)).f2)) : V) = B true, COK (hget [(1026, (x7.flatMap encI)), (1002561, (x6.flatMap encI))]) [(.sl true a1.length 3 (a1.flatMap e49)), (I a2), (.rf 1026 0 x7.length 1 (x7.length * 1)), (I x9), (I (at_ x6 x8))] ⟨49, [(.sl true a1.length 3 (a1.flatMap e49)), (I a2), (.sl true x7.length 1 (x7.flatMap encI)), (I x9), (I (at_ x6 x8))], [], (B x10), [], [1026], [], [], (B x10), []⟩], [⟨49, [(.sl true a1.length 3 (a1.flatMap e49)), (I a2), (.sl true x7.length 1 (x7.flatMap encI)), (I x9), (I (at_ x6 x8))], [], (B x10), [], [1026], [], [], (B x10), []⟩]⟩ [c_ 8205107, b_ 5, c_ 1025639, l_ 64102, b_ 4, b_ 3, c_ 4007, l_ 250, b_ 2, c_ 63] (alc ⟨c13, c14⟩ (alc (ldC e49_ok 2 (by decide) rfl c13 c14) (alc (okIj e49_ok c13 c14 (by decide)) (alc (bT (dT c15)) (alc (cok0 false (a2c (.z (frz_sl e49_ok (fun h => h))) (a2c (.z .s) (a2c (.z (frz_rf (k := 1026) encI_ok (by simp) rfl rfl (row_len encI_ok _).symm)) (a2c (.z .s) (a2c (.z .s) a2n))))) (.z .s) (fun h => absurd h (by decide))) aln))))) (acal (impl_room.J k a1 a2 x7 x9 (at_ x6 x8) _ hx10) nocal) ?_
              by_cases c16 : x10 = true
              · rw [if_pos c16] at h
                refine .cond' (.tmp 66) true [c_ 32820428, c_ 32820429, b_ 5, c_ 1025639, l_ 64102, b_ 4, b_ 3, c_ 4007, l_ 250, b_ 2, c_ 63] (bT c16) ?_
                by_cases c17 : (at_ x6 x8) < (x7.length : Int)
                · rw [if_pos c17] at h
                  refine .reg' [0, 1, 2, 7, 39, 40, 41] [.no, .no, .no, .no, .w .un ((x7.set (at_ x6 x8).toNat x9).flatMap encI)] ⟨[(0, (.sl true a0.length 1 (a0.flatMap encI))), (1, (.sl true a1.length 3 (a1.flatMap e49))), (2, (I a2)), (7, (.rf 1026 0 x7.length 1 (x7.length * 1))), (39, (.rf 1002561 0 x6.length 1 (x6.length * 1))), (40, (I (x6.length : Int))), (41, (I x8))], [(1026, ((x7.set (at_ x6 x8).toNat x9).flatMap encI)), (1002561, (x6.flatMap encI))], [(0 : Int) ≤ (at_ x6 x8) ∧ (at_ x6 x8) < (x7.length : Int), V.un = V.un, spl (x7.flatMap encI) (0 + (at_ x6 x8).toNat * 1) [(I x9)] = ((x7.set (at_ x6 x8).toNat x9).flatMap encI), x7.length * 1 = (x7.flatMap encI).length ∧ 0 + (at_ x6 x8).toNat * 1 + 1 ≤ (x7.flatMap encI).length], []⟩ [c_ 4007, l_ 250, b_ 2, c_ 63] (alc ⟨c13, c17⟩ (alc rfl (alc (st_row1 encI_ok c13 c17 (I x9) rfl) (alc (okA0 encI_ok c13 c17 (by decide)) aln)))) nocal ?_
                  refine .eqs (env2 := [(0, (.sl true a0.length 1 (a0.flatMap encI))), (1, (.sl true a1.length 3 (a1.flatMap e49))), (2, (I a2)), (7, (.rf 1026 0 ((x7.set (at_ x6 x8).toNat x9).length) 1 ((x7.set (at_ x6 x8).toNat x9).length * 1))), (39, (.rf 1002561 0 x6.length 1 (x6.length * 1))), (40, (I (x6.length : Int))), (41, (I x8))]) (H2 := [(1026, ((x7.set (at_ x6 x8).toNat x9).flatMap encI)), (1002561, (x6.flatMap encI))]) (by first | (simp only [List.length_set]; done) | simp) (by first | rfl | (simp only [List.length_set]; done) | simp) ?_
                  refine .reg' [0, 1, 2, 7, 39, 40, 41] [] ⟨[(0, (.sl true a0.length 1 (a0.flatMap encI))), (1, (.sl true a1.length 3 (a1.flatMap e49))), (2, (I a2)), (7, (.rf 1026 0 ((x7.set (at_ x6 x8).toNat x9).length) 1 ((x7.set (at_ x6 x8).toNat x9).length * 1))), (39, (.rf 1002561 0 x6.length 1 (x6.length * 1))), (40, (I (x6.length : Int))), (41, (I (wrap64 (x8 + 1))))], [(1026, ((x7.set (at_ x6 x8).toNat x9).flatMap encI)), (1002561, (x6.flatMap encI))], [], []⟩ [l_ 250, b_ 2, c_ 63] aln nocal ?_
                  exact ih1 a0 a1 a2 x6 (x7.set (at_ x6 x8).toNat x9) (wrap64 (x8 + 1)) _ h
                · rw [if_neg c17] at h
                  cases h
              · rw [if_neg c16] at h
                refine .cond' (.tmp 66) false [c_ 1025639, l_ 64102, b_ 4, b_ 3, c_ 4007, l_ 250, b_ 2, c_ 63] (bF (vF c16)) ?_
                refine .reg' [0, 1, 2, 7, 10, 39, 40, 41, 45, 46, 47] [] ⟨[(0, (.sl true a0.length 1 (a0.flatMap encI))), (1, (.sl true a1.length 3 (a1.flatMap e49))), (2, (I a2)), (7, (.rf 1026 0 x7.length 1 (x7.length * 1))), (10, (I (at_ x6 x8))), (39, (.rf 1002561 0 x6.length 1 (x6.length * 1))), (40, (I (x6.length : Int))), (41, (I x8)), (45, (.sl true a0.length 1 (a0.flatMap encI))), (46, (I (a0.length : Int))), (47, (I (wrap64 (x9 + 1))))], [(1026, (x7.flatMap encI)), (1002561, (x6.flatMap encI))], [], []⟩ [l_ 64102, b_ 4, b_ 3, c_ 4007, l_ 250, b_ 2, c_ 63] aln nocal ?_
                exact ih2 a0 a1 a2 x6 x7 x8 (wrap64 (x9 + 1)) _ h
            · rw [if_neg c15] at h
              refine .reg' [0, 1, 2, 7, 10, 11, 39, 40, 41, 45, 46, 47, 66] [.no, .no, .no, .no, .no, .v (I (at_ a1 (at_ x6 x8)).f2), .no, .v (B false)] ⟨[(0, (.sl true a0.length 1 (a0.flatMap encI))), (1, (.sl true a1.length 3 (a1.flatMap e49))), (2, (I a2)), (7, (.rf 1026 0 x7.length 1 (x7.length * 1))), (10, (I (at_ x6 x8))), (11, (I x9)), (39, (.rf 1002561 0 x6.length 1 (x6.length * 1))), (40, (I (x6.length : Int))), (41, (I x8)), (45, (.sl true a0.length 1 (a0.flatMap encI))), (46, (I (a0.length : Int))), (47, (I x9)), (66, (B false))], [(1026, (x7.flatMap encI)), (1002561, (x6.flatMap encI))], [(0 : Int) ≤ (at_ x6 x8) ∧ (at_ x6 x8) < (a1.length : Int), rdC prog 3 (((a1.flatMap e49).drop ((at_ x6 x8).toNat * 3)).drop 2) = (I (at_ a1 (at_ x6 x8)).f2), 1 ≤ (((a1.flatMap e49).drop ((at_ x6 x8).toNat * 3)).drop 2).length, (B (decide ((at_ a0 x9) ≥ (at_ a1 (at_ x6 x8)).f2)) : V) = B false], []⟩ [c_ 8205107, b_ 5, c_ 1025639, l_ 64102, b_ 4, b_ 3, c_ 4007, l_ 250, b_ 2, c_ 63] (alc ⟨c13, c14⟩ (alc (ldC e49_ok 2 (by decide) rfl c13 c14) (alc (okIj e49_ok c13 c14 (by decide)) (alc (bF (dF c15)) aln)))) nocal ?_
              refine .cond' (.tmp 66) false [c_ 1025639, l_ 64102, b_ 4, b_ 3, c_ 4007, l_ 250, b_ 2, c_ 63] (rfl) ?_
              refine .reg' [0, 1, 2, 7, 10, 39, 40, 41, 45, 46, 47] [] ⟨[(0, (.sl true a0.length 1 (a0.flatMap encI))), (1, (.sl true a1.length 3 (a1.flatMap e49))), (2, (I a2)), (7, (.rf 1026 0 x7.length 1 (x7.length * 1))), (10, (I (at_ x6 x8))), (39, (.rf 1002561 0 x6.length 1 (x6.length * 1))), (40, (I (x6.length : Int))), (41, (I x8)), (45, (.sl true a0.length 1 (a0.flatMap encI))), (46, (I (a0.length : Int))), (47, (I (wrap64 (x9 + 1))))], [(1026, (x7.flatMap encI)), (1002561, (x6.flatMap encI))], [], []⟩ [l_ 64102, b_ 4, b_ 3, c_ 4007, l_ 250, b_ 2, c_ 63] aln nocal ?_
              exact ih2 a0 a1 a2 x6 x7 x8 (wrap64 (x9 + 1)) _ h
          · rw [if_neg c14] at h
            cases h
        · rw [if_neg c13] at h
          cases h
      · rw [if_neg c12] at h
        cases h
    · rw [if_neg c11] at h
      refine .cond' (.tmp 48) false [c_ 4007, l_ 250, b_ 2, c_ 63] (bF (dF c11)) ?_
      refine .reg' [0, 1, 2, 7, 39, 40, 41] [] ⟨[(0, (.sl true a0.length 1 (a0.flatMap encI))), (1, (.sl true a1.length 3 (a1.flatMap e49))), (2, (I a2)), (7, (.rf 1026 0 x7.length 1 (x7.length * 1))), (39, (.rf 1002561 0 x6.length 1 (x6.length * 1))), (40, (I (x6.length : Int))), (41, (I (wrap64 (x8 + 1))))], [(1026, (x7.flatMap encI)), (1002561, (x6.flatMap encI))], [], []⟩ [l_ 250, b_ 2, c_ 63] aln nocal ?_
      exact ih1 a0 a1 a2 x6 x7 (wrap64 (x8 + 1)) _ h
theorem impl_Assign.J (k : Nat) (a0 : (List Int)) (a1 : (List S49)) (a2 : Int) (r : (List Int)) (h : impl_Assign.f k a0 a1 a2 = some r) : J prog (.call 31 [(.sl true a0.length 1 (a0.flatMap encI)), (.sl true a1.length 3 (a1.flatMap e49)), (I a2)] [] (.rf 1026 0 r.length 1 (r.length * 1)) [(1026, (r.flatMap encI))]) := by
  unfold impl_Assign.f at h
  obtain ⟨ih0, ih1, ih2⟩ := impl_Assign.lab k
  refine .call' [c_ 2, c_ 3] ?_
  refine .reg' [0, 1, 2] [] ⟨[(0, (.sl true a0.length 1 (a0.flatMap encI))), (1, (.sl true a1.length 3 (a1.flatMap e49))), (2, (I a2))], [], [], []⟩ [c_ 12, c_ 13, c_ 7] aln nocal ?_
  obtain ⟨x1, hx1, h⟩ := Option.bind_eq_some_iff.mp h
  by_cases c1 : x1 = true
  · rw [if_pos c1] at h
    obtain ⟨x2, hx2, h⟩ := Option.bind_eq_some_iff.mp h
    by_cases c2 : x2 = true
    · rw [if_pos c2] at h
      obtain ⟨x3, hx3, h⟩ := Option.bind_eq_some_iff.mp h
      refine .reg' [0, 1, 2, 25] [.no, .c ⟨14, [(.sl true a0.length 1 (a0.flatMap encI))], [], (B x1), [], [], [], [], (B x1), []⟩, .no, .v (B false), .no, .c ⟨19, [(.sl true a1.length 3 (a1.flatMap e49))], [], (B x2), [], [], [], [], (B x2), []⟩, .no, .no, .v (B false), .no, .c ⟨46, [(I a2)], [], (B x3), [], [], [], [], (B x3), []⟩] ⟨[(0, (.sl true a0.length 1 (a0.flatMap encI))), (1, (.sl true a1.length 3 (a1.flatMap e49))), (2, (I a2)), (25, (B (!x3)))], [], [COK (hget []) [(.sl true a0.length 1 (a0.flatMap encI))] ⟨14, [(.sl true a0.length 1 (a0.flatMap encI))], [], (B x1), [], [], [], [], (B x1), []⟩, (B (!x1) : V) = B false, COK (hget []) [(.sl true a1.length 3 (a1.flatMap e49))] ⟨19, [(.sl true a1.length 3 (a1.flatMap e49))], [], (B x2), [], [], [], [], (B x2), []⟩, (B (!x2) : V) = B false, COK (hget []) [(I a2)] ⟨46, [(I a2)], [], (B x3), [], [], [], [], (B x3), []⟩], [⟨14, [(.sl true a0.length 1 (a0.flatMap encI))], [], (B x1), [], [], [], [], (B x1), []⟩, ⟨19, [(.sl true a1.length 3 (a1.flatMap e49))], [], (B x2), [], [], [], [], (B x2), []⟩, ⟨46, [(I a2)], [], (B x3), [], [], [], [], (B x3), []⟩]⟩ [c_ 13, c_ 7] (alc (cok0 false (a2c (.z (frz_sl encI_ok (fun h => h))) a2n) (.z .s) (fun h => absurd h (by decide))) (alc (bF (nF c1)) (alc (cok0 false (a2c (.z (frz_sl e49_ok (fun h => h))) a2n) (.z .s) (fun h => absurd h (by decide))) (alc (bF (nF c2)) (alc (cok0 false (a2c (.z .s) a2n) (.z .s) (fun h => absurd h (by decide))) aln))))) (acal (impl_BaysOk.J k a0 _ hx1) (acal (impl_StaysOk.J k a1 _ hx2) (acal (impl_gapOk.J a2 _ hx3) nocal))) ?_
      by_cases c3 : x3 = true
      · rw [if_pos c3] at h
        refine .cond' (.tmp 25) false [c_ 14, c_ 15] (bF (nF c3)) ?_
        by_cases c4 : 0 ≤ (a1.length : Int)
        · rw [if_pos c4] at h
          by_cases c5 : (a1.length : Int) * 8 ≤ 281474976710656
          · rw [if_pos c5] at h
            refine .reg' [0, 1, 2, 7] [.no, .no, .w (.rf 1026 0 ((List.replicate (a1.length : Int).toNat (0 : Int)).length) 1 ((List.replicate (a1.length : Int).toNat (0 : Int)).length * 1)) ((List.replicate (a1.length : Int).toNat (0 : Int)).flatMap encI)] ⟨[(0, (.sl true a0.length 1 (a0.flatMap encI))), (1, (.sl true a1.length 3 (a1.flatMap e49))), (2, (I a2)), (7, (.rf 1026 0 ((List.replicate (a1.length : Int).toNat (0 : Int)).length) 1 ((List.replicate (a1.length : Int).toNat (0 : Int)).length * 1)))], [(1026, ((List.replicate (a1.length : Int).toNat (0 : Int)).flatMap encI))], [V.rf 1026 0 (a1.length : Int).toNat 1 ((a1.length : Int).toNat * 1) = (.rf 1026 0 ((List.replicate (a1.length : Int).toNat (0 : Int)).length) 1 ((List.replicate (a1.length : Int).toNat (0 : Int)).length * 1)), rept (a1.length : Int).toNat [(I 0)] = (List.replicate (a1.length : Int).toNat (0 : Int)).flatMap encI, (a1.length : Int) = (a1.length : Int) ∧ 0 ≤ (a1.length : Int) ∧ (a1.length : Int) * 8 ≤ 281474976710656 ∧ (a1.length : Int) ≤ 9223372036854775807], []⟩ [c_ 60, c_ 61, c_ 31] (alc mkV (alc (row_rept1 (enc := encI) (x := 0) (v := (I 0)) rfl _) (alc ⟨rfl, c4, c5, by omega⟩ aln))) nocal ?_
            refine .reg' [0, 1, 2, 7, 30, 31] [] ⟨[(0, (.sl true a0.length 1 (a0.flatMap encI))), (1, (.sl true a1.length 3 (a1.flatMap e49))), (2, (I a2)), (7, (.rf 1026 0 ((List.replicate (a1.length : Int).toNat (0 : Int)).length) 1 ((List.replicate (a1.length : Int).toNat (0 : Int)).length * 1))), (30, (I ((List.replicate (a1.length : Int).toNat (0 : Int)).length : Int))), (31, (I 0))], [(1026, ((List.replicate (a1.length : Int).toNat (0 : Int)).flatMap encI))], [], []⟩ [l_ 122, b_ 0, c_ 31] aln nocal ?_
            exact ih0 a0 a1 a2 (List.replicate (a1.length : Int).toNat (0 : Int)) 0 _ h
          · rw [if_neg c5] at h
            cases h
        · rw [if_neg c4] at h
          cases h
      · rw [if_neg c3] at h
        refine .cond' (.tmp 25) true [c_ 52, c_ 53, c_ 7] (bT (nT (vF c3))) ?_
        refine .reg' [6] [] ⟨[(6, nilS)], [], [], []⟩ [c_ 53, c_ 7] aln nocal ?_
        have h := Option.some.inj h
        subst h
        refine .nl' 1026 ?_
        exact .fin' [] [(1026, 1026)] nilS [] aln (shc 1026 (rowF encI_ok _) shn) (.nl (memP_mem (p := (1026, 1026)) rfl) rfl)
    · rw [if_neg c2] at h
      refine .reg' [0, 1, 2, 25] [.no, .c ⟨14, [(.sl true a0.length 1 (a0.flatMap encI))], [], (B x1), [], [], [], [], (B x1), []⟩, .no, .v (B false), .no, .c ⟨19, [(.sl true a1.length 3 (a1.flatMap e49))], [], (B x2), [], [], [], [], (B x2), []⟩, .no, .no, .v (B true)] ⟨[(0, (.sl true a0.length 1 (a0.flatMap encI))), (1, (.sl true a1.length 3 (a1.flatMap e49))), (2, (I a2)), (25, (B true))], [], [COK (hget []) [(.sl true a0.length 1 (a0.flatMap encI))] ⟨14, [(.sl true a0.length 1 (a0.flatMap encI))], [], (B x1), [], [], [], [], (B x1), []⟩, (B (!x1) : V) = B false, COK (hget []) [(.sl true a1.length 3 (a1.flatMap e49))] ⟨19, [(.sl true a1.length 3 (a1.flatMap e49))], [], (B x2), [], [], [], [], (B x2), []⟩, (B (!x2) : V) = B true], [⟨14, [(.sl true a0.length 1 (a0.flatMap encI))], [], (B x1), [], [], [], [], (B x1), []⟩, ⟨19, [(.sl true a1.length 3 (a1.flatMap e49))], [], (B x2), [], [], [], [], (B x2), []⟩]⟩ [c_ 13, c_ 7] (alc (cok0 false (a2c (.z (frz_sl encI_ok (fun h => h))) a2n) (.z .s) (fun h => absurd h (by decide))) (alc (bF (nF c1)) (alc (cok0 false (a2c (.z (frz_sl e49_ok (fun h => h))) a2n) (.z .s) (fun h => absurd h (by decide))) (alc (bT (nT (vF c2))) aln)))) (acal (impl_BaysOk.J k a0 _ hx1) (acal (impl_StaysOk.J k a1 _ hx2) nocal)) ?_
      refine .cond' (.tmp 25) true [c_ 52, c_ 53, c_ 7] (rfl) ?_
      refine .reg' [6] [] ⟨[(6, nilS)], [], [], []⟩ [c_ 53, c_ 7] aln nocal ?_
      have h := Option.some.inj h
      subst h
      refine .nl' 1026 ?_
      exact .fin' [] [(1026, 1026)] nilS [] aln (shc 1026 (rowF encI_ok _) shn) (.nl (memP_mem (p := (1026, 1026)) rfl) rfl)
  · rw [if_neg c1] at h
    refine .reg' [0, 1, 2, 25] [.no, .c ⟨14, [(.sl true a0.length 1 (a0.flatMap encI))], [], (B x1), [], [], [], [], (B x1), []⟩, .no, .v (B true)] ⟨[(0, (.sl true a0.length 1 (a0.flatMap encI))), (1, (.sl true a1.length 3 (a1.flatMap e49))), (2, (I a2)), (25, (B true))], [], [COK (hget []) [(.sl true a0.length 1 (a0.flatMap encI))] ⟨14, [(.sl true a0.length 1 (a0.flatMap encI))], [], (B x1), [], [], [], [], (B x1), []⟩, (B (!x1) : V) = B true], [⟨14, [(.sl true a0.length 1 (a0.flatMap encI))], [], (B x1), [], [], [], [], (B x1), []⟩]⟩ [c_ 13, c_ 7] (alc (cok0 false (a2c (.z (frz_sl encI_ok (fun h => h))) a2n) (.z .s) (fun h => absurd h (by decide))) (alc (bT (nT (vF c1))) aln)) (acal (impl_BaysOk.J k a0 _ hx1) nocal) ?_
    refine .cond' (.tmp 25) true [c_ 52, c_ 53, c_ 7] (rfl) ?_
    refine .reg' [6] [] ⟨[(6, nilS)], [], [], []⟩ [c_ 53, c_ 7] aln nocal ?_
    have h := Option.some.inj h
    subst h
    refine .nl' 1026 ?_
    exact .fin' [] [(1026, 1026)] nilS [] aln (shc 1026 (rowF encI_ok _) shn) (.nl (memP_mem (p := (1026, 1026)) rfl) rfl)
/-! laws_within: function 36 -/
def laws_within.l0 : Nat → (List Int) → Int → Int → Option Bool
 | 0, _, _, _ => none
 | k + 1, a0, a1, x1 => (if x1 < (a0.length : Int) then (if 0 ≤ x1 then (if (at_ a0 x1) = a1 then (some true) else (laws_within.l0 k a0 a1 (wrap64 (x1 + 1)))) else none) else (some false))
def laws_within.f (k : Nat) (a0 : (List Int)) (a1 : Int) : Option Bool := (laws_within.l0 k a0 a1 0)
theorem laws_within.lab : ∀ k, (∀ (a0 : (List Int)) (a1 : Int) (x1 : Int) (r : Bool), laws_within.l0 k a0 a1 x1 = some r → J prog (.run 36 [] [l_ 26, b_ 0, c_ 7] [(0, (.sl true a0.length 1 (a0.flatMap encI))), (1, (I a1)), (5, (I x1))] [] (B r) []))
 | 0 => (by intro a0 a1 x1 r h; unfold laws_within.l0 at h; cases h)
 | k + 1 => by
  have ih0 := laws_within.lab k
  · intro a0 a1 x1 r h
    unfold laws_within.l0 at h
    refine .loop' [c_ 208, c_ 209, c_ 105, l_ 26, b_ 0, c_ 7] ?_
    refine .reg' [0, 1, 5, 9] [] ⟨[(0, (.sl true a0.length 1 (a0.flatMap encI))), (1, (I a1)), (5, (I x1)), (9, (B (decide (x1 < (a0.length : Int)))))], [], [], []⟩ [c_ 209, c_ 105, l_ 26, b_ 0, c_ 7] aln nocal ?_
    by_cases c1 : x1 < (a0.length : Int)
    · rw [if_pos c1] at h
      refine .cond' (.tmp 9) true [c_ 840, c_ 841, b_ 1, c_ 211, l_ 26, b_ 0, c_ 7] (bT (dT c1)) ?_
      by_cases c2 : 0 ≤ x1
      · rw [if_pos c2] at h
        refine .reg' [0, 1, 5, 17] [.no, .no, .no, .v (I (at_ a0 x1))] ⟨[(0, (.sl true a0.length 1 (a0.flatMap encI))), (1, (I a1)), (5, (I x1)), (17, (B ((at_ a0 x1) == a1)))], [], [(0 : Int) ≤ x1 ∧ x1 < (a0.length : Int), rdC prog 3 ((a0.flatMap encI).drop (x1.toNat * 1)) = (I (at_ a0 x1)), 1 ≤ ((a0.flatMap encI).drop (x1.toNat * 1)).length], []⟩ [c_ 841, b_ 1, c_ 211, l_ 26, b_ 0, c_ 7] (alc ⟨c2, c1⟩ (alc (ldC1 encI_ok rfl c2 c1) (alc (okI encI_ok c2 c1 (by decide)) aln))) nocal ?_
        by_cases c3 : (at_ a0 x1) = a1
        · rw [if_pos c3] at h
          refine .cond' (.tmp 17) true [c_ 3364, c_ 3365, b_ 1, c_ 211, l_ 26, b_ 0, c_ 7] (bT (qT c3)) ?_
          refine .reg' [4] [] ⟨[(4, (B true))], [], [], []⟩ [c_ 3365, b_ 1, c_ 211, l_ 26, b_ 0, c_ 7] aln nocal ?_
          have h := Option.some.inj h
          subst h
          exact .fin0 [] (B true) [] aln (.z .s)
        · rw [if_neg c3] at h
          refine .cond' (.tmp 17) false [c_ 211, l_ 26, b_ 0, c_ 7] (bF (qF c3)) ?_
          refine .reg' [0, 1, 5] [] ⟨[(0, (.sl true a0.length 1 (a0.flatMap encI))), (1, (I a1)), (5, (I (wrap64 (x1 + 1))))], [], [], []⟩ [l_ 26, b_ 0, c_ 7] aln nocal ?_
          exact ih0 a0 a1 (wrap64 (x1 + 1)) _ h
      · rw [if_neg c2] at h
        cases h
    · rw [if_neg c1] at h
      refine .cond' (.tmp 9) false [c_ 14, c_ 15] (bF (dF c1)) ?_
      refine .reg' [4] [] ⟨[(4, (B false))], [], [], []⟩ [c_ 15] aln nocal ?_
      have h := Option.some.inj h
      subst h
      exact .fin0 [] (B false) [] aln (.z .s)
theorem laws_within.J (k : Nat) (a0 : (List Int)) (a1 : Int) (r : Bool) (h : laws_within.f k a0 a1 = some r) : J prog (.call 36 [(.sl true a0.length 1 (a0.flatMap encI)), (I a1)] [] (B r) []) := by
  unfold laws_within.f at h
  have ih0 := laws_within.lab k
  refine .call' [c_ 2, c_ 3] ?_
  refine .reg' [0, 1] [] ⟨[(0, (.sl true a0.length 1 (a0.flatMap encI))), (1, (I a1))], [], [], []⟩ [c_ 12, c_ 13, c_ 7] aln nocal ?_
  refine .reg' [0, 1, 5] [] ⟨[(0, (.sl true a0.length 1 (a0.flatMap encI))), (1, (I a1)), (5, (I 0))], [], [], []⟩ [l_ 26, b_ 0, c_ 7] aln nocal ?_
  exact ih0 a0 a1 0 _ h
/-! impl_AssignOk: function 24 -/
def impl_AssignOk.l0 : Nat → (List Int) → (List S49) → Int → (List Int) → Int → Option Bool
 | 0, _, _, _, _, _ => none
 | k + 1, a0, a1, a2, a3, x4 => (if x4 < (a3.length : Int) then (if 0 ≤ x4 then (if (at_ a3 x4) = (-1) then (impl_AssignOk.l0 k a0 a1 a2 a3 (wrap64 (x4 + 1))) else ((impl_between.f (at_ a3 x4) 0 (wrap64 ((a0.length : Int) - 1))).bind fun x5 => (if x5 = true then (if 0 ≤ (at_ a3 x4) then (if (at_ a3 x4) < (a0.length : Int) then (if x4 < (a1.length : Int) then (if (at_ a0 (at_ a3 x4)) < (at_ a1 x4).f2 then (some false) else ((impl_room.f k a1 a2 a3 (at_ a3 x4) x4).bind fun x6 => (if x6 = true then (impl_AssignOk.l0 k a0 a1 a2 a3 (wrap64 (x4 + 1))) else (some false)))) else none) else none) else none) else (some false)))) else none) else (some true))
def impl_AssignOk.f (k : Nat) (a0 : (List Int)) (a1 : (List S49)) (a2 : Int) (a3 : (List Int)) : Option Bool := ((impl_BaysOk.f k a0).bind fun x1 => (if x1 = true then ((impl_StaysOk.f k a1).bind fun x2 => (if x2 = true then ((impl_gapOk.f a2).bind fun x3 => (if x3 = true then (if (a3.length : Int) = (a1.length : Int) then (impl_AssignOk.l0 k a0 a1 a2 a3 0) else (some false)) else (some false))) else (some false))) else (some false)))
end Go.Proofs.Ytddipeelmandjaa.Fns
