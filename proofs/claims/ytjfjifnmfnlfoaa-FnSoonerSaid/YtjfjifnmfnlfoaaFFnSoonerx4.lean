/- The functions that the law FnSooner reaches, by the engine. Printed by a program of this seat. -/
import Derived.Test.YtjfjifnmfnlfoaaE5
import Derived.Test.YtjfjifnmfnlfoaaProg
import Derived.Test.YtjfjifnmfnlfoaaFFnSoonerx3
namespace Go.Proofs.Ytjfjifnmfnlfoaa.Fns
open Go.Proofs.Try Go.Proofs.Ytjfjifnmfnlfoaa.Eng Go.RowKit
set_option maxRecDepth 100000
set_option linter.unusedVariables false
set_option linter.unusedSimpArgs false
theorem laws_at.J (a0 : (List Int)) (a1 : Int) (r : Int) (h : laws_at.f a0 a1 = some r) : J prog (.call 49 [(.sl true a0.length 1 (a0.flatMap encU)), (I a1)] [] (I r) []) := by
  unfold laws_at.f at h
  refine .call' [c_ 2, c_ 3] ?_
  refine .reg' [0, 1] [] ⟨[(0, (.sl true a0.length 1 (a0.flatMap encU))), (1, (I a1))], [], [], []⟩ [c_ 12, c_ 13, c_ 7] aln nocal ?_
  refine .reg' [0, 1, 8] [] ⟨[(0, (.sl true a0.length 1 (a0.flatMap encU))), (1, (I a1)), (8, (B (decide (a1 < (a0.length : Int)))))], [], [], []⟩ [c_ 13, c_ 7] aln nocal ?_
  by_cases c1 : a1 < (a0.length : Int)
  · rw [if_pos c1] at h
    refine .cond' (.tmp 8) true [c_ 52, c_ 53, c_ 7] (bT (dT c1)) ?_
    by_cases c2 : 0 ≤ a1
    · rw [if_pos c2] at h
      refine .reg' [4] [.no, .no, .no, .v (U (at_ a0 a1))] ⟨[(4, (I (IntKind.i64.wrap (at_ a0 a1))))], [], [(0 : Int) ≤ a1 ∧ a1 < (a0.length : Int), rdC prog 5 ((a0.flatMap encU).drop (a1.toNat * 1)) = (U (at_ a0 a1)), 1 ≤ ((a0.flatMap encU).drop (a1.toNat * 1)).length], []⟩ [c_ 53, c_ 7] (alc ⟨c2, c1⟩ (alc (ldC1 encU_ok rfl c2 c1) (alc (okI encU_ok c2 c1 (by decide)) aln))) nocal ?_
      have h := Option.some.inj h
      subst h
      exact .fin0 [] (I (IntKind.i64.wrap (at_ a0 a1))) [] aln (.z .s)
    · rw [if_neg c2] at h
      cases h
  · rw [if_neg c1] at h
    refine .cond' (.tmp 8) false [c_ 14, c_ 15] (bF (dF c1)) ?_
    refine .reg' [4] [] ⟨[(4, (I ((wrap64 ((wrap64 (a1 * 11)) + (wrap64 ((a0.length : Int) * 3)))).tmod (256 : Int))))], [], [(256 : Int) ≠ 0], []⟩ [c_ 15] (alc (by decide) aln) nocal ?_
    have h := Option.some.inj h
    subst h
    exact .fin0 [] (I ((wrap64 ((wrap64 (a1 * 11)) + (wrap64 ((a0.length : Int) * 3)))).tmod (256 : Int))) [] aln (.z .s)
/-! impl_Within: function 51 -/
mutual
def impl_Within.l0 : Nat → (List (List Int)) → (List Bool) → Int → Option (List Int)
 | 0, _, _, _ => none
 | k + 1, x2, x3, x4 => (if x4 < (x2.length : Int) then (if 0 ≤ x4 then (impl_Within.l1 k x2 x4 x3 0) else none) else (if x3.length = 30 then (impl_Within.l2 k x3 ([] : List Int) 0) else none))
def impl_Within.l1 : Nat → (List (List Int)) → Int → (List Bool) → Int → Option (List Int)
 | 0, _, _, _, _ => none
 | k + 1, x2, x4, x5, x6 => (if x6 < 30 then (if 0 ≤ x6 then (if x6 < (x5.length : Int) then (if (at_ x5 x6) = true then (impl_Within.l1 k x2 x4 (x5.set x6.toNat true) (wrap64 (x6 + 1))) else (if x6 < ((arr 30 (at_ x2 x4)).length : Int) then (impl_Within.l1 k x2 x4 (x5.set x6.toNat (decide ((at_ (arr 30 (at_ x2 x4)) x6) < 100001))) (wrap64 (x6 + 1))) else none)) else none) else none) else (impl_Within.l0 k x2 x5 (wrap64 (x4 + 1))))
def impl_Within.l2 : Nat → (List Bool) → (List Int) → Int → Option (List Int)
 | 0, _, _, _ => none
 | k + 1, x3, x7, x8 => (if x8 < 30 then (if x3.length = 30 then (if 0 ≤ x8 then (if x8 < (x3.length : Int) then (if (at_ x3 x8) = true then (if (x7.length + ([x8] : List Int).length) * 8 ≤ 70368744177664 then (impl_Within.l2 k x3 (x7 ++ ([x8] : List Int)) (wrap64 (x8 + 1))) else none) else (impl_Within.l2 k x3 x7 (wrap64 (x8 + 1)))) else none) else none) else none) else (some x7))
end
def impl_Within.f (k : Nat) (a0 : (List S105)) (a1 : Int) (a2 : Int) (a3 : Int) (a4 : Int) : Option (List Int) := ((impl_questionOk.f k a0 a1 a1 a2 a3 a4).bind fun x1 => (if x1 = true then ((impl_arrivals.f k a0 a1 a2 a3 a4).bind fun x2 => (impl_Within.l0 k x2 (List.replicate 30 (false : Bool)) 0)) else (some ([] : List Int))))
theorem impl_Within.lab : ∀ k, (∀ (x2 : (List (List Int))) (x3 : (List Bool)) (x4 : Int) (r : (List Int)), impl_Within.l0 k x2 x3 x4 = some r → J prog (.run 51 [] [l_ 122, b_ 0, c_ 31] [(11, (.pt 1024 0 (x3.length * 1))), (31, (.rf 1001285 0 x2.length 30 (x2.length * 30))), (32, (I (x2.length : Int))), (33, (I x4))] [(1024, (x3.flatMap encB)), (1001285, (x2.flatMap (encA 30)))] (.rf 3584 0 r.length 1 (r.length * 1)) [(3584, (r.flatMap encI))])) ∧ (∀ (x2 : (List (List Int))) (x4 : Int) (x5 : (List Bool)) (x6 : Int) (r : (List Int)), impl_Within.l1 k x2 x4 x5 x6 = some r → J prog (.run 51 [] [l_ 31334, b_ 2, b_ 1, c_ 1959, l_ 122, b_ 0, c_ 31] [(11, (.pt 1024 0 (x5.length * 1))), (13, (.pt 1794 0 ((arr 30 (at_ x2 x4)).length * 1))), (31, (.rf 1001285 0 x2.length 30 (x2.length * 30))), (32, (I (x2.length : Int))), (33, (I x4)), (37, (I x6))] [(1024, (x5.flatMap encB)), (1001285, (x2.flatMap (encA 30))), (1794, ((arr 30 (at_ x2 x4)).flatMap encI))] (.rf 3584 0 r.length 1 (r.length * 1)) [(3584, (r.flatMap encI))])) ∧ (∀ (x3 : (List Bool)) (x7 : (List Int)) (x8 : Int) (r : (List Int)), impl_Within.l2 k x3 x7 x8 = some r → J prog (.run 51 [] [l_ 506, b_ 4, c_ 127] [(15, (.rf 3584 0 x7.length 1 (x7.length * 1))), (54, (.ag (x3.flatMap encB))), (55, (I x8))] [(3584, (x7.flatMap encI))] (.rf 3584 0 r.length 1 (r.length * 1)) [(3584, (r.flatMap encI))]))
 | 0 => ⟨(by intro x2 x3 x4 r h; unfold impl_Within.l0 at h; cases h), (by intro x2 x4 x5 x6 r h; unfold impl_Within.l1 at h; cases h), (by intro x3 x7 x8 r h; unfold impl_Within.l2 at h; cases h)⟩
 | k + 1 => by
  obtain ⟨ih0, ih1, ih2⟩ := impl_Within.lab k
  refine ⟨?_, ?_, ?_⟩
  · intro x2 x3 x4 r h
    unfold impl_Within.l0 at h
    refine .loop' [c_ 488, c_ 489, l_ 122, b_ 0, c_ 31] ?_
    refine .reg' [11, 31, 32, 33, 34] [] ⟨[(11, (.pt 1024 0 (x3.length * 1))), (31, (.rf 1001285 0 x2.length 30 (x2.length * 30))), (32, (I (x2.length : Int))), (33, (I x4)), (34, (B (decide (x4 < (x2.length : Int)))))], [(1024, (x3.flatMap encB)), (1001285, (x2.flatMap (encA 30)))], [], []⟩ [c_ 978, c_ 979, l_ 122, b_ 0, c_ 31] aln nocal ?_
    by_cases c2 : x4 < (x2.length : Int)
    · rw [if_pos c2] at h
      refine .cond' (.tmp 34) true [c_ 7832, c_ 7833, b_ 1, c_ 1959, l_ 122, b_ 0, c_ 31] (bT (dT c2)) ?_
      by_cases c3 : 0 ≤ x4
      · rw [if_pos c3] at h
        refine .reg' [11, 13, 31, 32, 33] [.no, .v (.ag (encA 30 (at_ x2 x4))), .no, .w .un ((arr 30 (at_ x2 x4)).flatMap encI)] ⟨[(11, (.pt 1024 0 (x3.length * 1))), (13, (.pt 1794 0 30)), (31, (.rf 1001285 0 x2.length 30 (x2.length * 30))), (32, (I (x2.length : Int))), (33, (I x4))], [(1024, (x3.flatMap encB)), (1001285, (x2.flatMap (encA 30))), (1794, ((arr 30 (at_ x2 x4)).flatMap encI))], [(0 : Int) ≤ x4 ∧ x4 < (x2.length : Int), rdC prog 139 ((x2.flatMap (encA 30)).drop (0 + x4.toNat * 30)) = (.ag (encA 30 (at_ x2 x4))), x2.length * 30 = (x2.flatMap (encA 30)).length ∧ 0 + x4.toNat * 30 + 30 ≤ (x2.flatMap (encA 30)).length, V.un = V.un, spl ((List.replicate 30 (0 : Int)).flatMap encI) 0 (encA 30 (at_ x2 x4)) = (arr 30 (at_ x2 x4)).flatMap encI, 30 = ((List.replicate 30 (0 : Int)).flatMap encI).length ∧ 0 + (encA 30 (at_ x2 x4)).length ≤ ((List.replicate 30 (0 : Int)).flatMap encI).length], []⟩ [c_ 15666, c_ 15667, b_ 1, c_ 1959, l_ 122, b_ 0, c_ 31] (alc ⟨c3, c2⟩ (alc (ldA0 (encA_ok 30) rfl rfl c3 c2) (alc (okA0 (encA_ok 30) c3 c2 (by decide)) (alc rfl (alc (stAll (List.length_replicate ..)) (alc (okAllS (List.length_replicate ..)) aln)))))) nocal ?_
        refine .eqs (env2 := [(11, (.pt 1024 0 (x3.length * 1))), (13, (.pt 1794 0 ((arr 30 (at_ x2 x4)).length * 1))), (31, (.rf 1001285 0 x2.length 30 (x2.length * 30))), (32, (I (x2.length : Int))), (33, (I x4))]) (H2 := [(1024, (x3.flatMap encB)), (1001285, (x2.flatMap (encA 30))), (1794, ((arr 30 (at_ x2 x4)).flatMap encI))]) (by first | (simp only [List.length_set]; done) | simp) (by first | rfl | (simp only [List.length_set]; done) | simp) ?_
        refine .reg' [11, 13, 31, 32, 33, 37] [] ⟨[(11, (.pt 1024 0 (x3.length * 1))), (13, (.pt 1794 0 ((arr 30 (at_ x2 x4)).length * 1))), (31, (.rf 1001285 0 x2.length 30 (x2.length * 30))), (32, (I (x2.length : Int))), (33, (I x4)), (37, (I 0))], [(1024, (x3.flatMap encB)), (1001285, (x2.flatMap (encA 30))), (1794, ((arr 30 (at_ x2 x4)).flatMap encI))], [], []⟩ [l_ 31334, b_ 2, b_ 1, c_ 1959, l_ 122, b_ 0, c_ 31] aln nocal ?_
        exact ih1 x2 x4 x3 0 _ h
      · rw [if_neg c3] at h
        cases h
    · rw [if_neg c2] at h
      refine .cond' (.tmp 34) false [c_ 62, c_ 63] (bF (dF c2)) ?_
      refine .reg' [11, 15] [] ⟨[(11, (.pt 1024 0 (x3.length * 1))), (15, (.rf 3584 0 (([] : List Int).length) 1 (([] : List Int).length * 1)))], [(1024, (x3.flatMap encB)), (1001285, (x2.flatMap (encA 30))), (3584, (([] : List Int).flatMap encI))], [], []⟩ [c_ 252, c_ 253, c_ 127] aln nocal ?_
      by_cases c9 : x3.length = 30
      · rw [if_pos c9] at h
        refine .reg' [15, 54, 55] [.v (.ag (x3.flatMap encB))] ⟨[(15, (.rf 3584 0 (([] : List Int).length) 1 (([] : List Int).length * 1))), (54, (.ag (x3.flatMap encB))), (55, (I 0))], [(1024, (x3.flatMap encB)), (1001285, (x2.flatMap (encA 30))), (3584, (([] : List Int).flatMap encI))], [rdC prog 136 ((x3.flatMap encB).drop 0) = (.ag (x3.flatMap encB)), x3.length * 1 = (x3.flatMap encB).length ∧ 0 + 30 ≤ (x3.flatMap encB).length], []⟩ [l_ 506, b_ 4, c_ 127] (alc (ldAll encB_ok rfl rfl c9) (alc (okAll encB_ok c9) aln)) nocal ?_
        refine .wk' [] [(3584, 3584)] [(15, (.rf 3584 0 (([] : List Int).length) 1 (([] : List Int).length * 1))), (54, (.ag (x3.flatMap encB))), (55, (I 0))] [(3584, (([] : List Int).flatMap encI))] (shc 3584 (rowF encI_ok _) shn) (enc_ (.rf (memP_mem (p := (3584, 3584)) rfl)) (enc_ (.z (frz_arf encB_ok)) (enc_ (.z .s) enn))) ?_
        exact ih2 x3 ([] : List Int) 0 _ h
      · rw [if_neg c9] at h
        cases h
  · intro x2 x4 x5 x6 r h
    unfold impl_Within.l1 at h
    refine .loop' [c_ 125336, c_ 125337, l_ 31334, b_ 2, b_ 1, c_ 1959, l_ 122, b_ 0, c_ 31] ?_
    refine .reg' [11, 13, 31, 32, 33, 37, 38] [] ⟨[(11, (.pt 1024 0 (x5.length * 1))), (13, (.pt 1794 0 ((arr 30 (at_ x2 x4)).length * 1))), (31, (.rf 1001285 0 x2.length 30 (x2.length * 30))), (32, (I (x2.length : Int))), (33, (I x4)), (37, (I x6)), (38, (B (decide (x6 < 30))))], [(1024, (x5.flatMap encB)), (1001285, (x2.flatMap (encA 30))), (1794, ((arr 30 (at_ x2 x4)).flatMap encI))], [], []⟩ [c_ 250674, c_ 250675, l_ 31334, b_ 2, b_ 1, c_ 1959, l_ 122, b_ 0, c_ 31] aln nocal ?_
    by_cases c4 : x6 < 30
    · rw [if_pos c4] at h
      refine .cond' (.tmp 38) true [c_ 2005400, c_ 2005401, b_ 3, c_ 501351, l_ 31334, b_ 2, b_ 1, c_ 1959, l_ 122, b_ 0, c_ 31] (bT (dT c4)) ?_
      refine .reg' [11, 13, 14, 31, 32, 33, 37] [] ⟨[(11, (.pt 1024 0 (x5.length * 1))), (13, (.pt 1794 0 ((arr 30 (at_ x2 x4)).length * 1))), (14, (I x6)), (31, (.rf 1001285 0 x2.length 30 (x2.length * 30))), (32, (I (x2.length : Int))), (33, (I x4)), (37, (I x6))], [(1024, (x5.flatMap encB)), (1001285, (x2.flatMap (encA 30))), (1794, ((arr 30 (at_ x2 x4)).flatMap encI))], [], []⟩ [c_ 2005401, b_ 3, c_ 501351, l_ 31334, b_ 2, b_ 1, c_ 1959, l_ 122, b_ 0, c_ 31] aln nocal ?_
      by_cases c5 : 0 ≤ x6
      · rw [if_pos c5] at h
        by_cases c6 : x6 < (x5.length : Int)
        · rw [if_pos c6] at h
          by_cases c7 : (at_ x5 x6) = true
          · rw [if_pos c7] at h
            refine .reg' [11, 13, 31, 32, 33, 37] [.no, .no, .no, .v (B (at_ x5 x6)), .v (B true), .no, .no, .no, .no, .no, .no, .w .un ((x5.set x6.toNat true).flatMap encB)] ⟨[(11, (.pt 1024 0 (x5.length * 1))), (13, (.pt 1794 0 ((arr 30 (at_ x2 x4)).length * 1))), (31, (.rf 1001285 0 x2.length 30 (x2.length * 30))), (32, (I (x2.length : Int))), (33, (I x4)), (37, (I x6))], [(1024, ((x5.set x6.toNat true).flatMap encB)), (1001285, (x2.flatMap (encA 30))), (1794, ((arr 30 (at_ x2 x4)).flatMap encI))], [(0 : Int) ≤ x6 ∧ x6 < 30, rdC prog 4 ((x5.flatMap encB).drop (0 + x6.toNat * 1)) = (B (at_ x5 x6)), x5.length * 1 = (x5.flatMap encB).length ∧ 0 + x6.toNat * 1 + 1 ≤ (x5.flatMap encB).length, (B (at_ x5 x6) : V) = B true, (0 : Int) ≤ x6 ∧ x6 < 30, V.un = V.un, spl (x5.flatMap encB) (0 + x6.toNat * 1) [(B true)] = ((x5.set x6.toNat true).flatMap encB), x5.length * 1 = (x5.flatMap encB).length ∧ 0 + x6.toNat * 1 + 1 ≤ (x5.flatMap encB).length], []⟩ [c_ 501351, l_ 31334, b_ 2, b_ 1, c_ 1959, l_ 122, b_ 0, c_ 31] (alc ⟨c5, c4⟩ (alc (ldC01 encB_ok rfl c5 c6) (alc (okA0 encB_ok c5 c6 (by decide)) (alc (bT c7) (alc ⟨c5, c4⟩ (alc rfl (alc (st_row1 encB_ok c5 c6 (B true) rfl) (alc (okA0 encB_ok c5 c6 (by decide)) aln)))))))) nocal ?_
            refine .eqs (env2 := [(11, (.pt 1024 0 ((x5.set x6.toNat true).length * 1))), (13, (.pt 1794 0 ((arr 30 (at_ x2 x4)).length * 1))), (31, (.rf 1001285 0 x2.length 30 (x2.length * 30))), (32, (I (x2.length : Int))), (33, (I x4)), (37, (I x6))]) (H2 := [(1024, ((x5.set x6.toNat true).flatMap encB)), (1001285, (x2.flatMap (encA 30))), (1794, ((arr 30 (at_ x2 x4)).flatMap encI))]) (by first | (simp only [List.length_set]; done) | simp) (by first | rfl | (simp only [List.length_set]; done) | simp) ?_
            refine .reg' [11, 13, 31, 32, 33, 37] [] ⟨[(11, (.pt 1024 0 ((x5.set x6.toNat true).length * 1))), (13, (.pt 1794 0 ((arr 30 (at_ x2 x4)).length * 1))), (31, (.rf 1001285 0 x2.length 30 (x2.length * 30))), (32, (I (x2.length : Int))), (33, (I x4)), (37, (I (wrap64 (x6 + 1))))], [(1024, ((x5.set x6.toNat true).flatMap encB)), (1001285, (x2.flatMap (encA 30))), (1794, ((arr 30 (at_ x2 x4)).flatMap encI))], [], []⟩ [l_ 31334, b_ 2, b_ 1, c_ 1959, l_ 122, b_ 0, c_ 31] aln nocal ?_
            exact ih1 x2 x4 (x5.set x6.toNat true) (wrap64 (x6 + 1)) _ h
          · rw [if_neg c7] at h
            by_cases c8 : x6 < ((arr 30 (at_ x2 x4)).length : Int)
            · rw [if_pos c8] at h
              refine .reg' [11, 13, 31, 32, 33, 37] [.no, .no, .no, .v (B (at_ x5 x6)), .v (B false), .no, .no, .v (I (at_ (arr 30 (at_ x2 x4)) x6)), .no, .no, .no, .w .un ((x5.set x6.toNat (decide ((at_ (arr 30 (at_ x2 x4)) x6) < 100001))).flatMap encB)] ⟨[(11, (.pt 1024 0 (x5.length * 1))), (13, (.pt 1794 0 ((arr 30 (at_ x2 x4)).length * 1))), (31, (.rf 1001285 0 x2.length 30 (x2.length * 30))), (32, (I (x2.length : Int))), (33, (I x4)), (37, (I x6))], [(1024, ((x5.set x6.toNat (decide ((at_ (arr 30 (at_ x2 x4)) x6) < 100001))).flatMap encB)), (1001285, (x2.flatMap (encA 30))), (1794, ((arr 30 (at_ x2 x4)).flatMap encI))], [(0 : Int) ≤ x6 ∧ x6 < 30, rdC prog 4 ((x5.flatMap encB).drop (0 + x6.toNat * 1)) = (B (at_ x5 x6)), x5.length * 1 = (x5.flatMap encB).length ∧ 0 + x6.toNat * 1 + 1 ≤ (x5.flatMap encB).length, (B (at_ x5 x6) : V) = B false, (0 : Int) ≤ x6 ∧ x6 < 30, rdC prog 3 (((arr 30 (at_ x2 x4)).flatMap encI).drop (0 + x6.toNat * 1)) = (I (at_ (arr 30 (at_ x2 x4)) x6)), (arr 30 (at_ x2 x4)).length * 1 = ((arr 30 (at_ x2 x4)).flatMap encI).length ∧ 0 + x6.toNat * 1 + 1 ≤ ((arr 30 (at_ x2 x4)).flatMap encI).length, (0 : Int) ≤ x6 ∧ x6 < 30, V.un = V.un, spl (x5.flatMap encB) (0 + x6.toNat * 1) [(B (decide ((at_ (arr 30 (at_ x2 x4)) x6) < 100001)))] = ((x5.set x6.toNat (decide ((at_ (arr 30 (at_ x2 x4)) x6) < 100001))).flatMap encB), x5.length * 1 = (x5.flatMap encB).length ∧ 0 + x6.toNat * 1 + 1 ≤ (x5.flatMap encB).length], []⟩ [c_ 501351, l_ 31334, b_ 2, b_ 1, c_ 1959, l_ 122, b_ 0, c_ 31] (alc ⟨c5, c4⟩ (alc (ldC01 encB_ok rfl c5 c6) (alc (okA0 encB_ok c5 c6 (by decide)) (alc (bF (vF c7)) (alc ⟨c5, c4⟩ (alc (ldC01 encI_ok rfl c5 c8) (alc (okA0 encI_ok c5 c8 (by decide)) (alc ⟨c5, c4⟩ (alc rfl (alc (st_row1 encB_ok c5 c6 (B (decide ((at_ (arr 30 (at_ x2 x4)) x6) < 100001))) rfl) (alc (okA0 encB_ok c5 c6 (by decide)) aln))))))))))) nocal ?_
              refine .eqs (env2 := [(11, (.pt 1024 0 ((x5.set x6.toNat (decide ((at_ (arr 30 (at_ x2 x4)) x6) < 100001))).length * 1))), (13, (.pt 1794 0 ((arr 30 (at_ x2 x4)).length * 1))), (31, (.rf 1001285 0 x2.length 30 (x2.length * 30))), (32, (I (x2.length : Int))), (33, (I x4)), (37, (I x6))]) (H2 := [(1024, ((x5.set x6.toNat (decide ((at_ (arr 30 (at_ x2 x4)) x6) < 100001))).flatMap encB)), (1001285, (x2.flatMap (encA 30))), (1794, ((arr 30 (at_ x2 x4)).flatMap encI))]) (by first | (simp only [List.length_set]; done) | simp) (by first | rfl | (simp only [List.length_set]; done) | simp) ?_
              refine .reg' [11, 13, 31, 32, 33, 37] [] ⟨[(11, (.pt 1024 0 ((x5.set x6.toNat (decide ((at_ (arr 30 (at_ x2 x4)) x6) < 100001))).length * 1))), (13, (.pt 1794 0 ((arr 30 (at_ x2 x4)).length * 1))), (31, (.rf 1001285 0 x2.length 30 (x2.length * 30))), (32, (I (x2.length : Int))), (33, (I x4)), (37, (I (wrap64 (x6 + 1))))], [(1024, ((x5.set x6.toNat (decide ((at_ (arr 30 (at_ x2 x4)) x6) < 100001))).flatMap encB)), (1001285, (x2.flatMap (encA 30))), (1794, ((arr 30 (at_ x2 x4)).flatMap encI))], [], []⟩ [l_ 31334, b_ 2, b_ 1, c_ 1959, l_ 122, b_ 0, c_ 31] aln nocal ?_
              exact ih1 x2 x4 (x5.set x6.toNat (decide ((at_ (arr 30 (at_ x2 x4)) x6) < 100001))) (wrap64 (x6 + 1)) _ h
            · rw [if_neg c8] at h
              cases h
        · rw [if_neg c6] at h
          cases h
      · rw [if_neg c5] at h
        cases h
    · rw [if_neg c4] at h
      refine .cond' (.tmp 38) false [c_ 1959, l_ 122, b_ 0, c_ 31] (bF (dF c4)) ?_
      refine .reg' [11, 31, 32, 33] [] ⟨[(11, (.pt 1024 0 (x5.length * 1))), (31, (.rf 1001285 0 x2.length 30 (x2.length * 30))), (32, (I (x2.length : Int))), (33, (I (wrap64 (x4 + 1))))], [(1024, (x5.flatMap encB)), (1001285, (x2.flatMap (encA 30))), (1794, ((arr 30 (at_ x2 x4)).flatMap encI))], [], []⟩ [l_ 122, b_ 0, c_ 31] aln nocal ?_
      refine .wk' [] [(1024, 1024), (1001285, 1001285)] [(11, (.pt 1024 0 (x5.length * 1))), (31, (.rf 1001285 0 x2.length 30 (x2.length * 30))), (32, (I (x2.length : Int))), (33, (I (wrap64 (x4 + 1))))] [(1024, (x5.flatMap encB)), (1001285, (x2.flatMap (encA 30)))] (shc 1024 (rowF encB_ok _) (shc 1001285 (rowF (encA_ok 30) _) shn)) (enc_ (.pt (memP_mem (p := (1024, 1024)) rfl)) (enc_ (.rf (memP_mem (p := (1001285, 1001285)) rfl)) (enc_ (.z .s) (enc_ (.z .s) enn)))) ?_
      exact ih0 x2 x5 (wrap64 (x4 + 1)) _ h
  · intro x3 x7 x8 r h
    unfold impl_Within.l2 at h
    refine .loop' [c_ 2024, c_ 2025, l_ 506, b_ 4, c_ 127] ?_
    refine .reg' [15, 54, 55, 56] [] ⟨[(15, (.rf 3584 0 x7.length 1 (x7.length * 1))), (54, (.ag (x3.flatMap encB))), (55, (I x8)), (56, (B (decide (x8 < 30))))], [(3584, (x7.flatMap encI))], [], []⟩ [c_ 4050, c_ 4051, l_ 506, b_ 4, c_ 127] aln nocal ?_
    by_cases c10 : x8 < 30
    · rw [if_pos c10] at h
      refine .cond' (.tmp 56) true [c_ 32408, c_ 32409, b_ 5, c_ 8103, l_ 506, b_ 4, c_ 127] (bT (dT c10)) ?_
      by_cases c11 : x3.length = 30
      · rw [if_pos c11] at h
        by_cases c12 : 0 ≤ x8
        · rw [if_pos c12] at h
          by_cases c13 : x8 < (x3.length : Int)
          · rw [if_pos c13] at h
            refine .reg' [15, 16, 17, 54, 55] [.no, .v (B (at_ x3 x8))] ⟨[(15, (.rf 3584 0 x7.length 1 (x7.length * 1))), (16, (I x8)), (17, (B (at_ x3 x8))), (54, (.ag (x3.flatMap encB))), (55, (I x8))], [(3584, (x7.flatMap encI))], [(x3.flatMap encB).getD x8.toNat .un = (B (at_ x3 x8)), (0 : Int) ≤ x8 ∧ x8 < ((30 : Nat) : Int) ∧ 30 = (x3.flatMap encB).length], []⟩ [c_ 64818, c_ 64819, b_ 5, c_ 8103, l_ 506, b_ 4, c_ 127] (alc (ixAll encB_ok c12 c13 rfl) (alc (okIx encB_ok c12 c10 c11) aln)) nocal ?_
            refine .reg' [15, 16, 54, 55, 59] [] ⟨[(15, (.rf 3584 0 x7.length 1 (x7.length * 1))), (16, (I x8)), (54, (.ag (x3.flatMap encB))), (55, (I x8)), (59, (B (at_ x3 x8)))], [(3584, (x7.flatMap encI))], [], []⟩ [c_ 64819, b_ 5, c_ 8103, l_ 506, b_ 4, c_ 127] aln nocal ?_
            by_cases c14 : (at_ x3 x8) = true
            · rw [if_pos c14] at h
              refine .cond' (.tmp 59) true [c_ 129638, b_ 5, c_ 8103, l_ 506, b_ 4, c_ 127] (bT c14) ?_
              by_cases c15 : (x7.length + ([x8] : List Int).length) * 8 ≤ 70368744177664
              · rw [if_pos c15] at h
                refine .reg' [15, 54, 55] [.no, .no, .no, .w (.rf 3584 0 ((x7 ++ ([x8] : List Int)).length) 1 ((x7 ++ ([x8] : List Int)).length * 1)) ((x7 ++ ([x8] : List Int)).flatMap encI)] ⟨[(15, (.rf 3584 0 ((x7 ++ ([x8] : List Int)).length) 1 ((x7 ++ ([x8] : List Int)).length * 1))), (54, (.ag (x3.flatMap encB))), (55, (I x8))], [(3584, ((x7 ++ ([x8] : List Int)).flatMap encI)), (4866, (([x8] : List Int).flatMap encI))], [V.rf 3584 0 (x7.length + ([x8] : List Int).length) 1 (x7.length * 1 + ([x8] : List Int).length * 1) = (.rf 3584 0 ((x7 ++ ([x8] : List Int)).length) 1 ((x7 ++ ([x8] : List Int)).length * 1)), x7.flatMap encI ++ (((([x8] : List Int).flatMap encI).drop 0).take (([x8] : List Int).length * 1)) = ((x7 ++ ([x8] : List Int)).flatMap encI), (([x8] : List Int).length * 1 = (([x8] : List Int).flatMap encI).length ∧ 0 + ([x8] : List Int).length * 1 ≤ (([x8] : List Int).flatMap encI).length) ∧ x7.length * 1 = (x7.flatMap encI).length ∧ x7.length * 1 = (x7.flatMap encI).length ∧ (x7.length + ([x8] : List Int).length) * 8 ≤ 70368744177664], []⟩ [c_ 8103, l_ 506, b_ 4, c_ 127] (alc (apV rfl) (alc (apR encI_ok rfl) (alc (apO encI_ok rfl c15 rfl) aln))) nocal ?_
                refine .reg' [15, 54, 55] [] ⟨[(15, (.rf 3584 0 ((x7 ++ ([x8] : List Int)).length) 1 ((x7 ++ ([x8] : List Int)).length * 1))), (54, (.ag (x3.flatMap encB))), (55, (I (wrap64 (x8 + 1))))], [(3584, ((x7 ++ ([x8] : List Int)).flatMap encI)), (4866, (([x8] : List Int).flatMap encI))], [], []⟩ [l_ 506, b_ 4, c_ 127] aln nocal ?_
                refine .wk' [] [(3584, 3584)] [(15, (.rf 3584 0 ((x7 ++ ([x8] : List Int)).length) 1 ((x7 ++ ([x8] : List Int)).length * 1))), (54, (.ag (x3.flatMap encB))), (55, (I (wrap64 (x8 + 1))))] [(3584, ((x7 ++ ([x8] : List Int)).flatMap encI))] (shc 3584 (rowF encI_ok _) shn) (enc_ (.rf (memP_mem (p := (3584, 3584)) rfl)) (enc_ (.z (frz_arf encB_ok)) (enc_ (.z .s) enn))) ?_
                exact ih2 x3 (x7 ++ ([x8] : List Int)) (wrap64 (x8 + 1)) _ h
              · rw [if_neg c15] at h
                cases h
            · rw [if_neg c14] at h
              refine .cond' (.tmp 59) false [c_ 8103, l_ 506, b_ 4, c_ 127] (bF (vF c14)) ?_
              refine .reg' [15, 54, 55] [] ⟨[(15, (.rf 3584 0 x7.length 1 (x7.length * 1))), (54, (.ag (x3.flatMap encB))), (55, (I (wrap64 (x8 + 1))))], [(3584, (x7.flatMap encI))], [], []⟩ [l_ 506, b_ 4, c_ 127] aln nocal ?_
              exact ih2 x3 x7 (wrap64 (x8 + 1)) _ h
          · rw [if_neg c13] at h
            cases h
        · rw [if_neg c12] at h
          cases h
      · rw [if_neg c11] at h
        cases h
    · rw [if_neg c10] at h
      refine .cond' (.tmp 56) false [c_ 254, c_ 255] (bF (dF c10)) ?_
      refine .reg' [10] [] ⟨[(10, (.rf 3584 0 x7.length 1 (x7.length * 1)))], [(3584, (x7.flatMap encI))], [], []⟩ [c_ 255] aln nocal ?_
      have h := Option.some.inj h
      subst h
      exact .fin' [] [(3584, 3584)] (.rf 3584 0 x7.length 1 (x7.length * 1)) [] aln (shc 3584 (rowF encI_ok _) shn) (.rf (memP_mem (p := (3584, 3584)) rfl))
theorem impl_Within.J (k : Nat) (a0 : (List S105)) (a1 : Int) (a2 : Int) (a3 : Int) (a4 : Int) (r : (List Int)) (h : impl_Within.f k a0 a1 a2 a3 a4 = some r) : J prog (.call 51 [(.sl true a0.length 2 (a0.flatMap (e105 true))), (I a1), (I a2), (I a3), (I a4)] [] (.rf 3584 0 r.length 1 (r.length * 1)) [(3584, (r.flatMap encI))]) := by
  unfold impl_Within.f at h
  obtain ⟨ih0, ih1, ih2⟩ := impl_Within.lab k
  refine .call' [c_ 2, c_ 3] ?_
  refine .reg' [0, 1, 2, 3, 4] [] ⟨[(0, (.sl true a0.length 2 (a0.flatMap (e105 true)))), (1, (I a1)), (2, (I a2)), (3, (I a3)), (4, (I a4))], [], [], []⟩ [c_ 12, c_ 13, c_ 7] aln nocal ?_
  obtain ⟨x1, hx1, h⟩ := Option.bind_eq_some_iff.mp h
  refine .reg' [0, 1, 2, 3, 4, 25] [.no, .no, .no, .no, .no, .no, .c ⟨94, [(.sl true a0.length 2 (a0.flatMap (e105 true))), (I a1), (I a1), (I a2), (I a3), (I a4)], [], (B x1), [], [], [], [], (B x1), []⟩] ⟨[(0, (.sl true a0.length 2 (a0.flatMap (e105 true)))), (1, (I a1)), (2, (I a2)), (3, (I a3)), (4, (I a4)), (25, (B (!x1)))], [], [COK (hget []) [(.sl true a0.length 2 (a0.flatMap (e105 true))), (I a1), (I a1), (I a2), (I a3), (I a4)] ⟨94, [(.sl true a0.length 2 (a0.flatMap (e105 true))), (I a1), (I a1), (I a2), (I a3), (I a4)], [], (B x1), [], [], [], [], (B x1), []⟩], [⟨94, [(.sl true a0.length 2 (a0.flatMap (e105 true))), (I a1), (I a1), (I a2), (I a3), (I a4)], [], (B x1), [], [], [], [], (B x1), []⟩]⟩ [c_ 13, c_ 7] (alc (cok0 false (a2c (.z (frz_sl (e105_ok true) (fun h => h))) (a2c (.z .s) (a2c (.z .s) (a2c (.z .s) (a2c (.z .s) (a2c (.z .s) a2n)))))) (.z .s) (fun h => absurd h (by decide))) aln) (acal (impl_questionOk.J k a0 a1 a1 a2 a3 a4 _ hx1) nocal) ?_
  by_cases c1 : x1 = true
  · rw [if_pos c1] at h
    refine .cond' (.tmp 25) false [c_ 14, c_ 15] (bF (nF c1)) ?_
    refine .reg' [0, 1, 2, 3, 4, 11] [] ⟨[(0, (.sl true a0.length 2 (a0.flatMap (e105 true)))), (1, (I a1)), (2, (I a2)), (3, (I a3)), (4, (I a4)), (11, (.pt 1024 0 30))], [(1024, ((List.replicate 30 (false : Bool)).flatMap encB))], [], []⟩ [c_ 60, c_ 61, c_ 31] aln nocal ?_
    refine .eqs (env2 := [(0, (.sl true a0.length 2 (a0.flatMap (e105 true)))), (1, (I a1)), (2, (I a2)), (3, (I a3)), (4, (I a4)), (11, (.pt 1024 0 ((List.replicate 30 (false : Bool)).length * 1)))]) (H2 := [(1024, ((List.replicate 30 (false : Bool)).flatMap encB))]) (by first | (simp only [List.length_set]; done) | simp) (by first | rfl | (simp only [List.length_set]; done) | simp) ?_
    obtain ⟨x2, hx2, h⟩ := Option.bind_eq_some_iff.mp h
    refine .reg' [11, 31, 32, 33] [.no, .no, .no, .no, .no, .c ⟨96, [(.sl true a0.length 2 (a0.flatMap (e105 true))), (I a1), (I a2), (I a3), (I a4)], [], (.rf 514 0 x2.length 30 (x2.length * 30)), [(514, (x2.flatMap (encA 30)))], [], [], [(1001285, 514)], (.rf 1001285 0 x2.length 30 (x2.length * 30)), [(1001285, (x2.flatMap (encA 30)))]⟩] ⟨[(11, (.pt 1024 0 ((List.replicate 30 (false : Bool)).length * 1))), (31, (.rf 1001285 0 x2.length 30 (x2.length * 30))), (32, (I (x2.length : Int))), (33, (I 0))], [(1024, ((List.replicate 30 (false : Bool)).flatMap encB)), (1001285, (x2.flatMap (encA 30)))], [COK (hget [(1024, ((List.replicate 30 (false : Bool)).flatMap encB))]) [(.sl true a0.length 2 (a0.flatMap (e105 true))), (I a1), (I a2), (I a3), (I a4)] ⟨96, [(.sl true a0.length 2 (a0.flatMap (e105 true))), (I a1), (I a2), (I a3), (I a4)], [], (.rf 514 0 x2.length 30 (x2.length * 30)), [(514, (x2.flatMap (encA 30)))], [], [], [(1001285, 514)], (.rf 1001285 0 x2.length 30 (x2.length * 30)), [(1001285, (x2.flatMap (encA 30)))]⟩], [⟨96, [(.sl true a0.length 2 (a0.flatMap (e105 true))), (I a1), (I a2), (I a3), (I a4)], [], (.rf 514 0 x2.length 30 (x2.length * 30)), [(514, (x2.flatMap (encA 30)))], [], [], [(1001285, 514)], (.rf 1001285 0 x2.length 30 (x2.length * 30)), [(1001285, (x2.flatMap (encA 30)))]⟩]⟩ [l_ 122, b_ 0, c_ 31] (alc (cokW false (a2c (.z (frz_sl (e105_ok true) (fun h => h))) (a2c (.z .s) (a2c (.z .s) (a2c (.z .s) (a2c (.z .s) a2n))))) akn (akc (.inr rfl) akn) (.rf (memP_mem (p := (1001285, 514)) rfl)) (akc ⟨_, _, rfl, rfl, rowB (encA_c 30) _⟩ akn) (fun h => absurd h (by decide))) aln) (acal (impl_arrivals.J k a0 a1 a2 a3 a4 _ hx2) nocal) ?_
    exact ih0 x2 (List.replicate 30 (false : Bool)) 0 _ h
  · rw [if_neg c1] at h
    refine .cond' (.tmp 25) true [c_ 52, c_ 53, c_ 7] (bT (nT (vF c1))) ?_
    refine .reg' [10] [] ⟨[(10, nilS)], [], [], []⟩ [c_ 53, c_ 7] aln nocal ?_
    have h := Option.some.inj h
    subst h
    refine .nl' 3584 ?_
    exact .fin' [] [(3584, 3584)] nilS [] aln (shc 3584 (rowF encI_ok _) shn) (.nl (memP_mem (p := (3584, 3584)) rfl) rfl)
/-! laws_within: function 50 -/
def laws_within.l0 : Nat → (List Int) → Int → Int → Option Bool
 | 0, _, _, _ => none
 | k + 1, a0, a1, x1 => (if x1 < (a0.length : Int) then (if 0 ≤ x1 then (if (at_ a0 x1) = a1 then (some true) else (laws_within.l0 k a0 a1 (wrap64 (x1 + 1)))) else none) else (some false))
def laws_within.f (k : Nat) (a0 : (List Int)) (a1 : Int) : Option Bool := (laws_within.l0 k a0 a1 0)
theorem laws_within.lab : ∀ k, (∀ (a0 : (List Int)) (a1 : Int) (x1 : Int) (r : Bool), laws_within.l0 k a0 a1 x1 = some r → J prog (.run 50 [] [l_ 26, b_ 0, c_ 7] [(0, (.sl true a0.length 1 (a0.flatMap encI))), (1, (I a1)), (5, (I x1))] [] (B r) []))
 | 0 => (by intro a0 a1 x1 r h; unfold laws_within.l0 at h; cases h)
 | k + 1 => by
  have ih0 := laws_within.lab k
  · intro a0 a1 x1 r h
    unfold laws_within.l0 at h
    refine .loop' [c_ 208, c_ 209, c_ 105, l_ 26, b_ 0, c_ 7] ?_
    refine .reg' [0, 1, 5, 9] [] ⟨[(0, (.sl true a0.length 1 (a0.flatMap encI))), (1, (I a1)), (5, (I x1)), (9, (B (decide (x1 < (a0.length : Int)))))], [], [], []⟩ [c_ 209, c_ 105, l_ 26, b_ 0, c_ 7] aln nocal ?_
    by_cases c1 : x1 < (a0.length : Int)
    · rw [if_pos c1] at h
      refine .cond' (.tmp 9) true [c_ 840, c_ 841, b_ 1, c_ 211, l_ 26, b_ 0, c_ 7] (bT (dT c1)) ?_
      by_cases c2 : 0 ≤ x1
      · rw [if_pos c2] at h
        refine .reg' [0, 1, 5, 17] [.no, .no, .no, .v (I (at_ a0 x1))] ⟨[(0, (.sl true a0.length 1 (a0.flatMap encI))), (1, (I a1)), (5, (I x1)), (17, (B ((at_ a0 x1) == a1)))], [], [(0 : Int) ≤ x1 ∧ x1 < (a0.length : Int), rdC prog 3 ((a0.flatMap encI).drop (x1.toNat * 1)) = (I (at_ a0 x1)), 1 ≤ ((a0.flatMap encI).drop (x1.toNat * 1)).length], []⟩ [c_ 841, b_ 1, c_ 211, l_ 26, b_ 0, c_ 7] (alc ⟨c2, c1⟩ (alc (ldC1 encI_ok rfl c2 c1) (alc (okI encI_ok c2 c1 (by decide)) aln))) nocal ?_
        by_cases c3 : (at_ a0 x1) = a1
        · rw [if_pos c3] at h
          refine .cond' (.tmp 17) true [c_ 3364, c_ 3365, b_ 1, c_ 211, l_ 26, b_ 0, c_ 7] (bT (qT c3)) ?_
          refine .reg' [4] [] ⟨[(4, (B true))], [], [], []⟩ [c_ 3365, b_ 1, c_ 211, l_ 26, b_ 0, c_ 7] aln nocal ?_
          have h := Option.some.inj h
          subst h
          exact .fin0 [] (B true) [] aln (.z .s)
        · rw [if_neg c3] at h
          refine .cond' (.tmp 17) false [c_ 211, l_ 26, b_ 0, c_ 7] (bF (qF c3)) ?_
          refine .reg' [0, 1, 5] [] ⟨[(0, (.sl true a0.length 1 (a0.flatMap encI))), (1, (I a1)), (5, (I (wrap64 (x1 + 1))))], [], [], []⟩ [l_ 26, b_ 0, c_ 7] aln nocal ?_
          exact ih0 a0 a1 (wrap64 (x1 + 1)) _ h
      · rw [if_neg c2] at h
        cases h
    · rw [if_neg c1] at h
      refine .cond' (.tmp 9) false [c_ 14, c_ 15] (bF (dF c1)) ?_
      refine .reg' [4] [] ⟨[(4, (B false))], [], [], []⟩ [c_ 15] aln nocal ?_
      have h := Option.some.inj h
      subst h
      exact .fin0 [] (B false) [] aln (.z .s)
theorem laws_within.J (k : Nat) (a0 : (List Int)) (a1 : Int) (r : Bool) (h : laws_within.f k a0 a1 = some r) : J prog (.call 50 [(.sl true a0.length 1 (a0.flatMap encI)), (I a1)] [] (B r) []) := by
  unfold laws_within.f at h
  have ih0 := laws_within.lab k
  refine .call' [c_ 2, c_ 3] ?_
  refine .reg' [0, 1] [] ⟨[(0, (.sl true a0.length 1 (a0.flatMap encI))), (1, (I a1))], [], [], []⟩ [c_ 12, c_ 13, c_ 7] aln nocal ?_
  refine .reg' [0, 1, 5] [] ⟨[(0, (.sl true a0.length 1 (a0.flatMap encI))), (1, (I a1)), (5, (I 0))], [], [], []⟩ [l_ 26, b_ 0, c_ 7] aln nocal ?_
  exact ih0 a0 a1 0 _ h
/-! laws_FnSooner: function 9 -/
mutual
def laws_FnSooner.j0 : Nat → (List Int) → ((List S105) × Int × Int × Int × Int) → (List Int) → Int → Option Bool
 | 0, _, _, _, _ => none
 | k + 1, a0, x2, x4, x5 => (laws_FnSooner.l1 k a0 x2 x4 x5 1)
def laws_FnSooner.l1 : Nat → (List Int) → ((List S105) × Int × Int × Int × Int) → (List Int) → Int → Int → Option Bool
 | 0, _, _, _, _, _ => none
 | k + 1, a0, x2, x4, x5, x6 => (if x6 ≤ 5 then ((impl_Soonest.f k x2.1 x2.2.1 x5 x2.2.2.2.1 x2.2.2.2.2 x6).bind fun x7 => (if 0 ≤ (wrap64 (x6 - 1)) then (if (wrap64 (x6 - 1)) < (x4.length : Int) then (if (at_ x4 (wrap64 (x6 - 1))) = x7 then (if x6 > 1 then (if 0 ≤ (wrap64 (x6 - 2)) then (if (wrap64 (x6 - 2)) < (x4.length : Int) then (if (at_ x4 (wrap64 (x6 - 2))) ≥ 0 then (if x7 < 0 then (some false) else (if x7 > (at_ x4 (wrap64 (x6 - 2))) then (some false) else (laws_FnSooner.j2 k a0 x2 x4 x5 x6 x7))) else (laws_FnSooner.j2 k a0 x2 x4 x5 x6 x7)) else none) else none) else (laws_FnSooner.j2 k a0 x2 x4 x5 x6 x7)) else (some false)) else none) else none)) else ((impl_Within.f k x2.1 x2.2.1 x2.2.2.2.1 x2.2.2.2.2 5).bind fun x12 => ((laws_within.f k x12 x5).bind fun x13 => (if 4 < (x4.length : Int) then (some (x13 == (decide ((at_ x4 4) ≥ 0)))) else none))))
def laws_FnSooner.j2 : Nat → (List Int) → ((List S105) × Int × Int × Int × Int) → (List Int) → Int → Int → Int → Option Bool
 | 0, _, _, _, _, _, _ => none
 | k + 1, a0, x2, x4, x5, x6, x7 => ((laws_at.f a0 5).bind fun x8 => ((impl_Soonest.f k x2.1 x2.2.1 x5 (wrap64 (x2.2.2.2.1 + (x8.tmod (32 : Int)))) x2.2.2.2.2 x6).bind fun x9 => ((laws_at.f a0 6).bind fun x10 => ((impl_Soonest.f k x2.1 x2.2.1 x5 x2.2.2.2.1 (wrap64 (x2.2.2.2.2 + (x10.tmod (9 : Int)))) x6).bind fun x11 => (if x9 ≥ 0 then (if x7 < 0 then (some false) else (if x9 < x7 then (some false) else (if x11 ≥ 0 then (if x11 < x7 then (some false) else (laws_FnSooner.l1 k a0 x2 x4 x5 (wrap64 (x6 + 1)))) else (laws_FnSooner.l1 k a0 x2 x4 x5 (wrap64 (x6 + 1)))))) else (if x11 ≥ 0 then (if x7 < 0 then (some false) else (if x11 < x7 then (some false) else (laws_FnSooner.l1 k a0 x2 x4 x5 (wrap64 (x6 + 1))))) else (laws_FnSooner.l1 k a0 x2 x4 x5 (wrap64 (x6 + 1)))))))))
end
def laws_FnSooner.f (k : Nat) (a0 : (List Int)) : Option Bool := ((laws_big.f a0).bind fun x1 => (if x1 = true then (some true) else ((spec_DrawRightQuestion.f k a0).bind fun x2 => (if x2.2.1 = x2.2.2.1 then ((impl_Fastest.f k x2.1 x2.2.1 ((wrap64 (x2.2.2.1 + 1)).tmod (5 : Int)) x2.2.2.2.1 x2.2.2.2.2).bind fun x3 => (if (x3.length : Int) = 5 then (laws_FnSooner.j0 k a0 x2 x3 ((wrap64 (x2.2.2.1 + 1)).tmod (5 : Int))) else (some false))) else ((impl_Fastest.f k x2.1 x2.2.1 x2.2.2.1 x2.2.2.2.1 x2.2.2.2.2).bind fun x14 => (if (x14.length : Int) = 5 then (laws_FnSooner.j0 k a0 x2 x14 x2.2.2.1) else (some false)))))))
theorem laws_FnSooner.lab : ∀ k, (∀ (a0 : (List Int)) (x2 : ((List S105) × Int × Int × Int × Int)) (x4 : (List Int)) (x5 : Int) (r : Bool), laws_FnSooner.j0 k a0 x2 x4 x5 = some r → J prog (.run 9 [] [c_ 508, c_ 509, c_ 255] [(0, (.sl false a0.length 1 (a0.flatMap encU))), (3, (.rf 1001025 0 x2.1.length 2 (x2.1.length * 2))), (4, (I x2.2.1)), (5, (I x5)), (6, (I x2.2.2.2.1)), (7, (I x2.2.2.2.2)), (8, (.rf 1001797 0 x4.length 1 (x4.length * 1)))] [(1001025, (x2.1.flatMap (e105 false))), (1001797, (x4.flatMap encI))] (B r) [])) ∧ (∀ (a0 : (List Int)) (x2 : ((List S105) × Int × Int × Int × Int)) (x4 : (List Int)) (x5 : Int) (x6 : Int) (r : Bool), laws_FnSooner.l1 k a0 x2 x4 x5 x6 = some r → J prog (.run 9 [] [l_ 1018, b_ 0, c_ 255] [(0, (.sl false a0.length 1 (a0.flatMap encU))), (3, (.rf 1001025 0 x2.1.length 2 (x2.1.length * 2))), (4, (I x2.2.1)), (5, (I x5)), (6, (I x2.2.2.2.1)), (7, (I x2.2.2.2.2)), (8, (.rf 1001797 0 x4.length 1 (x4.length * 1))), (9, (I x6))] [(1001025, (x2.1.flatMap (e105 false))), (1001797, (x4.flatMap encI))] (B r) [])) ∧ (∀ (a0 : (List Int)) (x2 : ((List S105) × Int × Int × Int × Int)) (x4 : (List Int)) (x5 : Int) (x6 : Int) (x7 : Int) (r : Bool), laws_FnSooner.j2 k a0 x2 x4 x5 x6 x7 = some r → J prog (.run 9 [] [c_ 130342, c_ 130343, b_ 1, c_ 8147, l_ 1018, b_ 0, c_ 255] [(0, (.sl false a0.length 1 (a0.flatMap encU))), (3, (.rf 1001025 0 x2.1.length 2 (x2.1.length * 2))), (4, (I x2.2.1)), (5, (I x5)), (6, (I x2.2.2.2.1)), (7, (I x2.2.2.2.2)), (8, (.rf 1001797 0 x4.length 1 (x4.length * 1))), (9, (I x6)), (10, (I x7))] [(1001025, (x2.1.flatMap (e105 false))), (1001797, (x4.flatMap encI))] (B r) []))
 | 0 => ⟨(by intro a0 x2 x4 x5 r h; unfold laws_FnSooner.j0 at h; cases h), (by intro a0 x2 x4 x5 x6 r h; unfold laws_FnSooner.l1 at h; cases h), (by intro a0 x2 x4 x5 x6 x7 r h; unfold laws_FnSooner.j2 at h; cases h)⟩
 | k + 1 => by
  obtain ⟨ih0, ih1, ih2⟩ := laws_FnSooner.lab k
  refine ⟨?_, ?_, ?_⟩
  · intro a0 x2 x4 x5 r h
    unfold laws_FnSooner.j0 at h
    dsimp only at h
    refine .reg' [0, 3, 4, 5, 6, 7, 8, 9] [] ⟨[(0, (.sl false a0.length 1 (a0.flatMap encU))), (3, (.rf 1001025 0 x2.1.length 2 (x2.1.length * 2))), (4, (I x2.2.1)), (5, (I x5)), (6, (I x2.2.2.2.1)), (7, (I x2.2.2.2.2)), (8, (.rf 1001797 0 x4.length 1 (x4.length * 1))), (9, (I 1))], [(1001025, (x2.1.flatMap (e105 false))), (1001797, (x4.flatMap encI))], [], []⟩ [l_ 1018, b_ 0, c_ 255] aln nocal ?_
    exact ih1 a0 x2 x4 x5 1 _ h
  · intro a0 x2 x4 x5 x6 r h
    unfold laws_FnSooner.l1 at h
    refine .loop' [c_ 8144, c_ 8145, c_ 4073, l_ 1018, b_ 0, c_ 255] ?_
    refine .reg' [0, 3, 4, 5, 6, 7, 8, 9, 39] [] ⟨[(0, (.sl false a0.length 1 (a0.flatMap encU))), (3, (.rf 1001025 0 x2.1.length 2 (x2.1.length * 2))), (4, (I x2.2.1)), (5, (I x5)), (6, (I x2.2.2.2.1)), (7, (I x2.2.2.2.2)), (8, (.rf 1001797 0 x4.length 1 (x4.length * 1))), (9, (I x6)), (39, (B (decide (x6 ≤ 5))))], [(1001025, (x2.1.flatMap (e105 false))), (1001797, (x4.flatMap encI))], [], []⟩ [c_ 8145, c_ 4073, l_ 1018, b_ 0, c_ 255] aln nocal ?_
    by_cases c4 : x6 ≤ 5
    · rw [if_pos c4] at h
      refine .cond' (.tmp 39) true [c_ 32584, c_ 32585, b_ 1, c_ 8147, l_ 1018, b_ 0, c_ 255] (bT (dT c4)) ?_
      obtain ⟨x7, hx7, h⟩ := Option.bind_eq_some_iff.mp h
      refine .reg' [0, 3, 4, 5, 6, 7, 8, 9, 10] [.no, .no, .no, .no, .no, .no, .c ⟨48, [(.sl true x2.1.length 2 (x2.1.flatMap (e105 true))), (I x2.2.1), (I x5), (I x2.2.2.2.1), (I x2.2.2.2.2), (I x6)], [], (I x7), [], [1001025], [], [], (I x7), []⟩] ⟨[(0, (.sl false a0.length 1 (a0.flatMap encU))), (3, (.rf 1001025 0 x2.1.length 2 (x2.1.length * 2))), (4, (I x2.2.1)), (5, (I x5)), (6, (I x2.2.2.2.1)), (7, (I x2.2.2.2.2)), (8, (.rf 1001797 0 x4.length 1 (x4.length * 1))), (9, (I x6)), (10, (I x7))], [(1001025, (x2.1.flatMap (e105 false))), (1001797, (x4.flatMap encI))], [COK (hget [(1001025, (x2.1.flatMap (e105 false))), (1001797, (x4.flatMap encI))]) [(.rf 1001025 0 x2.1.length 2 (x2.1.length * 2)), (I x2.2.1), (I x5), (I x2.2.2.2.1), (I x2.2.2.2.2), (I x6)] ⟨48, [(.sl true x2.1.length 2 (x2.1.flatMap (e105 true))), (I x2.2.1), (I x5), (I x2.2.2.2.1), (I x2.2.2.2.2), (I x6)], [], (I x7), [], [1001025], [], [], (I x7), []⟩], [⟨48, [(.sl true x2.1.length 2 (x2.1.flatMap (e105 true))), (I x2.2.1), (I x5), (I x2.2.2.2.1), (I x2.2.2.2.2), (I x6)], [], (I x7), [], [1001025], [], [], (I x7), []⟩]⟩ [c_ 130340, c_ 130341, c_ 65171, b_ 1, c_ 8147, l_ 1018, b_ 0, c_ 255] (alc (cok0 false (a2c (.z (frz_rfT (k := 1001025) (fun x => e105_to x) (e105_ok false) (by simp) rfl rfl (row_len (e105_ok false) _).symm)) (a2c (.z .s) (a2c (.z .s) (a2c (.z .s) (a2c (.z .s) (a2c (.z .s) a2n)))))) (.z .s) (fun h => absurd h (by decide))) aln) (acal (impl_Soonest.J k x2.1 x2.2.1 x5 x2.2.2.2.1 x2.2.2.2.2 x6 _ hx7) nocal) ?_
      by_cases c5 : 0 ≤ (wrap64 (x6 - 1))
      · rw [if_pos c5] at h
        by_cases c6 : (wrap64 (x6 - 1)) < (x4.length : Int)
        · rw [if_pos c6] at h
          by_cases c7 : (at_ x4 (wrap64 (x6 - 1))) = x7
          · rw [if_pos c7] at h
            by_cases c8 : x6 > 1
            · rw [if_pos c8] at h
              by_cases c9 : 0 ≤ (wrap64 (x6 - 2))
              · rw [if_pos c9] at h
                by_cases c10 : (wrap64 (x6 - 2)) < (x4.length : Int)
                · rw [if_pos c10] at h
                  by_cases c11 : (at_ x4 (wrap64 (x6 - 2))) ≥ 0
                  · rw [if_pos c11] at h
                    by_cases c12 : x7 < 0
                    · rw [if_pos c12] at h
                      refine .reg' [0, 3, 4, 5, 6, 7, 8, 9, 10, 80] [.no, .no, .no, .no, .v (I (at_ x4 (wrap64 (x6 - 1)))), .no, .no, .v (B false), .no, .no, .v (B true), .no, .no, .no, .no, .v (I (at_ x4 (wrap64 (x6 - 2)))), .no, .no, .v (B true), .no, .no, .v (B true)] ⟨[(0, (.sl false a0.length 1 (a0.flatMap encU))), (3, (.rf 1001025 0 x2.1.length 2 (x2.1.length * 2))), (4, (I x2.2.1)), (5, (I x5)), (6, (I x2.2.2.2.1)), (7, (I x2.2.2.2.2)), (8, (.rf 1001797 0 x4.length 1 (x4.length * 1))), (9, (I x6)), (10, (I x7)), (80, (B true))], [(1001025, (x2.1.flatMap (e105 false))), (1001797, (x4.flatMap encI))], [(0 : Int) ≤ (wrap64 (x6 - 1)) ∧ (wrap64 (x6 - 1)) < (x4.length : Int), rdC prog 3 ((x4.flatMap encI).drop (0 + (wrap64 (x6 - 1)).toNat * 1)) = (I (at_ x4 (wrap64 (x6 - 1)))), x4.length * 1 = (x4.flatMap encI).length ∧ 0 + (wrap64 (x6 - 1)).toNat * 1 + 1 ≤ (x4.flatMap encI).length, (B (!((at_ x4 (wrap64 (x6 - 1))) == x7)) : V) = B false, (B (decide (x6 > 1)) : V) = B true, (0 : Int) ≤ (wrap64 (x6 - 2)) ∧ (wrap64 (x6 - 2)) < (x4.length : Int), rdC prog 3 ((x4.flatMap encI).drop (0 + (wrap64 (x6 - 2)).toNat * 1)) = (I (at_ x4 (wrap64 (x6 - 2)))), x4.length * 1 = (x4.flatMap encI).length ∧ 0 + (wrap64 (x6 - 2)).toNat * 1 + 1 ≤ (x4.flatMap encI).length, (B (decide ((at_ x4 (wrap64 (x6 - 2))) ≥ 0)) : V) = B true, (B (decide (x7 < 0)) : V) = B true], []⟩ [c_ 130341, c_ 65171, b_ 1, c_ 8147, l_ 1018, b_ 0, c_ 255] (alc ⟨c5, c6⟩ (alc (ldC01 encI_ok rfl c5 c6) (alc (okA0 encI_ok c5 c6 (by decide)) (alc (bF (nF (qT c7))) (alc (bT (dT c8)) (alc ⟨c9, c10⟩ (alc (ldC01 encI_ok rfl c9 c10) (alc (okA0 encI_ok c9 c10 (by decide)) (alc (bT (dT c11)) (alc (bT (dT c12)) aln)))))))))) nocal ?_
                      refine .cond' (.tmp 80) true [c_ 521364, c_ 521365, c_ 65171, b_ 1, c_ 8147, l_ 1018, b_ 0, c_ 255] (rfl) ?_
                      refine .reg' [2] [] ⟨[(2, (B false))], [(1001025, (x2.1.flatMap (e105 false))), (1001797, (x4.flatMap encI))], [], []⟩ [c_ 521365, c_ 65171, b_ 1, c_ 8147, l_ 1018, b_ 0, c_ 255] aln nocal ?_
                      have h := Option.some.inj h
                      subst h
                      exact .fin0 [] (B false) [] aln (.z .s)
                    · rw [if_neg c12] at h
                      refine .reg' [0, 3, 4, 5, 6, 7, 8, 9, 10, 80] [.no, .no, .no, .no, .v (I (at_ x4 (wrap64 (x6 - 1)))), .no, .no, .v (B false), .no, .no, .v (B true), .no, .no, .no, .no, .v (I (at_ x4 (wrap64 (x6 - 2)))), .no, .no, .v (B true), .no, .no, .v (B false), .no, .no, .no, .no, .no, .v (I (at_ x4 (wrap64 (x6 - 2))))] ⟨[(0, (.sl false a0.length 1 (a0.flatMap encU))), (3, (.rf 1001025 0 x2.1.length 2 (x2.1.length * 2))), (4, (I x2.2.1)), (5, (I x5)), (6, (I x2.2.2.2.1)), (7, (I x2.2.2.2.2)), (8, (.rf 1001797 0 x4.length 1 (x4.length * 1))), (9, (I x6)), (10, (I x7)), (80, (B (decide (x7 > (at_ x4 (wrap64 (x6 - 2)))))))], [(1001025, (x2.1.flatMap (e105 false))), (1001797, (x4.flatMap encI))], [(0 : Int) ≤ (wrap64 (x6 - 1)) ∧ (wrap64 (x6 - 1)) < (x4.length : Int), rdC prog 3 ((x4.flatMap encI).drop (0 + (wrap64 (x6 - 1)).toNat * 1)) = (I (at_ x4 (wrap64 (x6 - 1)))), x4.length * 1 = (x4.flatMap encI).length ∧ 0 + (wrap64 (x6 - 1)).toNat * 1 + 1 ≤ (x4.flatMap encI).length, (B (!((at_ x4 (wrap64 (x6 - 1))) == x7)) : V) = B false, (B (decide (x6 > 1)) : V) = B true, (0 : Int) ≤ (wrap64 (x6 - 2)) ∧ (wrap64 (x6 - 2)) < (x4.length : Int), rdC prog 3 ((x4.flatMap encI).drop (0 + (wrap64 (x6 - 2)).toNat * 1)) = (I (at_ x4 (wrap64 (x6 - 2)))), x4.length * 1 = (x4.flatMap encI).length ∧ 0 + (wrap64 (x6 - 2)).toNat * 1 + 1 ≤ (x4.flatMap encI).length, (B (decide ((at_ x4 (wrap64 (x6 - 2))) ≥ 0)) : V) = B true, (B (decide (x7 < 0)) : V) = B false, (0 : Int) ≤ (wrap64 (x6 - 2)) ∧ (wrap64 (x6 - 2)) < (x4.length : Int), rdC prog 3 ((x4.flatMap encI).drop (0 + (wrap64 (x6 - 2)).toNat * 1)) = (I (at_ x4 (wrap64 (x6 - 2)))), x4.length * 1 = (x4.flatMap encI).length ∧ 0 + (wrap64 (x6 - 2)).toNat * 1 + 1 ≤ (x4.flatMap encI).length], []⟩ [c_ 130341, c_ 65171, b_ 1, c_ 8147, l_ 1018, b_ 0, c_ 255] (alc ⟨c5, c6⟩ (alc (ldC01 encI_ok rfl c5 c6) (alc (okA0 encI_ok c5 c6 (by decide)) (alc (bF (nF (qT c7))) (alc (bT (dT c8)) (alc ⟨c9, c10⟩ (alc (ldC01 encI_ok rfl c9 c10) (alc (okA0 encI_ok c9 c10 (by decide)) (alc (bT (dT c11)) (alc (bF (dF c12)) (alc ⟨c9, c10⟩ (alc (ldC01 encI_ok rfl c9 c10) (alc (okA0 encI_ok c9 c10 (by decide)) aln))))))))))))) nocal ?_
                      by_cases c13 : x7 > (at_ x4 (wrap64 (x6 - 2)))
                      · rw [if_pos c13] at h
                        refine .cond' (.tmp 80) true [c_ 521364, c_ 521365, c_ 65171, b_ 1, c_ 8147, l_ 1018, b_ 0, c_ 255] (bT (dT c13)) ?_
                        refine .reg' [2] [] ⟨[(2, (B false))], [(1001025, (x2.1.flatMap (e105 false))), (1001797, (x4.flatMap encI))], [], []⟩ [c_ 521365, c_ 65171, b_ 1, c_ 8147, l_ 1018, b_ 0, c_ 255] aln nocal ?_
                        have h := Option.some.inj h
                        subst h
                        exact .fin0 [] (B false) [] aln (.z .s)
                      · rw [if_neg c13] at h
                        refine .cond' (.tmp 80) false [c_ 130342, c_ 130343, b_ 1, c_ 8147, l_ 1018, b_ 0, c_ 255] (bF (dF c13)) ?_
                        refine .wk' [] [(1001025, 1001025), (1001797, 1001797)] [(0, (.sl false a0.length 1 (a0.flatMap encU))), (3, (.rf 1001025 0 x2.1.length 2 (x2.1.length * 2))), (4, (I x2.2.1)), (5, (I x5)), (6, (I x2.2.2.2.1)), (7, (I x2.2.2.2.2)), (8, (.rf 1001797 0 x4.length 1 (x4.length * 1))), (9, (I x6)), (10, (I x7))] [(1001025, (x2.1.flatMap (e105 false))), (1001797, (x4.flatMap encI))] (shc 1001025 (rowF (e105_ok false) _) (shc 1001797 (rowF encI_ok _) shn)) (enc_ (.z (frz_sl encU_ok (fun h => h))) (enc_ (.rf (memP_mem (p := (1001025, 1001025)) rfl)) (enc_ (.z .s) (enc_ (.z .s) (enc_ (.z .s) (enc_ (.z .s) (enc_ (.rf (memP_mem (p := (1001797, 1001797)) rfl)) (enc_ (.z .s) (enc_ (.z .s) enn))))))))) ?_
                        exact ih2 a0 x2 x4 x5 x6 x7 _ h
                  · rw [if_neg c11] at h
                    refine .reg' [0, 3, 4, 5, 6, 7, 8, 9, 10, 80] [.no, .no, .no, .no, .v (I (at_ x4 (wrap64 (x6 - 1)))), .no, .no, .v (B false), .no, .no, .v (B true), .no, .no, .no, .no, .v (I (at_ x4 (wrap64 (x6 - 2)))), .no, .no, .v (B false)] ⟨[(0, (.sl false a0.length 1 (a0.flatMap encU))), (3, (.rf 1001025 0 x2.1.length 2 (x2.1.length * 2))), (4, (I x2.2.1)), (5, (I x5)), (6, (I x2.2.2.2.1)), (7, (I x2.2.2.2.2)), (8, (.rf 1001797 0 x4.length 1 (x4.length * 1))), (9, (I x6)), (10, (I x7)), (80, (B false))], [(1001025, (x2.1.flatMap (e105 false))), (1001797, (x4.flatMap encI))], [(0 : Int) ≤ (wrap64 (x6 - 1)) ∧ (wrap64 (x6 - 1)) < (x4.length : Int), rdC prog 3 ((x4.flatMap encI).drop (0 + (wrap64 (x6 - 1)).toNat * 1)) = (I (at_ x4 (wrap64 (x6 - 1)))), x4.length * 1 = (x4.flatMap encI).length ∧ 0 + (wrap64 (x6 - 1)).toNat * 1 + 1 ≤ (x4.flatMap encI).length, (B (!((at_ x4 (wrap64 (x6 - 1))) == x7)) : V) = B false, (B (decide (x6 > 1)) : V) = B true, (0 : Int) ≤ (wrap64 (x6 - 2)) ∧ (wrap64 (x6 - 2)) < (x4.length : Int), rdC prog 3 ((x4.flatMap encI).drop (0 + (wrap64 (x6 - 2)).toNat * 1)) = (I (at_ x4 (wrap64 (x6 - 2)))), x4.length * 1 = (x4.flatMap encI).length ∧ 0 + (wrap64 (x6 - 2)).toNat * 1 + 1 ≤ (x4.flatMap encI).length, (B (decide ((at_ x4 (wrap64 (x6 - 2))) ≥ 0)) : V) = B false], []⟩ [c_ 130341, c_ 65171, b_ 1, c_ 8147, l_ 1018, b_ 0, c_ 255] (alc ⟨c5, c6⟩ (alc (ldC01 encI_ok rfl c5 c6) (alc (okA0 encI_ok c5 c6 (by decide)) (alc (bF (nF (qT c7))) (alc (bT (dT c8)) (alc ⟨c9, c10⟩ (alc (ldC01 encI_ok rfl c9 c10) (alc (okA0 encI_ok c9 c10 (by decide)) (alc (bF (dF c11)) aln))))))))) nocal ?_
                    refine .cond' (.tmp 80) false [c_ 130342, c_ 130343, b_ 1, c_ 8147, l_ 1018, b_ 0, c_ 255] (rfl) ?_
                    refine .wk' [] [(1001025, 1001025), (1001797, 1001797)] [(0, (.sl false a0.length 1 (a0.flatMap encU))), (3, (.rf 1001025 0 x2.1.length 2 (x2.1.length * 2))), (4, (I x2.2.1)), (5, (I x5)), (6, (I x2.2.2.2.1)), (7, (I x2.2.2.2.2)), (8, (.rf 1001797 0 x4.length 1 (x4.length * 1))), (9, (I x6)), (10, (I x7))] [(1001025, (x2.1.flatMap (e105 false))), (1001797, (x4.flatMap encI))] (shc 1001025 (rowF (e105_ok false) _) (shc 1001797 (rowF encI_ok _) shn)) (enc_ (.z (frz_sl encU_ok (fun h => h))) (enc_ (.rf (memP_mem (p := (1001025, 1001025)) rfl)) (enc_ (.z .s) (enc_ (.z .s) (enc_ (.z .s) (enc_ (.z .s) (enc_ (.rf (memP_mem (p := (1001797, 1001797)) rfl)) (enc_ (.z .s) (enc_ (.z .s) enn))))))))) ?_
                    exact ih2 a0 x2 x4 x5 x6 x7 _ h
                · rw [if_neg c10] at h
                  cases h
              · rw [if_neg c9] at h
                cases h
            · rw [if_neg c8] at h
              refine .reg' [0, 3, 4, 5, 6, 7, 8, 9, 10, 80] [.no, .no, .no, .no, .v (I (at_ x4 (wrap64 (x6 - 1)))), .no, .no, .v (B false), .no, .no, .v (B false)] ⟨[(0, (.sl false a0.length 1 (a0.flatMap encU))), (3, (.rf 1001025 0 x2.1.length 2 (x2.1.length * 2))), (4, (I x2.2.1)), (5, (I x5)), (6, (I x2.2.2.2.1)), (7, (I x2.2.2.2.2)), (8, (.rf 1001797 0 x4.length 1 (x4.length * 1))), (9, (I x6)), (10, (I x7)), (80, (B false))], [(1001025, (x2.1.flatMap (e105 false))), (1001797, (x4.flatMap encI))], [(0 : Int) ≤ (wrap64 (x6 - 1)) ∧ (wrap64 (x6 - 1)) < (x4.length : Int), rdC prog 3 ((x4.flatMap encI).drop (0 + (wrap64 (x6 - 1)).toNat * 1)) = (I (at_ x4 (wrap64 (x6 - 1)))), x4.length * 1 = (x4.flatMap encI).length ∧ 0 + (wrap64 (x6 - 1)).toNat * 1 + 1 ≤ (x4.flatMap encI).length, (B (!((at_ x4 (wrap64 (x6 - 1))) == x7)) : V) = B false, (B (decide (x6 > 1)) : V) = B false], []⟩ [c_ 130341, c_ 65171, b_ 1, c_ 8147, l_ 1018, b_ 0, c_ 255] (alc ⟨c5, c6⟩ (alc (ldC01 encI_ok rfl c5 c6) (alc (okA0 encI_ok c5 c6 (by decide)) (alc (bF (nF (qT c7))) (alc (bF (dF c8)) aln))))) nocal ?_
              refine .cond' (.tmp 80) false [c_ 130342, c_ 130343, b_ 1, c_ 8147, l_ 1018, b_ 0, c_ 255] (rfl) ?_
              refine .wk' [] [(1001025, 1001025), (1001797, 1001797)] [(0, (.sl false a0.length 1 (a0.flatMap encU))), (3, (.rf 1001025 0 x2.1.length 2 (x2.1.length * 2))), (4, (I x2.2.1)), (5, (I x5)), (6, (I x2.2.2.2.1)), (7, (I x2.2.2.2.2)), (8, (.rf 1001797 0 x4.length 1 (x4.length * 1))), (9, (I x6)), (10, (I x7))] [(1001025, (x2.1.flatMap (e105 false))), (1001797, (x4.flatMap encI))] (shc 1001025 (rowF (e105_ok false) _) (shc 1001797 (rowF encI_ok _) shn)) (enc_ (.z (frz_sl encU_ok (fun h => h))) (enc_ (.rf (memP_mem (p := (1001025, 1001025)) rfl)) (enc_ (.z .s) (enc_ (.z .s) (enc_ (.z .s) (enc_ (.z .s) (enc_ (.rf (memP_mem (p := (1001797, 1001797)) rfl)) (enc_ (.z .s) (enc_ (.z .s) enn))))))))) ?_
              exact ih2 a0 x2 x4 x5 x6 x7 _ h
          · rw [if_neg c7] at h
            refine .reg' [0, 3, 4, 5, 6, 7, 8, 9, 10, 80] [.no, .no, .no, .no, .v (I (at_ x4 (wrap64 (x6 - 1)))), .no, .no, .v (B true)] ⟨[(0, (.sl false a0.length 1 (a0.flatMap encU))), (3, (.rf 1001025 0 x2.1.length 2 (x2.1.length * 2))), (4, (I x2.2.1)), (5, (I x5)), (6, (I x2.2.2.2.1)), (7, (I x2.2.2.2.2)), (8, (.rf 1001797 0 x4.length 1 (x4.length * 1))), (9, (I x6)), (10, (I x7)), (80, (B true))], [(1001025, (x2.1.flatMap (e105 false))), (1001797, (x4.flatMap encI))], [(0 : Int) ≤ (wrap64 (x6 - 1)) ∧ (wrap64 (x6 - 1)) < (x4.length : Int), rdC prog 3 ((x4.flatMap encI).drop (0 + (wrap64 (x6 - 1)).toNat * 1)) = (I (at_ x4 (wrap64 (x6 - 1)))), x4.length * 1 = (x4.flatMap encI).length ∧ 0 + (wrap64 (x6 - 1)).toNat * 1 + 1 ≤ (x4.flatMap encI).length, (B (!((at_ x4 (wrap64 (x6 - 1))) == x7)) : V) = B true], []⟩ [c_ 130341, c_ 65171, b_ 1, c_ 8147, l_ 1018, b_ 0, c_ 255] (alc ⟨c5, c6⟩ (alc (ldC01 encI_ok rfl c5 c6) (alc (okA0 encI_ok c5 c6 (by decide)) (alc (bT (nT (qF c7))) aln)))) nocal ?_
            refine .cond' (.tmp 80) true [c_ 521364, c_ 521365, c_ 65171, b_ 1, c_ 8147, l_ 1018, b_ 0, c_ 255] (rfl) ?_
            refine .reg' [2] [] ⟨[(2, (B false))], [(1001025, (x2.1.flatMap (e105 false))), (1001797, (x4.flatMap encI))], [], []⟩ [c_ 521365, c_ 65171, b_ 1, c_ 8147, l_ 1018, b_ 0, c_ 255] aln nocal ?_
            have h := Option.some.inj h
            subst h
            exact .fin0 [] (B false) [] aln (.z .s)
        · rw [if_neg c6] at h
          cases h
      · rw [if_neg c5] at h
        cases h
    · rw [if_neg c4] at h
      refine .cond' (.tmp 39) false [c_ 510, c_ 511] (bF (dF c4)) ?_
      obtain ⟨x12, hx12, h⟩ := Option.bind_eq_some_iff.mp h
      obtain ⟨x13, hx13, h⟩ := Option.bind_eq_some_iff.mp h
      by_cases c22 : 4 < (x4.length : Int)
      · rw [if_pos c22] at h
        refine .reg' [2] [.no, .no, .no, .no, .c ⟨51, [(.sl true x2.1.length 2 (x2.1.flatMap (e105 true))), (I x2.2.1), (I x2.2.2.2.1), (I x2.2.2.2.2), (I 5)], [], (.rf 3584 0 x12.length 1 (x12.length * 1)), [(3584, (x12.flatMap encI))], [1001025], [], [(1005124, 3584)], (.rf 1005124 0 x12.length 1 (x12.length * 1)), [(1005124, (x12.flatMap encI))]⟩, .no, .c ⟨50, [(.sl true x12.length 1 (x12.flatMap encI)), (I x5)], [], (B x13), [], [1005124], [], [], (B x13), []⟩, .no, .no, .v (I (at_ x4 4))] ⟨[(2, (B (x13 == (decide ((at_ x4 4) ≥ 0)))))], [(1001025, (x2.1.flatMap (e105 false))), (1001797, (x4.flatMap encI)), (1005124, (x12.flatMap encI))], [COK (hget [(1001025, (x2.1.flatMap (e105 false))), (1001797, (x4.flatMap encI))]) [(.rf 1001025 0 x2.1.length 2 (x2.1.length * 2)), (I x2.2.1), (I x2.2.2.2.1), (I x2.2.2.2.2), (I 5)] ⟨51, [(.sl true x2.1.length 2 (x2.1.flatMap (e105 true))), (I x2.2.1), (I x2.2.2.2.1), (I x2.2.2.2.2), (I 5)], [], (.rf 3584 0 x12.length 1 (x12.length * 1)), [(3584, (x12.flatMap encI))], [1001025], [], [(1005124, 3584)], (.rf 1005124 0 x12.length 1 (x12.length * 1)), [(1005124, (x12.flatMap encI))]⟩, COK (hget [(1001025, (x2.1.flatMap (e105 false))), (1001797, (x4.flatMap encI)), (1005124, (x12.flatMap encI))]) [(.rf 1005124 0 x12.length 1 (x12.length * 1)), (I x5)] ⟨50, [(.sl true x12.length 1 (x12.flatMap encI)), (I x5)], [], (B x13), [], [1005124], [], [], (B x13), []⟩, (0 : Int) ≤ 4 ∧ 4 < (x4.length : Int), rdC prog 3 ((x4.flatMap encI).drop (0 + (4 : Int).toNat * 1)) = (I (at_ x4 4)), x4.length * 1 = (x4.flatMap encI).length ∧ 0 + (4 : Int).toNat * 1 + 1 ≤ (x4.flatMap encI).length], [⟨51, [(.sl true x2.1.length 2 (x2.1.flatMap (e105 true))), (I x2.2.1), (I x2.2.2.2.1), (I x2.2.2.2.2), (I 5)], [], (.rf 3584 0 x12.length 1 (x12.length * 1)), [(3584, (x12.flatMap encI))], [1001025], [], [(1005124, 3584)], (.rf 1005124 0 x12.length 1 (x12.length * 1)), [(1005124, (x12.flatMap encI))]⟩, ⟨50, [(.sl true x12.length 1 (x12.flatMap encI)), (I x5)], [], (B x13), [], [1005124], [], [], (B x13), []⟩]⟩ [c_ 511] (alc (cokW false (a2c (.z (frz_rfT (k := 1001025) (fun x => e105_to x) (e105_ok false) (by simp) rfl rfl (row_len (e105_ok false) _).symm)) (a2c (.z .s) (a2c (.z .s) (a2c (.z .s) (a2c (.z .s) a2n))))) akn (akc (.inr rfl) akn) (.rf (memP_mem (p := (1005124, 3584)) rfl)) (akc ⟨_, _, rfl, rfl, rowB encI_c _⟩ akn) (fun h => absurd h (by decide))) (alc (cok0 false (a2c (.z (frz_rf (k := 1005124) encI_ok (by simp) rfl rfl (row_len encI_ok _).symm)) (a2c (.z .s) a2n)) (.z .s) (fun h => absurd h (by decide))) (alc ⟨(by decide), c22⟩ (alc (ldC01 encI_ok rfl (by decide) c22) (alc (okA0 encI_ok (by decide) c22 (by decide)) aln))))) (acal (impl_Within.J k x2.1 x2.2.1 x2.2.2.2.1 x2.2.2.2.2 5 _ hx12) (acal (laws_within.J k x12 x5 _ hx13) nocal)) ?_
        have h := Option.some.inj h
        subst h
        exact .fin0 [] (B (x13 == (decide ((at_ x4 4) ≥ 0)))) [] aln (.z .s)
      · rw [if_neg c22] at h
        cases h
  · intro a0 x2 x4 x5 x6 x7 r h
    unfold laws_FnSooner.j2 at h
    obtain ⟨x8, hx8, h⟩ := Option.bind_eq_some_iff.mp h
    obtain ⟨x9, hx9, h⟩ := Option.bind_eq_some_iff.mp h
    refine .reg' [0, 3, 4, 5, 6, 7, 8, 9, 10, 11] [.no, .no, .no, .no, .no, .c ⟨49, [(.sl true a0.length 1 (a0.flatMap encU)), (I 5)], [], (I x8), [], [], [], [], (I x8), []⟩, .no, .no, .no, .no, .c ⟨48, [(.sl true x2.1.length 2 (x2.1.flatMap (e105 true))), (I x2.2.1), (I x5), (I (wrap64 (x2.2.2.2.1 + (x8.tmod (32 : Int))))), (I x2.2.2.2.2), (I x6)], [], (I x9), [], [1001025], [], [], (I x9), []⟩] ⟨[(0, (.sl false a0.length 1 (a0.flatMap encU))), (3, (.rf 1001025 0 x2.1.length 2 (x2.1.length * 2))), (4, (I x2.2.1)), (5, (I x5)), (6, (I x2.2.2.2.1)), (7, (I x2.2.2.2.2)), (8, (.rf 1001797 0 x4.length 1 (x4.length * 1))), (9, (I x6)), (10, (I x7)), (11, (I x9))], [(1001025, (x2.1.flatMap (e105 false))), (1001797, (x4.flatMap encI))], [COK (hget [(1001025, (x2.1.flatMap (e105 false))), (1001797, (x4.flatMap encI))]) [(.sl false a0.length 1 (a0.flatMap encU)), (I 5)] ⟨49, [(.sl true a0.length 1 (a0.flatMap encU)), (I 5)], [], (I x8), [], [], [], [], (I x8), []⟩, (32 : Int) ≠ 0, COK (hget [(1001025, (x2.1.flatMap (e105 false))), (1001797, (x4.flatMap encI))]) [(.rf 1001025 0 x2.1.length 2 (x2.1.length * 2)), (I x2.2.1), (I x5), (I (wrap64 (x2.2.2.2.1 + (x8.tmod (32 : Int))))), (I x2.2.2.2.2), (I x6)] ⟨48, [(.sl true x2.1.length 2 (x2.1.flatMap (e105 true))), (I x2.2.1), (I x5), (I (wrap64 (x2.2.2.2.1 + (x8.tmod (32 : Int))))), (I x2.2.2.2.2), (I x6)], [], (I x9), [], [1001025], [], [], (I x9), []⟩], [⟨49, [(.sl true a0.length 1 (a0.flatMap encU)), (I 5)], [], (I x8), [], [], [], [], (I x8), []⟩, ⟨48, [(.sl true x2.1.length 2 (x2.1.flatMap (e105 true))), (I x2.2.1), (I x5), (I (wrap64 (x2.2.2.2.1 + (x8.tmod (32 : Int))))), (I x2.2.2.2.2), (I x6)], [], (I x9), [], [1001025], [], [], (I x9), []⟩]⟩ [c_ 260686, c_ 260687, b_ 1, c_ 8147, l_ 1018, b_ 0, c_ 255] (alc (cok0 false (a2c (.z (frz_sl encU_ok (fun h => absurd h (by decide)))) (a2c (.z .s) a2n)) (.z .s) (fun h => absurd h (by decide))) (alc (by decide) (alc (cok0 false (a2c (.z (frz_rfT (k := 1001025) (fun x => e105_to x) (e105_ok false) (by simp) rfl rfl (row_len (e105_ok false) _).symm)) (a2c (.z .s) (a2c (.z .s) (a2c (.z .s) (a2c (.z .s) (a2c (.z .s) a2n)))))) (.z .s) (fun h => absurd h (by decide))) aln))) (acal (laws_at.J a0 5 _ hx8) (acal (impl_Soonest.J k x2.1 x2.2.1 x5 (wrap64 (x2.2.2.2.1 + (x8.tmod (32 : Int)))) x2.2.2.2.2 x6 _ hx9) nocal)) ?_
    obtain ⟨x10, hx10, h⟩ := Option.bind_eq_some_iff.mp h
    obtain ⟨x11, hx11, h⟩ := Option.bind_eq_some_iff.mp h
    refine .reg' [0, 3, 4, 5, 6, 7, 8, 9, 10, 11, 12] [.no, .no, .no, .no, .no, .no, .c ⟨49, [(.sl true a0.length 1 (a0.flatMap encU)), (I 6)], [], (I x10), [], [], [], [], (I x10), []⟩, .no, .no, .no, .c ⟨48, [(.sl true x2.1.length 2 (x2.1.flatMap (e105 true))), (I x2.2.1), (I x5), (I x2.2.2.2.1), (I (wrap64 (x2.2.2.2.2 + (x10.tmod (9 : Int))))), (I x6)], [], (I x11), [], [1001025], [], [], (I x11), []⟩] ⟨[(0, (.sl false a0.length 1 (a0.flatMap encU))), (3, (.rf 1001025 0 x2.1.length 2 (x2.1.length * 2))), (4, (I x2.2.1)), (5, (I x5)), (6, (I x2.2.2.2.1)), (7, (I x2.2.2.2.2)), (8, (.rf 1001797 0 x4.length 1 (x4.length * 1))), (9, (I x6)), (10, (I x7)), (11, (I x9)), (12, (I x11))], [(1001025, (x2.1.flatMap (e105 false))), (1001797, (x4.flatMap encI))], [COK (hget [(1001025, (x2.1.flatMap (e105 false))), (1001797, (x4.flatMap encI))]) [(.sl false a0.length 1 (a0.flatMap encU)), (I 6)] ⟨49, [(.sl true a0.length 1 (a0.flatMap encU)), (I 6)], [], (I x10), [], [], [], [], (I x10), []⟩, (9 : Int) ≠ 0, COK (hget [(1001025, (x2.1.flatMap (e105 false))), (1001797, (x4.flatMap encI))]) [(.rf 1001025 0 x2.1.length 2 (x2.1.length * 2)), (I x2.2.1), (I x5), (I x2.2.2.2.1), (I (wrap64 (x2.2.2.2.2 + (x10.tmod (9 : Int))))), (I x6)] ⟨48, [(.sl true x2.1.length 2 (x2.1.flatMap (e105 true))), (I x2.2.1), (I x5), (I x2.2.2.2.1), (I (wrap64 (x2.2.2.2.2 + (x10.tmod (9 : Int))))), (I x6)], [], (I x11), [], [1001025], [], [], (I x11), []⟩], [⟨49, [(.sl true a0.length 1 (a0.flatMap encU)), (I 6)], [], (I x10), [], [], [], [], (I x10), []⟩, ⟨48, [(.sl true x2.1.length 2 (x2.1.flatMap (e105 true))), (I x2.2.1), (I x5), (I x2.2.2.2.1), (I (wrap64 (x2.2.2.2.2 + (x10.tmod (9 : Int))))), (I x6)], [], (I x11), [], [1001025], [], [], (I x11), []⟩]⟩ [c_ 521374, c_ 521375, b_ 1, c_ 8147, l_ 1018, b_ 0, c_ 255] (alc (cok0 false (a2c (.z (frz_sl encU_ok (fun h => absurd h (by decide)))) (a2c (.z .s) a2n)) (.z .s) (fun h => absurd h (by decide))) (alc (by decide) (alc (cok0 false (a2c (.z (frz_rfT (k := 1001025) (fun x => e105_to x) (e105_ok false) (by simp) rfl rfl (row_len (e105_ok false) _).symm)) (a2c (.z .s) (a2c (.z .s) (a2c (.z .s) (a2c (.z .s) (a2c (.z .s) a2n)))))) (.z .s) (fun h => absurd h (by decide))) aln))) (acal (laws_at.J a0 6 _ hx10) (acal (impl_Soonest.J k x2.1 x2.2.1 x5 x2.2.2.2.1 (wrap64 (x2.2.2.2.2 + (x10.tmod (9 : Int)))) x6 _ hx11) nocal)) ?_
    by_cases c14 : x9 ≥ 0
    · rw [if_pos c14] at h
      by_cases c15 : x7 < 0
      · rw [if_pos c15] at h
        refine .reg' [0, 3, 4, 5, 6, 7, 8, 9, 126] [.no, .no, .v (B true), .no, .no, .v (B true)] ⟨[(0, (.sl false a0.length 1 (a0.flatMap encU))), (3, (.rf 1001025 0 x2.1.length 2 (x2.1.length * 2))), (4, (I x2.2.1)), (5, (I x5)), (6, (I x2.2.2.2.1)), (7, (I x2.2.2.2.2)), (8, (.rf 1001797 0 x4.length 1 (x4.length * 1))), (9, (I x6)), (126, (B true))], [(1001025, (x2.1.flatMap (e105 false))), (1001797, (x4.flatMap encI))], [(B (decide (x9 ≥ 0)) : V) = B true, (B (decide (x7 < 0)) : V) = B true], []⟩ [c_ 521375, b_ 1, c_ 8147, l_ 1018, b_ 0, c_ 255] (alc (bT (dT c14)) (alc (bT (dT c15)) aln)) nocal ?_
        refine .cond' (.tmp 126) true [c_ 2085500, c_ 2085501, b_ 1, c_ 8147, l_ 1018, b_ 0, c_ 255] (rfl) ?_
        refine .reg' [2] [] ⟨[(2, (B false))], [(1001025, (x2.1.flatMap (e105 false))), (1001797, (x4.flatMap encI))], [], []⟩ [c_ 2085501, b_ 1, c_ 8147, l_ 1018, b_ 0, c_ 255] aln nocal ?_
        have h := Option.some.inj h
        subst h
        exact .fin0 [] (B false) [] aln (.z .s)
      · rw [if_neg c15] at h
        by_cases c16 : x9 < x7
        · rw [if_pos c16] at h
          refine .reg' [0, 3, 4, 5, 6, 7, 8, 9, 126] [.no, .no, .v (B true), .no, .no, .v (B false), .no, .no, .no, .no, .no, .v (B true)] ⟨[(0, (.sl false a0.length 1 (a0.flatMap encU))), (3, (.rf 1001025 0 x2.1.length 2 (x2.1.length * 2))), (4, (I x2.2.1)), (5, (I x5)), (6, (I x2.2.2.2.1)), (7, (I x2.2.2.2.2)), (8, (.rf 1001797 0 x4.length 1 (x4.length * 1))), (9, (I x6)), (126, (B true))], [(1001025, (x2.1.flatMap (e105 false))), (1001797, (x4.flatMap encI))], [(B (decide (x9 ≥ 0)) : V) = B true, (B (decide (x7 < 0)) : V) = B false, (B (decide (x9 < x7)) : V) = B true], []⟩ [c_ 521375, b_ 1, c_ 8147, l_ 1018, b_ 0, c_ 255] (alc (bT (dT c14)) (alc (bF (dF c15)) (alc (bT (dT c16)) aln))) nocal ?_
          refine .cond' (.tmp 126) true [c_ 2085500, c_ 2085501, b_ 1, c_ 8147, l_ 1018, b_ 0, c_ 255] (rfl) ?_
          refine .reg' [2] [] ⟨[(2, (B false))], [(1001025, (x2.1.flatMap (e105 false))), (1001797, (x4.flatMap encI))], [], []⟩ [c_ 2085501, b_ 1, c_ 8147, l_ 1018, b_ 0, c_ 255] aln nocal ?_
          have h := Option.some.inj h
          subst h
          exact .fin0 [] (B false) [] aln (.z .s)
        · rw [if_neg c16] at h
          by_cases c17 : x11 ≥ 0
          · rw [if_pos c17] at h
            refine .reg' [0, 3, 4, 5, 6, 7, 8, 9, 126] [.no, .no, .v (B true), .no, .no, .v (B false), .no, .no, .no, .no, .no, .v (B false), .no, .no, .v (B true), .no, .no, .v (B false)] ⟨[(0, (.sl false a0.length 1 (a0.flatMap encU))), (3, (.rf 1001025 0 x2.1.length 2 (x2.1.length * 2))), (4, (I x2.2.1)), (5, (I x5)), (6, (I x2.2.2.2.1)), (7, (I x2.2.2.2.2)), (8, (.rf 1001797 0 x4.length 1 (x4.length * 1))), (9, (I x6)), (126, (B (decide (x11 < x7))))], [(1001025, (x2.1.flatMap (e105 false))), (1001797, (x4.flatMap encI))], [(B (decide (x9 ≥ 0)) : V) = B true, (B (decide (x7 < 0)) : V) = B false, (B (decide (x9 < x7)) : V) = B false, (B (decide (x11 ≥ 0)) : V) = B true, (B (decide (x7 < 0)) : V) = B false], []⟩ [c_ 521375, b_ 1, c_ 8147, l_ 1018, b_ 0, c_ 255] (alc (bT (dT c14)) (alc (bF (dF c15)) (alc (bF (dF c16)) (alc (bT (dT c17)) (alc (bF (dF c15)) aln))))) nocal ?_
            by_cases c18 : x11 < x7
            · rw [if_pos c18] at h
              refine .cond' (.tmp 126) true [c_ 2085500, c_ 2085501, b_ 1, c_ 8147, l_ 1018, b_ 0, c_ 255] (bT (dT c18)) ?_
              refine .reg' [2] [] ⟨[(2, (B false))], [(1001025, (x2.1.flatMap (e105 false))), (1001797, (x4.flatMap encI))], [], []⟩ [c_ 2085501, b_ 1, c_ 8147, l_ 1018, b_ 0, c_ 255] aln nocal ?_
              have h := Option.some.inj h
              subst h
              exact .fin0 [] (B false) [] aln (.z .s)
            · rw [if_neg c18] at h
              refine .cond' (.tmp 126) false [c_ 8147, l_ 1018, b_ 0, c_ 255] (bF (dF c18)) ?_
              refine .reg' [0, 3, 4, 5, 6, 7, 8, 9] [] ⟨[(0, (.sl false a0.length 1 (a0.flatMap encU))), (3, (.rf 1001025 0 x2.1.length 2 (x2.1.length * 2))), (4, (I x2.2.1)), (5, (I x5)), (6, (I x2.2.2.2.1)), (7, (I x2.2.2.2.2)), (8, (.rf 1001797 0 x4.length 1 (x4.length * 1))), (9, (I (wrap64 (x6 + 1))))], [(1001025, (x2.1.flatMap (e105 false))), (1001797, (x4.flatMap encI))], [], []⟩ [l_ 1018, b_ 0, c_ 255] aln nocal ?_
              exact ih1 a0 x2 x4 x5 (wrap64 (x6 + 1)) _ h
          · rw [if_neg c17] at h
            refine .reg' [0, 3, 4, 5, 6, 7, 8, 9, 126] [.no, .no, .v (B true), .no, .no, .v (B false), .no, .no, .no, .no, .no, .v (B false), .no, .no, .v (B false)] ⟨[(0, (.sl false a0.length 1 (a0.flatMap encU))), (3, (.rf 1001025 0 x2.1.length 2 (x2.1.length * 2))), (4, (I x2.2.1)), (5, (I x5)), (6, (I x2.2.2.2.1)), (7, (I x2.2.2.2.2)), (8, (.rf 1001797 0 x4.length 1 (x4.length * 1))), (9, (I x6)), (126, (B false))], [(1001025, (x2.1.flatMap (e105 false))), (1001797, (x4.flatMap encI))], [(B (decide (x9 ≥ 0)) : V) = B true, (B (decide (x7 < 0)) : V) = B false, (B (decide (x9 < x7)) : V) = B false, (B (decide (x11 ≥ 0)) : V) = B false], []⟩ [c_ 521375, b_ 1, c_ 8147, l_ 1018, b_ 0, c_ 255] (alc (bT (dT c14)) (alc (bF (dF c15)) (alc (bF (dF c16)) (alc (bF (dF c17)) aln)))) nocal ?_
            refine .cond' (.tmp 126) false [c_ 8147, l_ 1018, b_ 0, c_ 255] (rfl) ?_
            refine .reg' [0, 3, 4, 5, 6, 7, 8, 9] [] ⟨[(0, (.sl false a0.length 1 (a0.flatMap encU))), (3, (.rf 1001025 0 x2.1.length 2 (x2.1.length * 2))), (4, (I x2.2.1)), (5, (I x5)), (6, (I x2.2.2.2.1)), (7, (I x2.2.2.2.2)), (8, (.rf 1001797 0 x4.length 1 (x4.length * 1))), (9, (I (wrap64 (x6 + 1))))], [(1001025, (x2.1.flatMap (e105 false))), (1001797, (x4.flatMap encI))], [], []⟩ [l_ 1018, b_ 0, c_ 255] aln nocal ?_
            exact ih1 a0 x2 x4 x5 (wrap64 (x6 + 1)) _ h
    · rw [if_neg c14] at h
      by_cases c19 : x11 ≥ 0
      · rw [if_pos c19] at h
        by_cases c20 : x7 < 0
        · rw [if_pos c20] at h
          refine .reg' [0, 3, 4, 5, 6, 7, 8, 9, 126] [.no, .no, .v (B false), .no, .no, .no, .no, .no, .no, .no, .no, .no, .no, .no, .v (B true), .no, .no, .v (B true)] ⟨[(0, (.sl false a0.length 1 (a0.flatMap encU))), (3, (.rf 1001025 0 x2.1.length 2 (x2.1.length * 2))), (4, (I x2.2.1)), (5, (I x5)), (6, (I x2.2.2.2.1)), (7, (I x2.2.2.2.2)), (8, (.rf 1001797 0 x4.length 1 (x4.length * 1))), (9, (I x6)), (126, (B true))], [(1001025, (x2.1.flatMap (e105 false))), (1001797, (x4.flatMap encI))], [(B (decide (x9 ≥ 0)) : V) = B false, (B (decide (x11 ≥ 0)) : V) = B true, (B (decide (x7 < 0)) : V) = B true], []⟩ [c_ 521375, b_ 1, c_ 8147, l_ 1018, b_ 0, c_ 255] (alc (bF (dF c14)) (alc (bT (dT c19)) (alc (bT (dT c20)) aln))) nocal ?_
          refine .cond' (.tmp 126) true [c_ 2085500, c_ 2085501, b_ 1, c_ 8147, l_ 1018, b_ 0, c_ 255] (rfl) ?_
          refine .reg' [2] [] ⟨[(2, (B false))], [(1001025, (x2.1.flatMap (e105 false))), (1001797, (x4.flatMap encI))], [], []⟩ [c_ 2085501, b_ 1, c_ 8147, l_ 1018, b_ 0, c_ 255] aln nocal ?_
          have h := Option.some.inj h
          subst h
          exact .fin0 [] (B false) [] aln (.z .s)
        · rw [if_neg c20] at h
          refine .reg' [0, 3, 4, 5, 6, 7, 8, 9, 126] [.no, .no, .v (B false), .no, .no, .no, .no, .no, .no, .no, .no, .no, .no, .no, .v (B true), .no, .no, .v (B false)] ⟨[(0, (.sl false a0.length 1 (a0.flatMap encU))), (3, (.rf 1001025 0 x2.1.length 2 (x2.1.length * 2))), (4, (I x2.2.1)), (5, (I x5)), (6, (I x2.2.2.2.1)), (7, (I x2.2.2.2.2)), (8, (.rf 1001797 0 x4.length 1 (x4.length * 1))), (9, (I x6)), (126, (B (decide (x11 < x7))))], [(1001025, (x2.1.flatMap (e105 false))), (1001797, (x4.flatMap encI))], [(B (decide (x9 ≥ 0)) : V) = B false, (B (decide (x11 ≥ 0)) : V) = B true, (B (decide (x7 < 0)) : V) = B false], []⟩ [c_ 521375, b_ 1, c_ 8147, l_ 1018, b_ 0, c_ 255] (alc (bF (dF c14)) (alc (bT (dT c19)) (alc (bF (dF c20)) aln))) nocal ?_
          by_cases c21 : x11 < x7
          · rw [if_pos c21] at h
            refine .cond' (.tmp 126) true [c_ 2085500, c_ 2085501, b_ 1, c_ 8147, l_ 1018, b_ 0, c_ 255] (bT (dT c21)) ?_
            refine .reg' [2] [] ⟨[(2, (B false))], [(1001025, (x2.1.flatMap (e105 false))), (1001797, (x4.flatMap encI))], [], []⟩ [c_ 2085501, b_ 1, c_ 8147, l_ 1018, b_ 0, c_ 255] aln nocal ?_
            have h := Option.some.inj h
            subst h
            exact .fin0 [] (B false) [] aln (.z .s)
          · rw [if_neg c21] at h
            refine .cond' (.tmp 126) false [c_ 8147, l_ 1018, b_ 0, c_ 255] (bF (dF c21)) ?_
            refine .reg' [0, 3, 4, 5, 6, 7, 8, 9] [] ⟨[(0, (.sl false a0.length 1 (a0.flatMap encU))), (3, (.rf 1001025 0 x2.1.length 2 (x2.1.length * 2))), (4, (I x2.2.1)), (5, (I x5)), (6, (I x2.2.2.2.1)), (7, (I x2.2.2.2.2)), (8, (.rf 1001797 0 x4.length 1 (x4.length * 1))), (9, (I (wrap64 (x6 + 1))))], [(1001025, (x2.1.flatMap (e105 false))), (1001797, (x4.flatMap encI))], [], []⟩ [l_ 1018, b_ 0, c_ 255] aln nocal ?_
            exact ih1 a0 x2 x4 x5 (wrap64 (x6 + 1)) _ h
      · rw [if_neg c19] at h
        refine .reg' [0, 3, 4, 5, 6, 7, 8, 9, 126] [.no, .no, .v (B false), .no, .no, .no, .no, .no, .no, .no, .no, .no, .no, .no, .v (B false)] ⟨[(0, (.sl false a0.length 1 (a0.flatMap encU))), (3, (.rf 1001025 0 x2.1.length 2 (x2.1.length * 2))), (4, (I x2.2.1)), (5, (I x5)), (6, (I x2.2.2.2.1)), (7, (I x2.2.2.2.2)), (8, (.rf 1001797 0 x4.length 1 (x4.length * 1))), (9, (I x6)), (126, (B false))], [(1001025, (x2.1.flatMap (e105 false))), (1001797, (x4.flatMap encI))], [(B (decide (x9 ≥ 0)) : V) = B false, (B (decide (x11 ≥ 0)) : V) = B false], []⟩ [c_ 521375, b_ 1, c_ 8147, l_ 1018, b_ 0, c_ 255] (alc (bF (dF c14)) (alc (bF (dF c19)) aln)) nocal ?_
        refine .cond' (.tmp 126) false [c_ 8147, l_ 1018, b_ 0, c_ 255] (rfl) ?_
        refine .reg' [0, 3, 4, 5, 6, 7, 8, 9] [] ⟨[(0, (.sl false a0.length 1 (a0.flatMap encU))), (3, (.rf 1001025 0 x2.1.length 2 (x2.1.length * 2))), (4, (I x2.2.1)), (5, (I x5)), (6, (I x2.2.2.2.1)), (7, (I x2.2.2.2.2)), (8, (.rf 1001797 0 x4.length 1 (x4.length * 1))), (9, (I (wrap64 (x6 + 1))))], [(1001025, (x2.1.flatMap (e105 false))), (1001797, (x4.flatMap encI))], [], []⟩ [l_ 1018, b_ 0, c_ 255] aln nocal ?_
        exact ih1 a0 x2 x4 x5 (wrap64 (x6 + 1)) _ h
theorem laws_FnSooner.J (k : Nat) (a0 : (List Int)) (r : Bool) (h : laws_FnSooner.f k a0 = some r) : J prog (.call 9 [(.sl false a0.length 1 (a0.flatMap encU))] [] (B r) []) := by
  unfold laws_FnSooner.f at h
  obtain ⟨ih0, ih1, ih2⟩ := laws_FnSooner.lab k
  refine .call' [c_ 2, c_ 3] ?_
  refine .reg' [0] [] ⟨[(0, (.sl false a0.length 1 (a0.flatMap encU)))], [], [], []⟩ [c_ 12, c_ 13, c_ 7] aln nocal ?_
  obtain ⟨x1, hx1, h⟩ := Option.bind_eq_some_iff.mp h
  refine .reg' [0, 14] [.no, .c ⟨45, [(.sl true a0.length 1 (a0.flatMap encU))], [], (B x1), [], [], [], [], (B x1), []⟩] ⟨[(0, (.sl false a0.length 1 (a0.flatMap encU))), (14, (B x1))], [], [COK (hget []) [(.sl false a0.length 1 (a0.flatMap encU))] ⟨45, [(.sl true a0.length 1 (a0.flatMap encU))], [], (B x1), [], [], [], [], (B x1), []⟩], [⟨45, [(.sl true a0.length 1 (a0.flatMap encU))], [], (B x1), [], [], [], [], (B x1), []⟩]⟩ [c_ 13, c_ 7] (alc (cok0 false (a2c (.z (frz_sl encU_ok (fun h => absurd h (by decide)))) a2n) (.z .s) (fun h => absurd h (by decide))) aln) (acal (laws_big.J a0 _ hx1) nocal) ?_
  by_cases c1 : x1 = true
  · rw [if_pos c1] at h
    refine .cond' (.tmp 14) true [c_ 52, c_ 53, c_ 7] (bT c1) ?_
    refine .reg' [2] [] ⟨[(2, (B true))], [], [], []⟩ [c_ 53, c_ 7] aln nocal ?_
    have h := Option.some.inj h
    subst h
    exact .fin0 [] (B true) [] aln (.z .s)
  · rw [if_neg c1] at h
    refine .cond' (.tmp 14) false [c_ 14, c_ 15] (bF (vF c1)) ?_
    obtain ⟨x2, hx2, h⟩ := Option.bind_eq_some_iff.mp h
    refine .reg' [0, 3, 4, 5, 6, 7] [.no, .c ⟨46, [(.sl false a0.length 1 (a0.flatMap encU))], [], (.tp [(.rf 1000776 0 x2.1.length 2 (x2.1.length * 2)), (I x2.2.1), (I x2.2.2.1), (I x2.2.2.2.1), (I x2.2.2.2.2)]), [(1000776, (x2.1.flatMap (e105 false)))], [], [], [(1001025, 1000776)], (.tp [(.rf 1001025 0 x2.1.length 2 (x2.1.length * 2)), (I x2.2.1), (I x2.2.2.1), (I x2.2.2.2.1), (I x2.2.2.2.2)]), [(1001025, (x2.1.flatMap (e105 false)))]⟩] ⟨[(0, (.sl false a0.length 1 (a0.flatMap encU))), (3, (.rf 1001025 0 x2.1.length 2 (x2.1.length * 2))), (4, (I x2.2.1)), (5, (I x2.2.2.1)), (6, (I x2.2.2.2.1)), (7, (I x2.2.2.2.2))], [(1001025, (x2.1.flatMap (e105 false)))], [COK (hget []) [(.sl false a0.length 1 (a0.flatMap encU))] ⟨46, [(.sl false a0.length 1 (a0.flatMap encU))], [], (.tp [(.rf 1000776 0 x2.1.length 2 (x2.1.length * 2)), (I x2.2.1), (I x2.2.2.1), (I x2.2.2.2.1), (I x2.2.2.2.2)]), [(1000776, (x2.1.flatMap (e105 false)))], [], [], [(1001025, 1000776)], (.tp [(.rf 1001025 0 x2.1.length 2 (x2.1.length * 2)), (I x2.2.1), (I x2.2.2.1), (I x2.2.2.2.1), (I x2.2.2.2.2)]), [(1001025, (x2.1.flatMap (e105 false)))]⟩], [⟨46, [(.sl false a0.length 1 (a0.flatMap encU))], [], (.tp [(.rf 1000776 0 x2.1.length 2 (x2.1.length * 2)), (I x2.2.1), (I x2.2.2.1), (I x2.2.2.2.1), (I x2.2.2.2.2)]), [(1000776, (x2.1.flatMap (e105 false)))], [], [], [(1001025, 1000776)], (.tp [(.rf 1001025 0 x2.1.length 2 (x2.1.length * 2)), (I x2.2.1), (I x2.2.2.1), (I x2.2.2.2.1), (I x2.2.2.2.2)]), [(1001025, (x2.1.flatMap (e105 false)))]⟩]⟩ [c_ 60, c_ 61, c_ 31] (alc (cokW false (a2c (.z (frz_sl encU_ok (fun h => h))) a2n) akn (akc (.inr rfl) akn) (bck_tp (a2c (.rf (memP_mem (p := (1001025, 1000776)) rfl)) (a2c (.z .s) (a2c (.z .s) (a2c (.z .s) (a2c (.z .s) a2n)))))) (akc ⟨_, _, rfl, rfl, rowB e105_c0 _⟩ akn) (fun h => absurd h (by decide))) aln) (acal (spec_DrawRightQuestion.J k a0 _ hx2) nocal) ?_
    refine .reg' [0, 3, 4, 5, 6, 7, 25] [] ⟨[(0, (.sl false a0.length 1 (a0.flatMap encU))), (3, (.rf 1001025 0 x2.1.length 2 (x2.1.length * 2))), (4, (I x2.2.1)), (5, (I x2.2.2.1)), (6, (I x2.2.2.2.1)), (7, (I x2.2.2.2.2)), (25, (B (x2.2.1 == x2.2.2.1)))], [(1001025, (x2.1.flatMap (e105 false)))], [], []⟩ [c_ 61, c_ 31] aln nocal ?_
    by_cases c2 : x2.2.1 = x2.2.2.1
    · rw [if_pos c2] at h
      refine .cond' (.tmp 25) true [c_ 122, c_ 31] (bT (qT c2)) ?_
      refine .reg' [0, 3, 4, 5, 6, 7] [] ⟨[(0, (.sl false a0.length 1 (a0.flatMap encU))), (3, (.rf 1001025 0 x2.1.length 2 (x2.1.length * 2))), (4, (I x2.2.1)), (5, (I ((wrap64 (x2.2.2.1 + 1)).tmod (5 : Int)))), (6, (I x2.2.2.2.1)), (7, (I x2.2.2.2.2))], [(1001025, (x2.1.flatMap (e105 false)))], [(5 : Int) ≠ 0], []⟩ [c_ 62, c_ 63] (alc (by decide) aln) nocal ?_
      obtain ⟨x3, hx3, h⟩ := Option.bind_eq_some_iff.mp h
      refine .reg' [0, 3, 4, 5, 6, 7, 8] [.no, .no, .no, .no, .no, .c ⟨47, [(.sl true x2.1.length 2 (x2.1.flatMap (e105 true))), (I x2.2.1), (I ((wrap64 (x2.2.2.1 + 1)).tmod (5 : Int))), (I x2.2.2.2.1), (I x2.2.2.2.2)], [], (.rf 1024 0 x3.length 1 (x3.length * 1)), [(1024, (x3.flatMap encI))], [1001025], [], [(1001797, 1024)], (.rf 1001797 0 x3.length 1 (x3.length * 1)), [(1001797, (x3.flatMap encI))]⟩] ⟨[(0, (.sl false a0.length 1 (a0.flatMap encU))), (3, (.rf 1001025 0 x2.1.length 2 (x2.1.length * 2))), (4, (I x2.2.1)), (5, (I ((wrap64 (x2.2.2.1 + 1)).tmod (5 : Int)))), (6, (I x2.2.2.2.1)), (7, (I x2.2.2.2.2)), (8, (.rf 1001797 0 x3.length 1 (x3.length * 1)))], [(1001025, (x2.1.flatMap (e105 false))), (1001797, (x3.flatMap encI))], [COK (hget [(1001025, (x2.1.flatMap (e105 false)))]) [(.rf 1001025 0 x2.1.length 2 (x2.1.length * 2)), (I x2.2.1), (I ((wrap64 (x2.2.2.1 + 1)).tmod (5 : Int))), (I x2.2.2.2.1), (I x2.2.2.2.2)] ⟨47, [(.sl true x2.1.length 2 (x2.1.flatMap (e105 true))), (I x2.2.1), (I ((wrap64 (x2.2.2.1 + 1)).tmod (5 : Int))), (I x2.2.2.2.1), (I x2.2.2.2.2)], [], (.rf 1024 0 x3.length 1 (x3.length * 1)), [(1024, (x3.flatMap encI))], [1001025], [], [(1001797, 1024)], (.rf 1001797 0 x3.length 1 (x3.length * 1)), [(1001797, (x3.flatMap encI))]⟩], [⟨47, [(.sl true x2.1.length 2 (x2.1.flatMap (e105 true))), (I x2.2.1), (I ((wrap64 (x2.2.2.1 + 1)).tmod (5 : Int))), (I x2.2.2.2.1), (I x2.2.2.2.2)], [], (.rf 1024 0 x3.length 1 (x3.length * 1)), [(1024, (x3.flatMap encI))], [1001025], [], [(1001797, 1024)], (.rf 1001797 0 x3.length 1 (x3.length * 1)), [(1001797, (x3.flatMap encI))]⟩]⟩ [c_ 252, c_ 253, c_ 127] (alc (cokW false (a2c (.z (frz_rfT (k := 1001025) (fun x => e105_to x) (e105_ok false) (by simp) rfl rfl (row_len (e105_ok false) _).symm)) (a2c (.z .s) (a2c (.z .s) (a2c (.z .s) (a2c (.z .s) a2n))))) akn (akc (.inr rfl) akn) (.rf (memP_mem (p := (1001797, 1024)) rfl)) (akc ⟨_, _, rfl, rfl, rowB encI_c _⟩ akn) (fun h => absurd h (by decide))) aln) (acal (impl_Fastest.J k x2.1 x2.2.1 ((wrap64 (x2.2.2.1 + 1)).tmod (5 : Int)) x2.2.2.2.1 x2.2.2.2.2 _ hx3) nocal) ?_
      refine .reg' [0, 3, 4, 5, 6, 7, 8, 37] [] ⟨[(0, (.sl false a0.length 1 (a0.flatMap encU))), (3, (.rf 1001025 0 x2.1.length 2 (x2.1.length * 2))), (4, (I x2.2.1)), (5, (I ((wrap64 (x2.2.2.1 + 1)).tmod (5 : Int)))), (6, (I x2.2.2.2.1)), (7, (I x2.2.2.2.2)), (8, (.rf 1001797 0 x3.length 1 (x3.length * 1))), (37, (B (!((x3.length : Int) == 5))))], [(1001025, (x2.1.flatMap (e105 false))), (1001797, (x3.flatMap encI))], [], []⟩ [c_ 253, c_ 127] aln nocal ?_
      by_cases c3 : (x3.length : Int) = 5
      · rw [if_pos c3] at h
        refine .cond' (.tmp 37) false [c_ 508, c_ 509, c_ 255] (bF (nF (qT c3))) ?_
        refine .wk' [] [(1001025, 1001025), (1001797, 1001797)] [(0, (.sl false a0.length 1 (a0.flatMap encU))), (3, (.rf 1001025 0 x2.1.length 2 (x2.1.length * 2))), (4, (I x2.2.1)), (5, (I ((wrap64 (x2.2.2.1 + 1)).tmod (5 : Int)))), (6, (I x2.2.2.2.1)), (7, (I x2.2.2.2.2)), (8, (.rf 1001797 0 x3.length 1 (x3.length * 1)))] [(1001025, (x2.1.flatMap (e105 false))), (1001797, (x3.flatMap encI))] (shc 1001025 (rowF (e105_ok false) _) (shc 1001797 (rowF encI_ok _) shn)) (enc_ (.z (frz_sl encU_ok (fun h => h))) (enc_ (.rf (memP_mem (p := (1001025, 1001025)) rfl)) (enc_ (.z .s) (enc_ (.z .s) (enc_ (.z .s) (enc_ (.z .s) (enc_ (.rf (memP_mem (p := (1001797, 1001797)) rfl)) enn))))))) ?_
        exact ih0 a0 x2 x3 ((wrap64 (x2.2.2.1 + 1)).tmod (5 : Int)) _ h
      · rw [if_neg c3] at h
        refine .cond' (.tmp 37) true [c_ 1012, c_ 1013, c_ 127] (bT (nT (qF c3))) ?_
        refine .reg' [2] [] ⟨[(2, (B false))], [(1001025, (x2.1.flatMap (e105 false))), (1001797, (x3.flatMap encI))], [], []⟩ [c_ 1013, c_ 127] aln nocal ?_
        have h := Option.some.inj h
        subst h
        exact .fin0 [] (B false) [] aln (.z .s)
    · rw [if_neg c2] at h
      refine .cond' (.tmp 25) false [c_ 62, c_ 63] (bF (qF c2)) ?_
      obtain ⟨x14, hx14, h⟩ := Option.bind_eq_some_iff.mp h
      refine .reg' [0, 3, 4, 5, 6, 7, 8] [.no, .no, .no, .no, .no, .c ⟨47, [(.sl true x2.1.length 2 (x2.1.flatMap (e105 true))), (I x2.2.1), (I x2.2.2.1), (I x2.2.2.2.1), (I x2.2.2.2.2)], [], (.rf 1024 0 x14.length 1 (x14.length * 1)), [(1024, (x14.flatMap encI))], [1001025], [], [(1001797, 1024)], (.rf 1001797 0 x14.length 1 (x14.length * 1)), [(1001797, (x14.flatMap encI))]⟩] ⟨[(0, (.sl false a0.length 1 (a0.flatMap encU))), (3, (.rf 1001025 0 x2.1.length 2 (x2.1.length * 2))), (4, (I x2.2.1)), (5, (I x2.2.2.1)), (6, (I x2.2.2.2.1)), (7, (I x2.2.2.2.2)), (8, (.rf 1001797 0 x14.length 1 (x14.length * 1)))], [(1001025, (x2.1.flatMap (e105 false))), (1001797, (x14.flatMap encI))], [COK (hget [(1001025, (x2.1.flatMap (e105 false)))]) [(.rf 1001025 0 x2.1.length 2 (x2.1.length * 2)), (I x2.2.1), (I x2.2.2.1), (I x2.2.2.2.1), (I x2.2.2.2.2)] ⟨47, [(.sl true x2.1.length 2 (x2.1.flatMap (e105 true))), (I x2.2.1), (I x2.2.2.1), (I x2.2.2.2.1), (I x2.2.2.2.2)], [], (.rf 1024 0 x14.length 1 (x14.length * 1)), [(1024, (x14.flatMap encI))], [1001025], [], [(1001797, 1024)], (.rf 1001797 0 x14.length 1 (x14.length * 1)), [(1001797, (x14.flatMap encI))]⟩], [⟨47, [(.sl true x2.1.length 2 (x2.1.flatMap (e105 true))), (I x2.2.1), (I x2.2.2.1), (I x2.2.2.2.1), (I x2.2.2.2.2)], [], (.rf 1024 0 x14.length 1 (x14.length * 1)), [(1024, (x14.flatMap encI))], [1001025], [], [(1001797, 1024)], (.rf 1001797 0 x14.length 1 (x14.length * 1)), [(1001797, (x14.flatMap encI))]⟩]⟩ [c_ 252, c_ 253, c_ 127] (alc (cokW false (a2c (.z (frz_rfT (k := 1001025) (fun x => e105_to x) (e105_ok false) (by simp) rfl rfl (row_len (e105_ok false) _).symm)) (a2c (.z .s) (a2c (.z .s) (a2c (.z .s) (a2c (.z .s) a2n))))) akn (akc (.inr rfl) akn) (.rf (memP_mem (p := (1001797, 1024)) rfl)) (akc ⟨_, _, rfl, rfl, rowB encI_c _⟩ akn) (fun h => absurd h (by decide))) aln) (acal (impl_Fastest.J k x2.1 x2.2.1 x2.2.2.1 x2.2.2.2.1 x2.2.2.2.2 _ hx14) nocal) ?_
      refine .reg' [0, 3, 4, 5, 6, 7, 8, 37] [] ⟨[(0, (.sl false a0.length 1 (a0.flatMap encU))), (3, (.rf 1001025 0 x2.1.length 2 (x2.1.length * 2))), (4, (I x2.2.1)), (5, (I x2.2.2.1)), (6, (I x2.2.2.2.1)), (7, (I x2.2.2.2.2)), (8, (.rf 1001797 0 x14.length 1 (x14.length * 1))), (37, (B (!((x14.length : Int) == 5))))], [(1001025, (x2.1.flatMap (e105 false))), (1001797, (x14.flatMap encI))], [], []⟩ [c_ 253, c_ 127] aln nocal ?_
      by_cases c23 : (x14.length : Int) = 5
      · rw [if_pos c23] at h
        refine .cond' (.tmp 37) false [c_ 508, c_ 509, c_ 255] (bF (nF (qT c23))) ?_
        refine .wk' [] [(1001025, 1001025), (1001797, 1001797)] [(0, (.sl false a0.length 1 (a0.flatMap encU))), (3, (.rf 1001025 0 x2.1.length 2 (x2.1.length * 2))), (4, (I x2.2.1)), (5, (I x2.2.2.1)), (6, (I x2.2.2.2.1)), (7, (I x2.2.2.2.2)), (8, (.rf 1001797 0 x14.length 1 (x14.length * 1)))] [(1001025, (x2.1.flatMap (e105 false))), (1001797, (x14.flatMap encI))] (shc 1001025 (rowF (e105_ok false) _) (shc 1001797 (rowF encI_ok _) shn)) (enc_ (.z (frz_sl encU_ok (fun h => h))) (enc_ (.rf (memP_mem (p := (1001025, 1001025)) rfl)) (enc_ (.z .s) (enc_ (.z .s) (enc_ (.z .s) (enc_ (.z .s) (enc_ (.rf (memP_mem (p := (1001797, 1001797)) rfl)) enn))))))) ?_
        exact ih0 a0 x2 x14 x2.2.2.1 _ h
      · rw [if_neg c23] at h
        refine .cond' (.tmp 37) true [c_ 1012, c_ 1013, c_ 127] (bT (nT (qF c23))) ?_
        refine .reg' [2] [] ⟨[(2, (B false))], [(1001025, (x2.1.flatMap (e105 false))), (1001797, (x14.flatMap encI))], [], []⟩ [c_ 1013, c_ 127] aln nocal ?_
        have h := Option.some.inj h
        subst h
        exact .fin0 [] (B false) [] aln (.z .s)
end Go.Proofs.Ytjfjifnmfnlfoaa.Fns
