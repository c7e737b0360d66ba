/- The functions that the law FnTripText reaches, by the engine. Printed by a program of this seat. -/
import Derived.Test.YtjlickinmkafbaaDoorE5
import Derived.Test.YtjlickinmkafbaaDoorProg
import Derived.Test.YtjlickinmkafbaaDoorFFnTripTextx0
namespace Go.Proofs.YtjlickinmkafbaaDoor.Fns
open Go.Proofs.Tryd Go.Proofs.YtjlickinmkafbaaDoor.Eng Go.RowKit
set_option maxRecDepth 100000
set_option linter.unusedVariables false
set_option linter.unusedSimpArgs false
theorem spec_l08DrawTrip.lab : ∀ k, (∀ (a1 : S68) (x1 : (ByteArray × S77)) (x5 : (List S48)) (x6 : S77) (x7 : Int) (x8 : Int) (x9 : Int) (r : (S28 × S77)), spec_l08DrawTrip.l0 k a1 x1 x5 x6 x7 x8 x9 = some r → J prog (.run 53 [0] [l_ 250, b_ 0, c_ 63] [(0, (.pt 0 0 3)), (4, (.pt 256 0 2)), (6, (.pt 257 0 2)), (7, (.pt 515 0 2)), (8, (I x7)), (9, (I x8)), (10, (I x9))] [(3008241, (x5.flatMap e48)), (0, [(.sl false x6.f0.length 1 (x6.f0.flatMap encU)), (I x6.f1), (I x6.f2)]), (256, [(I a1.f0), (.sl true a1.f1.length 4 (a1.f1.flatMap e84))]), (257, [(S ByteArray.empty), nilS]), (515, [(S x1.1), (.rf 3008241 0 x5.length 3 (x5.length * 3))])] (.ag [(S r.1.f0), (.rf 3008241 0 r.1.f1.length 3 (r.1.f1.length * 3))]) [(0, [(.sl false r.2.f0.length 1 (r.2.f0.flatMap encU)), (I r.2.f1), (I r.2.f2)]), (3008241, (r.1.f1.flatMap e48))]))
 | 0 => (by intro a1 x1 x5 x6 x7 x8 x9 r h; unfold spec_l08DrawTrip.l0 at h; cases h)
 | k + 1 => by
  have ih0 := spec_l08DrawTrip.lab k
  · intro a1 x1 x5 x6 x7 x8 x9 r h
    unfold spec_l08DrawTrip.l0 at h
    refine .loop' [c_ 2000, c_ 2001, c_ 1001, l_ 250, b_ 0, c_ 63] ?_
    refine .reg' [0, 4, 6, 7, 8, 9, 10, 29] [] ⟨[(0, (.pt 0 0 3)), (4, (.pt 256 0 2)), (6, (.pt 257 0 2)), (7, (.pt 515 0 2)), (8, (I x7)), (9, (I x8)), (10, (I x9)), (29, (B (decide (x9 > 0))))], [(3008241, (x5.flatMap e48)), (0, [(.sl false x6.f0.length 1 (x6.f0.flatMap encU)), (I x6.f1), (I x6.f2)]), (256, [(I a1.f0), (.sl true a1.f1.length 4 (a1.f1.flatMap e84))]), (257, [(S ByteArray.empty), nilS]), (515, [(S x1.1), (.rf 3008241 0 x5.length 3 (x5.length * 3))])], [], []⟩ [c_ 2001, c_ 1001, l_ 250, b_ 0, c_ 63] aln nocal ?_
    by_cases c1 : x9 > 0
    · rw [if_pos c1] at h
      refine .cond' (.tmp 29) true [c_ 8008, c_ 8009, b_ 1, c_ 2003, l_ 250, b_ 0, c_ 63] (bT (dT c1)) ?_
      obtain ⟨x10, hx10, h⟩ := Option.bind_eq_some_iff.mp h
      refine .reg' [0, 4, 6, 7, 8, 9, 10, 11] [.no, .no, .c ⟨66, [(.pt 0 0 3), (I 4)], [(0, [(.sl false x6.f0.length 1 (x6.f0.flatMap encU)), (I x6.f1), (I x6.f2)])], (I x10.1), [(0, [(.sl false x10.2.f0.length 1 (x10.2.f0.flatMap encU)), (I x10.2.f1), (I x10.2.f2)])], [], [(0, 0)], [(0, 0)], (I x10.1), [(0, [(.sl false x10.2.f0.length 1 (x10.2.f0.flatMap encU)), (I x10.2.f1), (I x10.2.f2)])]⟩] ⟨[(0, (.pt 0 0 3)), (4, (.pt 256 0 2)), (6, (.pt 257 0 2)), (7, (.pt 515 0 2)), (8, (I x7)), (9, (I x8)), (10, (I x9)), (11, (I (wrap64 (x8 + x10.1))))], [(3008241, (x5.flatMap e48)), (0, [(.sl false x10.2.f0.length 1 (x10.2.f0.flatMap encU)), (I x10.2.f1), (I x10.2.f2)]), (256, [(I a1.f0), (.sl true a1.f1.length 4 (a1.f1.flatMap e84))]), (257, [(S ByteArray.empty), nilS]), (515, [(S x1.1), (.rf 3008241 0 x5.length 3 (x5.length * 3))])], [COK (hget [(3008241, (x5.flatMap e48)), (0, [(.sl false x6.f0.length 1 (x6.f0.flatMap encU)), (I x6.f1), (I x6.f2)]), (256, [(I a1.f0), (.sl true a1.f1.length 4 (a1.f1.flatMap e84))]), (257, [(S ByteArray.empty), nilS]), (515, [(S x1.1), (.rf 3008241 0 x5.length 3 (x5.length * 3))])]) [(.pt 0 0 3), (I 4)] ⟨66, [(.pt 0 0 3), (I 4)], [(0, [(.sl false x6.f0.length 1 (x6.f0.flatMap encU)), (I x6.f1), (I x6.f2)])], (I x10.1), [(0, [(.sl false x10.2.f0.length 1 (x10.2.f0.flatMap encU)), (I x10.2.f1), (I x10.2.f2)])], [], [(0, 0)], [(0, 0)], (I x10.1), [(0, [(.sl false x10.2.f0.length 1 (x10.2.f0.flatMap encU)), (I x10.2.f1), (I x10.2.f2)])]⟩], [⟨66, [(.pt 0 0 3), (I 4)], [(0, [(.sl false x6.f0.length 1 (x6.f0.flatMap encU)), (I x6.f1), (I x6.f2)])], (I x10.1), [(0, [(.sl false x10.2.f0.length 1 (x10.2.f0.flatMap encU)), (I x10.2.f1), (I x10.2.f2)])], [], [(0, 0)], [(0, 0)], (I x10.1), [(0, [(.sl false x10.2.f0.length 1 (x10.2.f0.flatMap encU)), (I x10.2.f1), (I x10.2.f2)])]⟩]⟩ [c_ 16018, c_ 16019, b_ 1, c_ 2003, l_ 250, b_ 0, c_ 63] (alc (cokW false (a2c (.pt (memP_mem (p := (0, 0)) rfl)) (a2c (.z .s) a2n)) (akc ⟨_, _, rfl, rfl, (a2c (.z (frz_sl encU_ok (fun h => h))) (a2c (.z .s) (a2c (.z .s) a2n)))⟩ akn) (akc (.inl rfl) akn) (.z .s) (akc ⟨_, _, rfl, rfl, (a2c (.z (clnS encU_c (fun h => absurd h (by decide)))) (a2c (.z .s) (a2c (.z .s) a2n)))⟩ akn) (fun h => absurd h (by decide))) aln) (acal (spec_l01Below.J x6 4 _ hx10) nocal) ?_
      by_cases c2 : (x5.length + ([(⟨x7, x8, (wrap64 (x8 + x10.1))⟩ : S48)] : List S48).length) * 24 ≤ 70368744177664
      · rw [if_pos c2] at h
        refine .reg' [0, 4, 6, 7, 8, 10, 11] [.no, .no, .no, .no, .no, .no, .no, .w (.rf 3008241 0 ((x5 ++ ([(⟨x7, x8, (wrap64 (x8 + x10.1))⟩ : S48)] : List S48)).length) 3 ((x5 ++ ([(⟨x7, x8, (wrap64 (x8 + x10.1))⟩ : S48)] : List S48)).length * 3)) ((x5 ++ ([(⟨x7, x8, (wrap64 (x8 + x10.1))⟩ : S48)] : List S48)).flatMap e48)] ⟨[(0, (.pt 0 0 3)), (4, (.pt 256 0 2)), (6, (.pt 257 0 2)), (7, (.pt 515 0 2)), (8, (I x7)), (10, (I x9)), (11, (I (wrap64 (x8 + x10.1))))], [(3008241, ((x5 ++ ([(⟨x7, x8, (wrap64 (x8 + x10.1))⟩ : S48)] : List S48)).flatMap e48)), (0, [(.sl false x10.2.f0.length 1 (x10.2.f0.flatMap encU)), (I x10.2.f1), (I x10.2.f2)]), (256, [(I a1.f0), (.sl true a1.f1.length 4 (a1.f1.flatMap e84))]), (257, [(S ByteArray.empty), nilS]), (515, [(S x1.1), (.rf 3008241 0 ((x5 ++ ([(⟨x7, x8, (wrap64 (x8 + x10.1))⟩ : S48)] : List S48)).length) 3 ((x5 ++ ([(⟨x7, x8, (wrap64 (x8 + x10.1))⟩ : S48)] : List S48)).length * 3))]), (2310, (([(⟨x7, x8, (wrap64 (x8 + x10.1))⟩ : S48)] : List S48).flatMap e48))], [2 = 2 ∧ 1 + 1 ≤ 2, V.rf 3008241 0 (x5.length + ([(⟨x7, x8, (wrap64 (x8 + x10.1))⟩ : S48)] : List S48).length) 3 (x5.length * 3 + ([(⟨x7, x8, (wrap64 (x8 + x10.1))⟩ : S48)] : List S48).length * 3) = (.rf 3008241 0 ((x5 ++ ([(⟨x7, x8, (wrap64 (x8 + x10.1))⟩ : S48)] : List S48)).length) 3 ((x5 ++ ([(⟨x7, x8, (wrap64 (x8 + x10.1))⟩ : S48)] : List S48)).length * 3)), x5.flatMap e48 ++ (((([(⟨x7, x8, (wrap64 (x8 + x10.1))⟩ : S48)] : List S48).flatMap e48).drop 0).take (([(⟨x7, x8, (wrap64 (x8 + x10.1))⟩ : S48)] : List S48).length * 3)) = ((x5 ++ ([(⟨x7, x8, (wrap64 (x8 + x10.1))⟩ : S48)] : List S48)).flatMap e48), (([(⟨x7, x8, (wrap64 (x8 + x10.1))⟩ : S48)] : List S48).length * 3 = (([(⟨x7, x8, (wrap64 (x8 + x10.1))⟩ : S48)] : List S48).flatMap e48).length ∧ 0 + ([(⟨x7, x8, (wrap64 (x8 + x10.1))⟩ : S48)] : List S48).length * 3 ≤ (([(⟨x7, x8, (wrap64 (x8 + x10.1))⟩ : S48)] : List S48).flatMap e48).length) ∧ x5.length * 3 = (x5.flatMap e48).length ∧ x5.length * 3 = (x5.flatMap e48).length ∧ (x5.length + ([(⟨x7, x8, (wrap64 (x8 + x10.1))⟩ : S48)] : List S48).length) * 24 ≤ 70368744177664, 2 = 2 ∧ 1 + 1 ≤ 2], []⟩ [c_ 32038, c_ 32039, b_ 1, c_ 2003, l_ 250, b_ 0, c_ 63] (alc ⟨rfl, by decide⟩ (alc (apV rfl) (alc (apR e48_ok rfl) (alc (apO e48_ok rfl c2 rfl) (alc ⟨rfl, by decide⟩ aln))))) nocal ?_
        obtain ⟨x11, hx11, h⟩ := Option.bind_eq_some_iff.mp h
        refine .reg' [0, 4, 6, 7, 8, 9, 10] [.no, .no, .no, .c ⟨66, [(.pt 0 0 3), (I 14)], [(0, [(.sl false x10.2.f0.length 1 (x10.2.f0.flatMap encU)), (I x10.2.f1), (I x10.2.f2)])], (I x11.1), [(0, [(.sl false x11.2.f0.length 1 (x11.2.f0.flatMap encU)), (I x11.2.f1), (I x11.2.f2)])], [], [(0, 0)], [(0, 0)], (I x11.1), [(0, [(.sl false x11.2.f0.length 1 (x11.2.f0.flatMap encU)), (I x11.2.f1), (I x11.2.f2)])]⟩] ⟨[(0, (.pt 0 0 3)), (4, (.pt 256 0 2)), (6, (.pt 257 0 2)), (7, (.pt 515 0 2)), (8, (I x7)), (9, (I (wrap64 ((wrap64 ((wrap64 (x8 + x10.1)) + 2)) + x11.1)))), (10, (I x9))], [(3008241, ((x5 ++ ([(⟨x7, x8, (wrap64 (x8 + x10.1))⟩ : S48)] : List S48)).flatMap e48)), (0, [(.sl false x11.2.f0.length 1 (x11.2.f0.flatMap encU)), (I x11.2.f1), (I x11.2.f2)]), (256, [(I a1.f0), (.sl true a1.f1.length 4 (a1.f1.flatMap e84))]), (257, [(S ByteArray.empty), nilS]), (515, [(S x1.1), (.rf 3008241 0 ((x5 ++ ([(⟨x7, x8, (wrap64 (x8 + x10.1))⟩ : S48)] : List S48)).length) 3 ((x5 ++ ([(⟨x7, x8, (wrap64 (x8 + x10.1))⟩ : S48)] : List S48)).length * 3))]), (2310, (([(⟨x7, x8, (wrap64 (x8 + x10.1))⟩ : S48)] : List S48).flatMap e48))], [COK (hget [(3008241, ((x5 ++ ([(⟨x7, x8, (wrap64 (x8 + x10.1))⟩ : S48)] : List S48)).flatMap e48)), (0, [(.sl false x10.2.f0.length 1 (x10.2.f0.flatMap encU)), (I x10.2.f1), (I x10.2.f2)]), (256, [(I a1.f0), (.sl true a1.f1.length 4 (a1.f1.flatMap e84))]), (257, [(S ByteArray.empty), nilS]), (515, [(S x1.1), (.rf 3008241 0 ((x5 ++ ([(⟨x7, x8, (wrap64 (x8 + x10.1))⟩ : S48)] : List S48)).length) 3 ((x5 ++ ([(⟨x7, x8, (wrap64 (x8 + x10.1))⟩ : S48)] : List S48)).length * 3))]), (2310, (([(⟨x7, x8, (wrap64 (x8 + x10.1))⟩ : S48)] : List S48).flatMap e48))]) [(.pt 0 0 3), (I 14)] ⟨66, [(.pt 0 0 3), (I 14)], [(0, [(.sl false x10.2.f0.length 1 (x10.2.f0.flatMap encU)), (I x10.2.f1), (I x10.2.f2)])], (I x11.1), [(0, [(.sl false x11.2.f0.length 1 (x11.2.f0.flatMap encU)), (I x11.2.f1), (I x11.2.f2)])], [], [(0, 0)], [(0, 0)], (I x11.1), [(0, [(.sl false x11.2.f0.length 1 (x11.2.f0.flatMap encU)), (I x11.2.f1), (I x11.2.f2)])]⟩], [⟨66, [(.pt 0 0 3), (I 14)], [(0, [(.sl false x10.2.f0.length 1 (x10.2.f0.flatMap encU)), (I x10.2.f1), (I x10.2.f2)])], (I x11.1), [(0, [(.sl false x11.2.f0.length 1 (x11.2.f0.flatMap encU)), (I x11.2.f1), (I x11.2.f2)])], [], [(0, 0)], [(0, 0)], (I x11.1), [(0, [(.sl false x11.2.f0.length 1 (x11.2.f0.flatMap encU)), (I x11.2.f1), (I x11.2.f2)])]⟩]⟩ [c_ 64078, c_ 64079, b_ 1, c_ 2003, l_ 250, b_ 0, c_ 63] (alc (cokW false (a2c (.pt (memP_mem (p := (0, 0)) rfl)) (a2c (.z .s) a2n)) (akc ⟨_, _, rfl, rfl, (a2c (.z (frz_sl encU_ok (fun h => h))) (a2c (.z .s) (a2c (.z .s) a2n)))⟩ akn) (akc (.inl rfl) akn) (.z .s) (akc ⟨_, _, rfl, rfl, (a2c (.z (clnS encU_c (fun h => absurd h (by decide)))) (a2c (.z .s) (a2c (.z .s) a2n)))⟩ akn) (fun h => absurd h (by decide))) aln) (acal (spec_l01Below.J x10.2 14 _ hx11) nocal) ?_
        obtain ⟨x12, hx12, h⟩ := Option.bind_eq_some_iff.mp h
        by_cases c3 : a1.f0 ≠ 0
        · rw [if_pos c3] at h
          refine .reg' [0, 4, 6, 7, 8, 9, 10, 12] [.no, .no, .no, .no, .no, .no, .c ⟨66, [(.pt 0 0 3), (I (wrap64 (a1.f0 - 1)))], [(0, [(.sl false x11.2.f0.length 1 (x11.2.f0.flatMap encU)), (I x11.2.f1), (I x11.2.f2)])], (I x12.1), [(0, [(.sl false x12.2.f0.length 1 (x12.2.f0.flatMap encU)), (I x12.2.f1), (I x12.2.f2)])], [], [(0, 0)], [(0, 0)], (I x12.1), [(0, [(.sl false x12.2.f0.length 1 (x12.2.f0.flatMap encU)), (I x12.2.f1), (I x12.2.f2)])]⟩] ⟨[(0, (.pt 0 0 3)), (4, (.pt 256 0 2)), (6, (.pt 257 0 2)), (7, (.pt 515 0 2)), (8, (I x7)), (9, (I (wrap64 ((wrap64 ((wrap64 (x8 + x10.1)) + 2)) + x11.1)))), (10, (I x9)), (12, (I ((wrap64 ((wrap64 (x7 + 1)) + x12.1)).tmod a1.f0)))], [(3008241, ((x5 ++ ([(⟨x7, x8, (wrap64 (x8 + x10.1))⟩ : S48)] : List S48)).flatMap e48)), (0, [(.sl false x12.2.f0.length 1 (x12.2.f0.flatMap encU)), (I x12.2.f1), (I x12.2.f2)]), (256, [(I a1.f0), (.sl true a1.f1.length 4 (a1.f1.flatMap e84))]), (257, [(S ByteArray.empty), nilS]), (515, [(S x1.1), (.rf 3008241 0 ((x5 ++ ([(⟨x7, x8, (wrap64 (x8 + x10.1))⟩ : S48)] : List S48)).length) 3 ((x5 ++ ([(⟨x7, x8, (wrap64 (x8 + x10.1))⟩ : S48)] : List S48)).length * 3))]), (2310, (([(⟨x7, x8, (wrap64 (x8 + x10.1))⟩ : S48)] : List S48).flatMap e48))], [2 = 2 ∧ 0 + 1 ≤ 2, COK (hget [(3008241, ((x5 ++ ([(⟨x7, x8, (wrap64 (x8 + x10.1))⟩ : S48)] : List S48)).flatMap e48)), (0, [(.sl false x11.2.f0.length 1 (x11.2.f0.flatMap encU)), (I x11.2.f1), (I x11.2.f2)]), (256, [(I a1.f0), (.sl true a1.f1.length 4 (a1.f1.flatMap e84))]), (257, [(S ByteArray.empty), nilS]), (515, [(S x1.1), (.rf 3008241 0 ((x5 ++ ([(⟨x7, x8, (wrap64 (x8 + x10.1))⟩ : S48)] : List S48)).length) 3 ((x5 ++ ([(⟨x7, x8, (wrap64 (x8 + x10.1))⟩ : S48)] : List S48)).length * 3))]), (2310, (([(⟨x7, x8, (wrap64 (x8 + x10.1))⟩ : S48)] : List S48).flatMap e48))]) [(.pt 0 0 3), (I (wrap64 (a1.f0 - 1)))] ⟨66, [(.pt 0 0 3), (I (wrap64 (a1.f0 - 1)))], [(0, [(.sl false x11.2.f0.length 1 (x11.2.f0.flatMap encU)), (I x11.2.f1), (I x11.2.f2)])], (I x12.1), [(0, [(.sl false x12.2.f0.length 1 (x12.2.f0.flatMap encU)), (I x12.2.f1), (I x12.2.f2)])], [], [(0, 0)], [(0, 0)], (I x12.1), [(0, [(.sl false x12.2.f0.length 1 (x12.2.f0.flatMap encU)), (I x12.2.f1), (I x12.2.f2)])]⟩, 2 = 2 ∧ 0 + 1 ≤ 2, a1.f0 ≠ 0], [⟨66, [(.pt 0 0 3), (I (wrap64 (a1.f0 - 1)))], [(0, [(.sl false x11.2.f0.length 1 (x11.2.f0.flatMap encU)), (I x11.2.f1), (I x11.2.f2)])], (I x12.1), [(0, [(.sl false x12.2.f0.length 1 (x12.2.f0.flatMap encU)), (I x12.2.f1), (I x12.2.f2)])], [], [(0, 0)], [(0, 0)], (I x12.1), [(0, [(.sl false x12.2.f0.length 1 (x12.2.f0.flatMap encU)), (I x12.2.f1), (I x12.2.f2)])]⟩]⟩ [c_ 128158, c_ 128159, b_ 1, c_ 2003, l_ 250, b_ 0, c_ 63] (alc ⟨rfl, by decide⟩ (alc (cokW false (a2c (.pt (memP_mem (p := (0, 0)) rfl)) (a2c (.z .s) a2n)) (akc ⟨_, _, rfl, rfl, (a2c (.z (frz_sl encU_ok (fun h => h))) (a2c (.z .s) (a2c (.z .s) a2n)))⟩ akn) (akc (.inl rfl) akn) (.z .s) (akc ⟨_, _, rfl, rfl, (a2c (.z (clnS encU_c (fun h => absurd h (by decide)))) (a2c (.z .s) (a2c (.z .s) a2n)))⟩ akn) (fun h => absurd h (by decide))) (alc ⟨rfl, by decide⟩ (alc c3 aln)))) (acal (spec_l01Below.J x11.2 (wrap64 (a1.f0 - 1)) _ hx12) nocal) ?_
          obtain ⟨x13, hx13, h⟩ := Option.bind_eq_some_iff.mp h
          refine .reg' [0, 4, 6, 7, 8, 9, 10, 12, 13] [.no, .no, .no, .c ⟨67, [(.pt 0 0 3), (.ag [(I a1.f0), (.sl true a1.f1.length 4 (a1.f1.flatMap e84))]), (I x7), (I 1)], [(0, [(.sl false x12.2.f0.length 1 (x12.2.f0.flatMap encU)), (I x12.2.f1), (I x12.2.f2)])], (.rf 512 0 x13.1.length 1 (x13.1.length * 1)), [(0, [(.sl false x13.2.f0.length 1 (x13.2.f0.flatMap encU)), (I x13.2.f1), (I x13.2.f2)]), (512, (x13.1.flatMap encI))], [], [(0, 0)], [(0, 0), (1003075, 512)], (.rf 1003075 0 x13.1.length 1 (x13.1.length * 1)), [(0, [(.sl false x13.2.f0.length 1 (x13.2.f0.flatMap encU)), (I x13.2.f1), (I x13.2.f2)]), (1003075, (x13.1.flatMap encI))]⟩] ⟨[(0, (.pt 0 0 3)), (4, (.pt 256 0 2)), (6, (.pt 257 0 2)), (7, (.pt 515 0 2)), (8, (I x7)), (9, (I (wrap64 ((wrap64 ((wrap64 (x8 + x10.1)) + 2)) + x11.1)))), (10, (I x9)), (12, (I ((wrap64 ((wrap64 (x7 + 1)) + x12.1)).tmod a1.f0))), (13, (.rf 1003075 0 x13.1.length 1 (x13.1.length * 1)))], [(3008241, ((x5 ++ ([(⟨x7, x8, (wrap64 (x8 + x10.1))⟩ : S48)] : List S48)).flatMap e48)), (0, [(.sl false x13.2.f0.length 1 (x13.2.f0.flatMap encU)), (I x13.2.f1), (I x13.2.f2)]), (256, [(I a1.f0), (.sl true a1.f1.length 4 (a1.f1.flatMap e84))]), (257, [(S ByteArray.empty), nilS]), (515, [(S x1.1), (.rf 3008241 0 ((x5 ++ ([(⟨x7, x8, (wrap64 (x8 + x10.1))⟩ : S48)] : List S48)).length) 3 ((x5 ++ ([(⟨x7, x8, (wrap64 (x8 + x10.1))⟩ : S48)] : List S48)).length * 3))]), (2310, (([(⟨x7, x8, (wrap64 (x8 + x10.1))⟩ : S48)] : List S48).flatMap e48)), (1003075, (x13.1.flatMap encI))], [2 = 2 ∧ 0 + 2 ≤ 2, COK (hget [(3008241, ((x5 ++ ([(⟨x7, x8, (wrap64 (x8 + x10.1))⟩ : S48)] : List S48)).flatMap e48)), (0, [(.sl false x12.2.f0.length 1 (x12.2.f0.flatMap encU)), (I x12.2.f1), (I x12.2.f2)]), (256, [(I a1.f0), (.sl true a1.f1.length 4 (a1.f1.flatMap e84))]), (257, [(S ByteArray.empty), nilS]), (515, [(S x1.1), (.rf 3008241 0 ((x5 ++ ([(⟨x7, x8, (wrap64 (x8 + x10.1))⟩ : S48)] : List S48)).length) 3 ((x5 ++ ([(⟨x7, x8, (wrap64 (x8 + x10.1))⟩ : S48)] : List S48)).length * 3))]), (2310, (([(⟨x7, x8, (wrap64 (x8 + x10.1))⟩ : S48)] : List S48).flatMap e48))]) [(.pt 0 0 3), (.ag [(I a1.f0), (.sl true a1.f1.length 4 (a1.f1.flatMap e84))]), (I x7), (I 1)] ⟨67, [(.pt 0 0 3), (.ag [(I a1.f0), (.sl true a1.f1.length 4 (a1.f1.flatMap e84))]), (I x7), (I 1)], [(0, [(.sl false x12.2.f0.length 1 (x12.2.f0.flatMap encU)), (I x12.2.f1), (I x12.2.f2)])], (.rf 512 0 x13.1.length 1 (x13.1.length * 1)), [(0, [(.sl false x13.2.f0.length 1 (x13.2.f0.flatMap encU)), (I x13.2.f1), (I x13.2.f2)]), (512, (x13.1.flatMap encI))], [], [(0, 0)], [(0, 0), (1003075, 512)], (.rf 1003075 0 x13.1.length 1 (x13.1.length * 1)), [(0, [(.sl false x13.2.f0.length 1 (x13.2.f0.flatMap encU)), (I x13.2.f1), (I x13.2.f2)]), (1003075, (x13.1.flatMap encI))]⟩], [⟨67, [(.pt 0 0 3), (.ag [(I a1.f0), (.sl true a1.f1.length 4 (a1.f1.flatMap e84))]), (I x7), (I 1)], [(0, [(.sl false x12.2.f0.length 1 (x12.2.f0.flatMap encU)), (I x12.2.f1), (I x12.2.f2)])], (.rf 512 0 x13.1.length 1 (x13.1.length * 1)), [(0, [(.sl false x13.2.f0.length 1 (x13.2.f0.flatMap encU)), (I x13.2.f1), (I x13.2.f2)]), (512, (x13.1.flatMap encI))], [], [(0, 0)], [(0, 0), (1003075, 512)], (.rf 1003075 0 x13.1.length 1 (x13.1.length * 1)), [(0, [(.sl false x13.2.f0.length 1 (x13.2.f0.flatMap encU)), (I x13.2.f1), (I x13.2.f2)]), (1003075, (x13.1.flatMap encI))]⟩]⟩ [c_ 512636, c_ 512637, c_ 256319, b_ 1, c_ 2003, l_ 250, b_ 0, c_ 63] (alc ⟨rfl, by decide⟩ (alc (cokW false (a2c (.pt (memP_mem (p := (0, 0)) rfl)) (a2c (.z (frz_ag (a2c .s (a2c (frz_sl e84_ok (fun h => h)) a2n)))) (a2c (.z .s) (a2c (.z .s) a2n)))) (akc ⟨_, _, rfl, rfl, (a2c (.z (frz_sl encU_ok (fun h => h))) (a2c (.z .s) (a2c (.z .s) a2n)))⟩ akn) (akc (.inl rfl) (akc (.inr rfl) akn)) (.rf (memP_mem (p := (1003075, 512)) rfl)) (akc ⟨_, _, rfl, rfl, (a2c (.z (clnS encU_c (fun h => absurd h (by decide)))) (a2c (.z .s) (a2c (.z .s) a2n)))⟩ (akc ⟨_, _, rfl, rfl, rowB encI_c _⟩ akn)) (fun h => absurd h (by decide))) aln)) (acal (spec_l02DrawWay.J k x12.2 a1 x7 1 _ hx13) nocal) ?_
          refine .reg' [0, 4, 6, 7, 8, 9, 10, 12, 13, 67] [] ⟨[(0, (.pt 0 0 3)), (4, (.pt 256 0 2)), (6, (.pt 257 0 2)), (7, (.pt 515 0 2)), (8, (I x7)), (9, (I (wrap64 ((wrap64 ((wrap64 (x8 + x10.1)) + 2)) + x11.1)))), (10, (I x9)), (12, (I ((wrap64 ((wrap64 (x7 + 1)) + x12.1)).tmod a1.f0))), (13, (.rf 1003075 0 x13.1.length 1 (x13.1.length * 1))), (67, (B ((x13.1.length : Int) == 1)))], [(3008241, ((x5 ++ ([(⟨x7, x8, (wrap64 (x8 + x10.1))⟩ : S48)] : List S48)).flatMap e48)), (0, [(.sl false x13.2.f0.length 1 (x13.2.f0.flatMap encU)), (I x13.2.f1), (I x13.2.f2)]), (256, [(I a1.f0), (.sl true a1.f1.length 4 (a1.f1.flatMap e84))]), (257, [(S ByteArray.empty), nilS]), (515, [(S x1.1), (.rf 3008241 0 ((x5 ++ ([(⟨x7, x8, (wrap64 (x8 + x10.1))⟩ : S48)] : List S48)).length) 3 ((x5 ++ ([(⟨x7, x8, (wrap64 (x8 + x10.1))⟩ : S48)] : List S48)).length * 3))]), (2310, (([(⟨x7, x8, (wrap64 (x8 + x10.1))⟩ : S48)] : List S48).flatMap e48)), (1003075, (x13.1.flatMap encI))], [], []⟩ [c_ 512637, c_ 256319, b_ 1, c_ 2003, l_ 250, b_ 0, c_ 63] aln nocal ?_
          by_cases c4 : (x13.1.length : Int) = 1
          · rw [if_pos c4] at h
            refine .cond' (.tmp 67) true [c_ 1025274, c_ 256319, b_ 1, c_ 2003, l_ 250, b_ 0, c_ 63] (bT (qT c4)) ?_
            by_cases c5 : 0 < (x13.1.length : Int)
            · rw [if_pos c5] at h
              by_cases c6 : 0 ≤ (at_ x13.1 0)
              · rw [if_pos c6] at h
                by_cases c7 : (at_ x13.1 0) < (a1.f1.length : Int)
                · rw [if_pos c7] at h
                  obtain ⟨x14, hx14, h⟩ := Option.bind_eq_some_iff.mp h
                  refine .reg' [0, 4, 6, 7, 9, 10, 12] [.no, .no, .no, .no, .v (I (at_ x13.1 0)), .no, .v (.ag [(I (at_ a1.f1 (at_ x13.1 0)).f0), (I (at_ a1.f1 (at_ x13.1 0)).f1), (I (at_ a1.f1 (at_ x13.1 0)).f2), (I (at_ a1.f1 (at_ x13.1 0)).f3)]), .no, .c ⟨68, [(.ag [(I (at_ a1.f1 (at_ x13.1 0)).f0), (I (at_ a1.f1 (at_ x13.1 0)).f1), (I (at_ a1.f1 (at_ x13.1 0)).f2), (I (at_ a1.f1 (at_ x13.1 0)).f3)]), (I x7)], [], (I x14), [], [], [], [], (I x14), []⟩] ⟨[(0, (.pt 0 0 3)), (4, (.pt 256 0 2)), (6, (.pt 257 0 2)), (7, (.pt 515 0 2)), (9, (I (wrap64 ((wrap64 ((wrap64 (x8 + x10.1)) + 2)) + x11.1)))), (10, (I x9)), (12, (I x14))], [(3008241, ((x5 ++ ([(⟨x7, x8, (wrap64 (x8 + x10.1))⟩ : S48)] : List S48)).flatMap e48)), (0, [(.sl false x13.2.f0.length 1 (x13.2.f0.flatMap encU)), (I x13.2.f1), (I x13.2.f2)]), (256, [(I a1.f0), (.sl true a1.f1.length 4 (a1.f1.flatMap e84))]), (257, [(S ByteArray.empty), nilS]), (515, [(S x1.1), (.rf 3008241 0 ((x5 ++ ([(⟨x7, x8, (wrap64 (x8 + x10.1))⟩ : S48)] : List S48)).length) 3 ((x5 ++ ([(⟨x7, x8, (wrap64 (x8 + x10.1))⟩ : S48)] : List S48)).length * 3))]), (2310, (([(⟨x7, x8, (wrap64 (x8 + x10.1))⟩ : S48)] : List S48).flatMap e48)), (1003075, (x13.1.flatMap encI))], [2 = 2 ∧ 1 + 1 ≤ 2, (0 : Int) ≤ 0 ∧ 0 < (x13.1.length : Int), rdC prog 3 ((x13.1.flatMap encI).drop (0 + (0 : Int).toNat * 1)) = (I (at_ x13.1 0)), x13.1.length * 1 = (x13.1.flatMap encI).length ∧ 0 + (0 : Int).toNat * 1 + 1 ≤ (x13.1.flatMap encI).length, (0 : Int) ≤ (at_ x13.1 0) ∧ (at_ x13.1 0) < (a1.f1.length : Int), rdC prog 85 ((a1.f1.flatMap e84).drop ((at_ x13.1 0).toNat * 4)) = (.ag [(I (at_ a1.f1 (at_ x13.1 0)).f0), (I (at_ a1.f1 (at_ x13.1 0)).f1), (I (at_ a1.f1 (at_ x13.1 0)).f2), (I (at_ a1.f1 (at_ x13.1 0)).f3)]), 4 ≤ ((a1.f1.flatMap e84).drop ((at_ x13.1 0).toNat * 4)).length, COK (hget [(3008241, ((x5 ++ ([(⟨x7, x8, (wrap64 (x8 + x10.1))⟩ : S48)] : List S48)).flatMap e48)), (0, [(.sl false x13.2.f0.length 1 (x13.2.f0.flatMap encU)), (I x13.2.f1), (I x13.2.f2)]), (256, [(I a1.f0), (.sl true a1.f1.length 4 (a1.f1.flatMap e84))]), (257, [(S ByteArray.empty), nilS]), (515, [(S x1.1), (.rf 3008241 0 ((x5 ++ ([(⟨x7, x8, (wrap64 (x8 + x10.1))⟩ : S48)] : List S48)).length) 3 ((x5 ++ ([(⟨x7, x8, (wrap64 (x8 + x10.1))⟩ : S48)] : List S48)).length * 3))]), (2310, (([(⟨x7, x8, (wrap64 (x8 + x10.1))⟩ : S48)] : List S48).flatMap e48)), (1003075, (x13.1.flatMap encI))]) [(.ag [(I (at_ a1.f1 (at_ x13.1 0)).f0), (I (at_ a1.f1 (at_ x13.1 0)).f1), (I (at_ a1.f1 (at_ x13.1 0)).f2), (I (at_ a1.f1 (at_ x13.1 0)).f3)]), (I x7)] ⟨68, [(.ag [(I (at_ a1.f1 (at_ x13.1 0)).f0), (I (at_ a1.f1 (at_ x13.1 0)).f1), (I (at_ a1.f1 (at_ x13.1 0)).f2), (I (at_ a1.f1 (at_ x13.1 0)).f3)]), (I x7)], [], (I x14), [], [], [], [], (I x14), []⟩], [⟨68, [(.ag [(I (at_ a1.f1 (at_ x13.1 0)).f0), (I (at_ a1.f1 (at_ x13.1 0)).f1), (I (at_ a1.f1 (at_ x13.1 0)).f2), (I (at_ a1.f1 (at_ x13.1 0)).f3)]), (I x7)], [], (I x14), [], [], [], [], (I x14), []⟩]⟩ [c_ 256319, b_ 1, c_ 2003, l_ 250, b_ 0, c_ 63] (alc ⟨rfl, by decide⟩ (alc ⟨(by decide), c5⟩ (alc (ldC01 encI_ok rfl (by decide) c5) (alc (okA0 encI_ok (by decide) c5 (by decide)) (alc ⟨c6, c7⟩ (alc (ldA e84_ok rfl rfl c6 c7) (alc (okI e84_ok c6 c7 (by decide)) (alc (cok0 false (a2c (.z (frz_ag (a2c .s (a2c .s (a2c .s (a2c .s a2n)))))) (a2c (.z .s) a2n)) (.z .s) (fun h => absurd h (by decide))) aln)))))))) (acal (spec_l02Other.J (at_ a1.f1 (at_ x13.1 0)) x7 _ hx14) nocal) ?_
                  refine .reg' [0, 4, 6, 7, 8, 9, 10] [] ⟨[(0, (.pt 0 0 3)), (4, (.pt 256 0 2)), (6, (.pt 257 0 2)), (7, (.pt 515 0 2)), (8, (I x14)), (9, (I (wrap64 ((wrap64 ((wrap64 (x8 + x10.1)) + 2)) + x11.1)))), (10, (I x9))], [(3008241, ((x5 ++ ([(⟨x7, x8, (wrap64 (x8 + x10.1))⟩ : S48)] : List S48)).flatMap e48)), (0, [(.sl false x13.2.f0.length 1 (x13.2.f0.flatMap encU)), (I x13.2.f1), (I x13.2.f2)]), (256, [(I a1.f0), (.sl true a1.f1.length 4 (a1.f1.flatMap e84))]), (257, [(S ByteArray.empty), nilS]), (515, [(S x1.1), (.rf 3008241 0 ((x5 ++ ([(⟨x7, x8, (wrap64 (x8 + x10.1))⟩ : S48)] : List S48)).length) 3 ((x5 ++ ([(⟨x7, x8, (wrap64 (x8 + x10.1))⟩ : S48)] : List S48)).length * 3))]), (2310, (([(⟨x7, x8, (wrap64 (x8 + x10.1))⟩ : S48)] : List S48).flatMap e48)), (1003075, (x13.1.flatMap encI))], [], []⟩ [c_ 2003, l_ 250, b_ 0, c_ 63] aln nocal ?_
                  refine .reg' [0, 4, 6, 7, 8, 9, 10] [] ⟨[(0, (.pt 0 0 3)), (4, (.pt 256 0 2)), (6, (.pt 257 0 2)), (7, (.pt 515 0 2)), (8, (I x14)), (9, (I (wrap64 ((wrap64 ((wrap64 (x8 + x10.1)) + 2)) + x11.1)))), (10, (I (wrap64 (x9 - 1))))], [(3008241, ((x5 ++ ([(⟨x7, x8, (wrap64 (x8 + x10.1))⟩ : S48)] : List S48)).flatMap e48)), (0, [(.sl false x13.2.f0.length 1 (x13.2.f0.flatMap encU)), (I x13.2.f1), (I x13.2.f2)]), (256, [(I a1.f0), (.sl true a1.f1.length 4 (a1.f1.flatMap e84))]), (257, [(S ByteArray.empty), nilS]), (515, [(S x1.1), (.rf 3008241 0 ((x5 ++ ([(⟨x7, x8, (wrap64 (x8 + x10.1))⟩ : S48)] : List S48)).length) 3 ((x5 ++ ([(⟨x7, x8, (wrap64 (x8 + x10.1))⟩ : S48)] : List S48)).length * 3))]), (2310, (([(⟨x7, x8, (wrap64 (x8 + x10.1))⟩ : S48)] : List S48).flatMap e48)), (1003075, (x13.1.flatMap encI))], [], []⟩ [l_ 250, b_ 0, c_ 63] aln nocal ?_
                  refine .wk' [] [(3008241, 3008241), (0, 0), (256, 256), (257, 257), (515, 515)] [(0, (.pt 0 0 3)), (4, (.pt 256 0 2)), (6, (.pt 257 0 2)), (7, (.pt 515 0 2)), (8, (I x14)), (9, (I (wrap64 ((wrap64 ((wrap64 (x8 + x10.1)) + 2)) + x11.1)))), (10, (I (wrap64 (x9 - 1))))] [(3008241, ((x5 ++ ([(⟨x7, x8, (wrap64 (x8 + x10.1))⟩ : S48)] : List S48)).flatMap e48)), (0, [(.sl false x13.2.f0.length 1 (x13.2.f0.flatMap encU)), (I x13.2.f1), (I x13.2.f2)]), (256, [(I a1.f0), (.sl true a1.f1.length 4 (a1.f1.flatMap e84))]), (257, [(S ByteArray.empty), nilS]), (515, [(S x1.1), (.rf 3008241 0 ((x5 ++ ([(⟨x7, x8, (wrap64 (x8 + x10.1))⟩ : S48)] : List S48)).length) 3 ((x5 ++ ([(⟨x7, x8, (wrap64 (x8 + x10.1))⟩ : S48)] : List S48)).length * 3))])] (shc 3008241 (rowF e48_ok _) (shc 0 (a2c (.z (frz_sl encU_ok (fun h => h))) (a2c (.z .s) (a2c (.z .s) a2n))) (shc 256 (a2c (.z .s) (a2c (.z (frz_sl e84_ok (fun h => h))) a2n)) (shc 257 (a2c (.z .s) (a2c (.z .s) a2n)) (shc 515 (a2c (.z .s) (a2c (.rf (memP_mem (p := (3008241, 3008241)) rfl)) a2n)) shn))))) (enc_ (.pt (memP_mem (p := (0, 0)) rfl)) (enc_ (.pt (memP_mem (p := (256, 256)) rfl)) (enc_ (.pt (memP_mem (p := (257, 257)) rfl)) (enc_ (.pt (memP_mem (p := (515, 515)) rfl)) (enc_ (.z .s) (enc_ (.z .s) (enc_ (.z .s) enn))))))) ?_
                  exact ih0 a1 x1 (x5 ++ ([(⟨x7, x8, (wrap64 (x8 + x10.1))⟩ : S48)] : List S48)) x13.2 x14 (wrap64 ((wrap64 ((wrap64 (x8 + x10.1)) + 2)) + x11.1)) (wrap64 (x9 - 1)) _ h
                · rw [if_neg c7] at h
                  cases h
              · rw [if_neg c6] at h
                cases h
            · rw [if_neg c5] at h
              cases h
          · rw [if_neg c4] at h
            refine .cond' (.tmp 67) false [c_ 256319, b_ 1, c_ 2003, l_ 250, b_ 0, c_ 63] (bF (qF c4)) ?_
            refine .reg' [0, 4, 6, 7, 8, 9, 10] [] ⟨[(0, (.pt 0 0 3)), (4, (.pt 256 0 2)), (6, (.pt 257 0 2)), (7, (.pt 515 0 2)), (8, (I ((wrap64 ((wrap64 (x7 + 1)) + x12.1)).tmod a1.f0))), (9, (I (wrap64 ((wrap64 ((wrap64 (x8 + x10.1)) + 2)) + x11.1)))), (10, (I x9))], [(3008241, ((x5 ++ ([(⟨x7, x8, (wrap64 (x8 + x10.1))⟩ : S48)] : List S48)).flatMap e48)), (0, [(.sl false x13.2.f0.length 1 (x13.2.f0.flatMap encU)), (I x13.2.f1), (I x13.2.f2)]), (256, [(I a1.f0), (.sl true a1.f1.length 4 (a1.f1.flatMap e84))]), (257, [(S ByteArray.empty), nilS]), (515, [(S x1.1), (.rf 3008241 0 ((x5 ++ ([(⟨x7, x8, (wrap64 (x8 + x10.1))⟩ : S48)] : List S48)).length) 3 ((x5 ++ ([(⟨x7, x8, (wrap64 (x8 + x10.1))⟩ : S48)] : List S48)).length * 3))]), (2310, (([(⟨x7, x8, (wrap64 (x8 + x10.1))⟩ : S48)] : List S48).flatMap e48)), (1003075, (x13.1.flatMap encI))], [], []⟩ [c_ 2003, l_ 250, b_ 0, c_ 63] aln nocal ?_
            refine .reg' [0, 4, 6, 7, 8, 9, 10] [] ⟨[(0, (.pt 0 0 3)), (4, (.pt 256 0 2)), (6, (.pt 257 0 2)), (7, (.pt 515 0 2)), (8, (I ((wrap64 ((wrap64 (x7 + 1)) + x12.1)).tmod a1.f0))), (9, (I (wrap64 ((wrap64 ((wrap64 (x8 + x10.1)) + 2)) + x11.1)))), (10, (I (wrap64 (x9 - 1))))], [(3008241, ((x5 ++ ([(⟨x7, x8, (wrap64 (x8 + x10.1))⟩ : S48)] : List S48)).flatMap e48)), (0, [(.sl false x13.2.f0.length 1 (x13.2.f0.flatMap encU)), (I x13.2.f1), (I x13.2.f2)]), (256, [(I a1.f0), (.sl true a1.f1.length 4 (a1.f1.flatMap e84))]), (257, [(S ByteArray.empty), nilS]), (515, [(S x1.1), (.rf 3008241 0 ((x5 ++ ([(⟨x7, x8, (wrap64 (x8 + x10.1))⟩ : S48)] : List S48)).length) 3 ((x5 ++ ([(⟨x7, x8, (wrap64 (x8 + x10.1))⟩ : S48)] : List S48)).length * 3))]), (2310, (([(⟨x7, x8, (wrap64 (x8 + x10.1))⟩ : S48)] : List S48).flatMap e48)), (1003075, (x13.1.flatMap encI))], [], []⟩ [l_ 250, b_ 0, c_ 63] aln nocal ?_
            refine .wk' [] [(3008241, 3008241), (0, 0), (256, 256), (257, 257), (515, 515)] [(0, (.pt 0 0 3)), (4, (.pt 256 0 2)), (6, (.pt 257 0 2)), (7, (.pt 515 0 2)), (8, (I ((wrap64 ((wrap64 (x7 + 1)) + x12.1)).tmod a1.f0))), (9, (I (wrap64 ((wrap64 ((wrap64 (x8 + x10.1)) + 2)) + x11.1)))), (10, (I (wrap64 (x9 - 1))))] [(3008241, ((x5 ++ ([(⟨x7, x8, (wrap64 (x8 + x10.1))⟩ : S48)] : List S48)).flatMap e48)), (0, [(.sl false x13.2.f0.length 1 (x13.2.f0.flatMap encU)), (I x13.2.f1), (I x13.2.f2)]), (256, [(I a1.f0), (.sl true a1.f1.length 4 (a1.f1.flatMap e84))]), (257, [(S ByteArray.empty), nilS]), (515, [(S x1.1), (.rf 3008241 0 ((x5 ++ ([(⟨x7, x8, (wrap64 (x8 + x10.1))⟩ : S48)] : List S48)).length) 3 ((x5 ++ ([(⟨x7, x8, (wrap64 (x8 + x10.1))⟩ : S48)] : List S48)).length * 3))])] (shc 3008241 (rowF e48_ok _) (shc 0 (a2c (.z (frz_sl encU_ok (fun h => h))) (a2c (.z .s) (a2c (.z .s) a2n))) (shc 256 (a2c (.z .s) (a2c (.z (frz_sl e84_ok (fun h => h))) a2n)) (shc 257 (a2c (.z .s) (a2c (.z .s) a2n)) (shc 515 (a2c (.z .s) (a2c (.rf (memP_mem (p := (3008241, 3008241)) rfl)) a2n)) shn))))) (enc_ (.pt (memP_mem (p := (0, 0)) rfl)) (enc_ (.pt (memP_mem (p := (256, 256)) rfl)) (enc_ (.pt (memP_mem (p := (257, 257)) rfl)) (enc_ (.pt (memP_mem (p := (515, 515)) rfl)) (enc_ (.z .s) (enc_ (.z .s) (enc_ (.z .s) enn))))))) ?_
            exact ih0 a1 x1 (x5 ++ ([(⟨x7, x8, (wrap64 (x8 + x10.1))⟩ : S48)] : List S48)) x13.2 ((wrap64 ((wrap64 (x7 + 1)) + x12.1)).tmod a1.f0) (wrap64 ((wrap64 ((wrap64 (x8 + x10.1)) + 2)) + x11.1)) (wrap64 (x9 - 1)) _ h
        · rw [if_neg c3] at h
          cases h
      · rw [if_neg c2] at h
        cases h
    · rw [if_neg c1] at h
      refine .cond' (.tmp 29) false [c_ 126, c_ 127] (bF (dF c1)) ?_
      refine .reg' [6] [] ⟨[(6, (.pt 257 0 2))], [(3008241, (x5.flatMap e48)), (0, [(.sl false x6.f0.length 1 (x6.f0.flatMap encU)), (I x6.f1), (I x6.f2)]), (256, [(I a1.f0), (.sl true a1.f1.length 4 (a1.f1.flatMap e84))]), (257, [(S x1.1), (.rf 3008241 0 x5.length 3 (x5.length * 3))]), (515, [(S x1.1), (.rf 3008241 0 x5.length 3 (x5.length * 3))])], [2 = 2 ∧ 0 + 2 ≤ 2, 2 = 2 ∧ 0 + 2 ≤ 2], []⟩ [c_ 127] (alc ⟨rfl, by decide⟩ (alc ⟨rfl, by decide⟩ aln)) nocal ?_
      have h := Option.some.inj h
      subst h
      exact .fin' [] [(0, 0), (3008241, 3008241)] (.ag [(S x1.1), (.rf 3008241 0 x5.length 3 (x5.length * 3))]) [2 = 2 ∧ 0 + 2 ≤ 2] (alc ⟨rfl, by decide⟩ aln) (shc 0 (a2c (.z (frz_sl encU_ok (fun h => h))) (a2c (.z .s) (a2c (.z .s) a2n))) (shc 3008241 (rowF e48_ok _) shn)) (cnv_ag (a2c (.z .s) (a2c (.rf (memP_mem (p := (3008241, 3008241)) rfl)) a2n)))
theorem spec_l08DrawTrip.J (k : Nat) (a0 : S77) (a1 : S68) (a2 : Int) (r : (S28 × S77)) (h : spec_l08DrawTrip.f k a0 a1 a2 = some r) : J prog (.call 53 [(.pt 0 0 3), (.ag [(I a1.f0), (.sl true a1.f1.length 4 (a1.f1.flatMap e84))]), (I a2)] [(0, [(.sl false a0.f0.length 1 (a0.f0.flatMap encU)), (I a0.f1), (I a0.f2)])] (.ag [(S r.1.f0), (.rf 3008241 0 r.1.f1.length 3 (r.1.f1.length * 3))]) [(0, [(.sl false r.2.f0.length 1 (r.2.f0.flatMap encU)), (I r.2.f1), (I r.2.f2)]), (3008241, (r.1.f1.flatMap e48))]) := by
  unfold spec_l08DrawTrip.f at h
  have ih0 := spec_l08DrawTrip.lab k
  refine .call' [c_ 2, c_ 3] ?_
  refine .reg' [0, 2, 4, 6] [] ⟨[(0, (.pt 0 0 3)), (2, (I a2)), (4, (.pt 256 0 2)), (6, (.pt 257 0 2))], [(0, [(.sl false a0.f0.length 1 (a0.f0.flatMap encU)), (I a0.f1), (I a0.f2)]), (256, [(I a1.f0), (.sl true a1.f1.length 4 (a1.f1.flatMap e84))]), (257, [(S ByteArray.empty), nilS])], [], []⟩ [c_ 6, c_ 7] aln nocal ?_
  obtain ⟨x1, hx1, h⟩ := Option.bind_eq_some_iff.mp h
  refine .reg' [0, 2, 4, 6, 7] [.no, .c ⟨65, [(.pt 0 0 3)], [(0, [(.sl false a0.f0.length 1 (a0.f0.flatMap encU)), (I a0.f1), (I a0.f2)])], (S x1.1), [(0, [(.sl false x1.2.f0.length 1 (x1.2.f0.flatMap encU)), (I x1.2.f1), (I x1.2.f2)])], [], [(0, 0)], [(0, 0)], (S x1.1), [(0, [(.sl false x1.2.f0.length 1 (x1.2.f0.flatMap encU)), (I x1.2.f1), (I x1.2.f2)])]⟩] ⟨[(0, (.pt 0 0 3)), (2, (I a2)), (4, (.pt 256 0 2)), (6, (.pt 257 0 2)), (7, (.pt 515 0 2))], [(0, [(.sl false x1.2.f0.length 1 (x1.2.f0.flatMap encU)), (I x1.2.f1), (I x1.2.f2)]), (256, [(I a1.f0), (.sl true a1.f1.length 4 (a1.f1.flatMap e84))]), (257, [(S ByteArray.empty), nilS]), (515, [(S x1.1), nilS])], [COK (hget [(0, [(.sl false a0.f0.length 1 (a0.f0.flatMap encU)), (I a0.f1), (I a0.f2)]), (256, [(I a1.f0), (.sl true a1.f1.length 4 (a1.f1.flatMap e84))]), (257, [(S ByteArray.empty), nilS])]) [(.pt 0 0 3)] ⟨65, [(.pt 0 0 3)], [(0, [(.sl false a0.f0.length 1 (a0.f0.flatMap encU)), (I a0.f1), (I a0.f2)])], (S x1.1), [(0, [(.sl false x1.2.f0.length 1 (x1.2.f0.flatMap encU)), (I x1.2.f1), (I x1.2.f2)])], [], [(0, 0)], [(0, 0)], (S x1.1), [(0, [(.sl false x1.2.f0.length 1 (x1.2.f0.flatMap encU)), (I x1.2.f1), (I x1.2.f2)])]⟩, 2 = 2 ∧ 0 + 2 ≤ 2], [⟨65, [(.pt 0 0 3)], [(0, [(.sl false a0.f0.length 1 (a0.f0.flatMap encU)), (I a0.f1), (I a0.f2)])], (S x1.1), [(0, [(.sl false x1.2.f0.length 1 (x1.2.f0.flatMap encU)), (I x1.2.f1), (I x1.2.f2)])], [], [(0, 0)], [(0, 0)], (S x1.1), [(0, [(.sl false x1.2.f0.length 1 (x1.2.f0.flatMap encU)), (I x1.2.f1), (I x1.2.f2)])]⟩]⟩ [c_ 14, c_ 15] (alc (cokW false (a2c (.pt (memP_mem (p := (0, 0)) rfl)) a2n) (akc ⟨_, _, rfl, rfl, (a2c (.z (frz_sl encU_ok (fun h => h))) (a2c (.z .s) (a2c (.z .s) a2n)))⟩ akn) (akc (.inl rfl) akn) (.z .s) (akc ⟨_, _, rfl, rfl, (a2c (.z (clnS encU_c (fun h => absurd h (by decide)))) (a2c (.z .s) (a2c (.z .s) a2n)))⟩ akn) (fun h => absurd h (by decide))) (alc ⟨rfl, by decide⟩ aln)) (acal (spec_l08DrawName.J k a0 _ hx1) nocal) ?_
  obtain ⟨x2, hx2, h⟩ := Option.bind_eq_some_iff.mp h
  refine .reg' [0, 2, 4, 6, 7, 8] [.no, .no, .no, .c ⟨66, [(.pt 0 0 3), (I a1.f0)], [(0, [(.sl false x1.2.f0.length 1 (x1.2.f0.flatMap encU)), (I x1.2.f1), (I x1.2.f2)])], (I x2.1), [(0, [(.sl false x2.2.f0.length 1 (x2.2.f0.flatMap encU)), (I x2.2.f1), (I x2.2.f2)])], [], [(0, 0)], [(0, 0)], (I x2.1), [(0, [(.sl false x2.2.f0.length 1 (x2.2.f0.flatMap encU)), (I x2.2.f1), (I x2.2.f2)])]⟩] ⟨[(0, (.pt 0 0 3)), (2, (I a2)), (4, (.pt 256 0 2)), (6, (.pt 257 0 2)), (7, (.pt 515 0 2)), (8, (I x2.1))], [(0, [(.sl false x2.2.f0.length 1 (x2.2.f0.flatMap encU)), (I x2.2.f1), (I x2.2.f2)]), (256, [(I a1.f0), (.sl true a1.f1.length 4 (a1.f1.flatMap e84))]), (257, [(S ByteArray.empty), nilS]), (515, [(S x1.1), nilS])], [2 = 2 ∧ 0 + 1 ≤ 2, COK (hget [(0, [(.sl false x1.2.f0.length 1 (x1.2.f0.flatMap encU)), (I x1.2.f1), (I x1.2.f2)]), (256, [(I a1.f0), (.sl true a1.f1.length 4 (a1.f1.flatMap e84))]), (257, [(S ByteArray.empty), nilS]), (515, [(S x1.1), nilS])]) [(.pt 0 0 3), (I a1.f0)] ⟨66, [(.pt 0 0 3), (I a1.f0)], [(0, [(.sl false x1.2.f0.length 1 (x1.2.f0.flatMap encU)), (I x1.2.f1), (I x1.2.f2)])], (I x2.1), [(0, [(.sl false x2.2.f0.length 1 (x2.2.f0.flatMap encU)), (I x2.2.f1), (I x2.2.f2)])], [], [(0, 0)], [(0, 0)], (I x2.1), [(0, [(.sl false x2.2.f0.length 1 (x2.2.f0.flatMap encU)), (I x2.2.f1), (I x2.2.f2)])]⟩], [⟨66, [(.pt 0 0 3), (I a1.f0)], [(0, [(.sl false x1.2.f0.length 1 (x1.2.f0.flatMap encU)), (I x1.2.f1), (I x1.2.f2)])], (I x2.1), [(0, [(.sl false x2.2.f0.length 1 (x2.2.f0.flatMap encU)), (I x2.2.f1), (I x2.2.f2)])], [], [(0, 0)], [(0, 0)], (I x2.1), [(0, [(.sl false x2.2.f0.length 1 (x2.2.f0.flatMap encU)), (I x2.2.f1), (I x2.2.f2)])]⟩]⟩ [c_ 30, c_ 31] (alc ⟨rfl, by decide⟩ (alc (cokW false (a2c (.pt (memP_mem (p := (0, 0)) rfl)) (a2c (.z .s) a2n)) (akc ⟨_, _, rfl, rfl, (a2c (.z (frz_sl encU_ok (fun h => h))) (a2c (.z .s) (a2c (.z .s) a2n)))⟩ akn) (akc (.inl rfl) akn) (.z .s) (akc ⟨_, _, rfl, rfl, (a2c (.z (clnS encU_c (fun h => absurd h (by decide)))) (a2c (.z .s) (a2c (.z .s) a2n)))⟩ akn) (fun h => absurd h (by decide))) aln)) (acal (spec_l01Below.J x1.2 a1.f0 _ hx2) nocal) ?_
  obtain ⟨x3, hx3, h⟩ := Option.bind_eq_some_iff.mp h
  refine .reg' [0, 2, 4, 6, 7, 8, 9] [.no, .c ⟨66, [(.pt 0 0 3), (I 120)], [(0, [(.sl false x2.2.f0.length 1 (x2.2.f0.flatMap encU)), (I x2.2.f1), (I x2.2.f2)])], (I x3.1), [(0, [(.sl false x3.2.f0.length 1 (x3.2.f0.flatMap encU)), (I x3.2.f1), (I x3.2.f2)])], [], [(0, 0)], [(0, 0)], (I x3.1), [(0, [(.sl false x3.2.f0.length 1 (x3.2.f0.flatMap encU)), (I x3.2.f1), (I x3.2.f2)])]⟩] ⟨[(0, (.pt 0 0 3)), (2, (I a2)), (4, (.pt 256 0 2)), (6, (.pt 257 0 2)), (7, (.pt 515 0 2)), (8, (I x2.1)), (9, (I x3.1))], [(0, [(.sl false x3.2.f0.length 1 (x3.2.f0.flatMap encU)), (I x3.2.f1), (I x3.2.f2)]), (256, [(I a1.f0), (.sl true a1.f1.length 4 (a1.f1.flatMap e84))]), (257, [(S ByteArray.empty), nilS]), (515, [(S x1.1), nilS])], [COK (hget [(0, [(.sl false x2.2.f0.length 1 (x2.2.f0.flatMap encU)), (I x2.2.f1), (I x2.2.f2)]), (256, [(I a1.f0), (.sl true a1.f1.length 4 (a1.f1.flatMap e84))]), (257, [(S ByteArray.empty), nilS]), (515, [(S x1.1), nilS])]) [(.pt 0 0 3), (I 120)] ⟨66, [(.pt 0 0 3), (I 120)], [(0, [(.sl false x2.2.f0.length 1 (x2.2.f0.flatMap encU)), (I x2.2.f1), (I x2.2.f2)])], (I x3.1), [(0, [(.sl false x3.2.f0.length 1 (x3.2.f0.flatMap encU)), (I x3.2.f1), (I x3.2.f2)])], [], [(0, 0)], [(0, 0)], (I x3.1), [(0, [(.sl false x3.2.f0.length 1 (x3.2.f0.flatMap encU)), (I x3.2.f1), (I x3.2.f2)])]⟩], [⟨66, [(.pt 0 0 3), (I 120)], [(0, [(.sl false x2.2.f0.length 1 (x2.2.f0.flatMap encU)), (I x2.2.f1), (I x2.2.f2)])], (I x3.1), [(0, [(.sl false x3.2.f0.length 1 (x3.2.f0.flatMap encU)), (I x3.2.f1), (I x3.2.f2)])], [], [(0, 0)], [(0, 0)], (I x3.1), [(0, [(.sl false x3.2.f0.length 1 (x3.2.f0.flatMap encU)), (I x3.2.f1), (I x3.2.f2)])]⟩]⟩ [c_ 124, c_ 125, c_ 63] (alc (cokW false (a2c (.pt (memP_mem (p := (0, 0)) rfl)) (a2c (.z .s) a2n)) (akc ⟨_, _, rfl, rfl, (a2c (.z (frz_sl encU_ok (fun h => h))) (a2c (.z .s) (a2c (.z .s) a2n)))⟩ akn) (akc (.inl rfl) akn) (.z .s) (akc ⟨_, _, rfl, rfl, (a2c (.z (clnS encU_c (fun h => absurd h (by decide)))) (a2c (.z .s) (a2c (.z .s) a2n)))⟩ akn) (fun h => absurd h (by decide))) aln) (acal (spec_l01Below.J x2.2 120 _ hx3) nocal) ?_
  obtain ⟨x4, hx4, h⟩ := Option.bind_eq_some_iff.mp h
  refine .reg' [0, 4, 6, 7, 8, 9, 10] [.no, .no, .no, .c ⟨66, [(.pt 0 0 3), (I (wrap64 (a2 - 1)))], [(0, [(.sl false x3.2.f0.length 1 (x3.2.f0.flatMap encU)), (I x3.2.f1), (I x3.2.f2)])], (I x4.1), [(0, [(.sl false x4.2.f0.length 1 (x4.2.f0.flatMap encU)), (I x4.2.f1), (I x4.2.f2)])], [], [(0, 0)], [(0, 0)], (I x4.1), [(0, [(.sl false x4.2.f0.length 1 (x4.2.f0.flatMap encU)), (I x4.2.f1), (I x4.2.f2)])]⟩] ⟨[(0, (.pt 0 0 3)), (4, (.pt 256 0 2)), (6, (.pt 257 0 2)), (7, (.pt 515 0 2)), (8, (I x2.1)), (9, (I x3.1)), (10, (I (wrap64 (2 + x4.1))))], [(0, [(.sl false x4.2.f0.length 1 (x4.2.f0.flatMap encU)), (I x4.2.f1), (I x4.2.f2)]), (256, [(I a1.f0), (.sl true a1.f1.length 4 (a1.f1.flatMap e84))]), (257, [(S ByteArray.empty), nilS]), (515, [(S x1.1), nilS])], [COK (hget [(0, [(.sl false x3.2.f0.length 1 (x3.2.f0.flatMap encU)), (I x3.2.f1), (I x3.2.f2)]), (256, [(I a1.f0), (.sl true a1.f1.length 4 (a1.f1.flatMap e84))]), (257, [(S ByteArray.empty), nilS]), (515, [(S x1.1), nilS])]) [(.pt 0 0 3), (I (wrap64 (a2 - 1)))] ⟨66, [(.pt 0 0 3), (I (wrap64 (a2 - 1)))], [(0, [(.sl false x3.2.f0.length 1 (x3.2.f0.flatMap encU)), (I x3.2.f1), (I x3.2.f2)])], (I x4.1), [(0, [(.sl false x4.2.f0.length 1 (x4.2.f0.flatMap encU)), (I x4.2.f1), (I x4.2.f2)])], [], [(0, 0)], [(0, 0)], (I x4.1), [(0, [(.sl false x4.2.f0.length 1 (x4.2.f0.flatMap encU)), (I x4.2.f1), (I x4.2.f2)])]⟩], [⟨66, [(.pt 0 0 3), (I (wrap64 (a2 - 1)))], [(0, [(.sl false x3.2.f0.length 1 (x3.2.f0.flatMap encU)), (I x3.2.f1), (I x3.2.f2)])], (I x4.1), [(0, [(.sl false x4.2.f0.length 1 (x4.2.f0.flatMap encU)), (I x4.2.f1), (I x4.2.f2)])], [], [(0, 0)], [(0, 0)], (I x4.1), [(0, [(.sl false x4.2.f0.length 1 (x4.2.f0.flatMap encU)), (I x4.2.f1), (I x4.2.f2)])]⟩]⟩ [l_ 250, b_ 0, c_ 63] (alc (cokW false (a2c (.pt (memP_mem (p := (0, 0)) rfl)) (a2c (.z .s) a2n)) (akc ⟨_, _, rfl, rfl, (a2c (.z (frz_sl encU_ok (fun h => h))) (a2c (.z .s) (a2c (.z .s) a2n)))⟩ akn) (akc (.inl rfl) akn) (.z .s) (akc ⟨_, _, rfl, rfl, (a2c (.z (clnS encU_c (fun h => absurd h (by decide)))) (a2c (.z .s) (a2c (.z .s) a2n)))⟩ akn) (fun h => absurd h (by decide))) aln) (acal (spec_l01Below.J x3.2 (wrap64 (a2 - 1)) _ hx4) nocal) ?_
  refine .nl' 3008241 ?_
  refine .wk' [] [(3008241, 3008241), (0, 0), (256, 256), (257, 257), (515, 515)] [(0, (.pt 0 0 3)), (4, (.pt 256 0 2)), (6, (.pt 257 0 2)), (7, (.pt 515 0 2)), (8, (I x2.1)), (9, (I x3.1)), (10, (I (wrap64 (2 + x4.1))))] [(3008241, (([] : List S48).flatMap e48)), (0, [(.sl false x4.2.f0.length 1 (x4.2.f0.flatMap encU)), (I x4.2.f1), (I x4.2.f2)]), (256, [(I a1.f0), (.sl true a1.f1.length 4 (a1.f1.flatMap e84))]), (257, [(S ByteArray.empty), nilS]), (515, [(S x1.1), (.rf 3008241 0 (([] : List S48).length) 3 (([] : List S48).length * 3))])] (shc 3008241 (rowF e48_ok _) (shc 0 (a2c (.z (frz_sl encU_ok (fun h => h))) (a2c (.z .s) (a2c (.z .s) a2n))) (shc 256 (a2c (.z .s) (a2c (.z (frz_sl e84_ok (fun h => h))) a2n)) (shc 257 (a2c (.z .s) (a2c (.z .s) a2n)) (shc 515 (a2c (.z .s) (a2c (.nl (memP_mem (p := (3008241, 3008241)) rfl) rfl) a2n)) shn))))) (enc_ (.pt (memP_mem (p := (0, 0)) rfl)) (enc_ (.pt (memP_mem (p := (256, 256)) rfl)) (enc_ (.pt (memP_mem (p := (257, 257)) rfl)) (enc_ (.pt (memP_mem (p := (515, 515)) rfl)) (enc_ (.z .s) (enc_ (.z .s) (enc_ (.z .s) enn))))))) ?_
  exact ih0 a1 x1 ([] : List S48) x4.2 x2.1 x3.1 (wrap64 (2 + x4.1)) _ h
/-! spec_DrawRightTrip: function 23 -/
def spec_DrawRightTrip.f (k : Nat) (a0 : (List Int)) : Option S28 := ((spec_l01New.f k a0).bind fun x1 => ((spec_l08DrawTrip.f k x1 (⟨6, ([] : List S84)⟩ : S68) 5).bind fun x2 => (some x2.1)))
theorem spec_DrawRightTrip.J (k : Nat) (a0 : (List Int)) (r : S28) (h : spec_DrawRightTrip.f k a0 = some r) : J prog (.call 23 [(.sl false a0.length 1 (a0.flatMap encU))] [] (.ag [(S r.f0), (.rf 1000770 0 r.f1.length 3 (r.f1.length * 3))]) [(1000770, (r.f1.flatMap e48))]) := by
  unfold spec_DrawRightTrip.f at h
  refine .call' [c_ 2, c_ 3] ?_
  refine .reg' [0, 2] [] ⟨[(0, (.sl false a0.length 1 (a0.flatMap encU))), (2, (.pt 256 0 2))], [(256, [(S ByteArray.empty), nilS])], [], []⟩ [c_ 6, c_ 7] aln nocal ?_
  obtain ⟨x1, hx1, h⟩ := Option.bind_eq_some_iff.mp h
  refine .reg' [2, 3] [.no, .c ⟨52, [(.sl false a0.length 1 (a0.flatMap encU))], [], (.pt 1795 0 3), [(1795, [(.sl false x1.f0.length 1 (x1.f0.flatMap encU)), (I x1.f1), (I x1.f2)])], [], [], [(1000513, 1795)], (.pt 1000513 0 3), [(1000513, [(.sl false x1.f0.length 1 (x1.f0.flatMap encU)), (I x1.f1), (I x1.f2)])]⟩] ⟨[(2, (.pt 256 0 2)), (3, (.pt 1000513 0 3))], [(256, [(S ByteArray.empty), nilS]), (1000513, [(.sl false x1.f0.length 1 (x1.f0.flatMap encU)), (I x1.f1), (I x1.f2)])], [COK (hget [(256, [(S ByteArray.empty), nilS])]) [(.sl false a0.length 1 (a0.flatMap encU))] ⟨52, [(.sl false a0.length 1 (a0.flatMap encU))], [], (.pt 1795 0 3), [(1795, [(.sl false x1.f0.length 1 (x1.f0.flatMap encU)), (I x1.f1), (I x1.f2)])], [], [], [(1000513, 1795)], (.pt 1000513 0 3), [(1000513, [(.sl false x1.f0.length 1 (x1.f0.flatMap encU)), (I x1.f1), (I x1.f2)])]⟩], [⟨52, [(.sl false a0.length 1 (a0.flatMap encU))], [], (.pt 1795 0 3), [(1795, [(.sl false x1.f0.length 1 (x1.f0.flatMap encU)), (I x1.f1), (I x1.f2)])], [], [], [(1000513, 1795)], (.pt 1000513 0 3), [(1000513, [(.sl false x1.f0.length 1 (x1.f0.flatMap encU)), (I x1.f1), (I x1.f2)])]⟩]⟩ [c_ 14, c_ 15] (alc (cokW false (a2c (.z (frz_sl encU_ok (fun h => h))) a2n) akn (akc (.inr rfl) akn) (.pt (memP_mem (p := (1000513, 1795)) rfl)) (akc ⟨_, _, rfl, rfl, (a2c (.z (clnS encU_c (fun h => absurd h (by decide)))) (a2c (.z .s) (a2c (.z .s) a2n)))⟩ akn) (fun h => absurd h (by decide))) aln) (acal (spec_l01New.J k a0 _ hx1) nocal) ?_
  obtain ⟨x2, hx2, h⟩ := Option.bind_eq_some_iff.mp h
  refine .reg' [2] [.no, .no, .c ⟨53, [(.pt 0 0 3), (.ag [(I 6), (.sl true (⟨6, ([] : List S84)⟩ : S68).f1.length 4 ((⟨6, ([] : List S84)⟩ : S68).f1.flatMap e84))]), (I 5)], [(0, [(.sl false x1.f0.length 1 (x1.f0.flatMap encU)), (I x1.f1), (I x1.f2)])], (.ag [(S x2.1.f0), (.rf 3008241 0 x2.1.f1.length 3 (x2.1.f1.length * 3))]), [(0, [(.sl false x2.2.f0.length 1 (x2.2.f0.flatMap encU)), (I x2.2.f1), (I x2.2.f2)]), (3008241, (x2.1.f1.flatMap e48))], [], [(1000513, 0)], [(1000513, 0), (1000770, 3008241)], (.ag [(S x2.1.f0), (.rf 1000770 0 x2.1.f1.length 3 (x2.1.f1.length * 3))]), [(1000513, [(.sl false x2.2.f0.length 1 (x2.2.f0.flatMap encU)), (I x2.2.f1), (I x2.2.f2)]), (1000770, (x2.1.f1.flatMap e48))]⟩] ⟨[(2, (.pt 256 0 2))], [(256, [(S x2.1.f0), (.rf 1000770 0 x2.1.f1.length 3 (x2.1.f1.length * 3))]), (1000513, [(.sl false x2.2.f0.length 1 (x2.2.f0.flatMap encU)), (I x2.2.f1), (I x2.2.f2)]), (1000770, (x2.1.f1.flatMap e48))], [COK (hget [(256, [(S ByteArray.empty), nilS]), (1000513, [(.sl false x1.f0.length 1 (x1.f0.flatMap encU)), (I x1.f1), (I x1.f2)])]) [(.pt 1000513 0 3), (.ag [(I 6), nilS]), (I 5)] ⟨53, [(.pt 0 0 3), (.ag [(I 6), (.sl true (⟨6, ([] : List S84)⟩ : S68).f1.length 4 ((⟨6, ([] : List S84)⟩ : S68).f1.flatMap e84))]), (I 5)], [(0, [(.sl false x1.f0.length 1 (x1.f0.flatMap encU)), (I x1.f1), (I x1.f2)])], (.ag [(S x2.1.f0), (.rf 3008241 0 x2.1.f1.length 3 (x2.1.f1.length * 3))]), [(0, [(.sl false x2.2.f0.length 1 (x2.2.f0.flatMap encU)), (I x2.2.f1), (I x2.2.f2)]), (3008241, (x2.1.f1.flatMap e48))], [], [(1000513, 0)], [(1000513, 0), (1000770, 3008241)], (.ag [(S x2.1.f0), (.rf 1000770 0 x2.1.f1.length 3 (x2.1.f1.length * 3))]), [(1000513, [(.sl false x2.2.f0.length 1 (x2.2.f0.flatMap encU)), (I x2.2.f1), (I x2.2.f2)]), (1000770, (x2.1.f1.flatMap e48))]⟩, 2 = 2 ∧ 0 + 2 ≤ 2], [⟨53, [(.pt 0 0 3), (.ag [(I 6), (.sl true (⟨6, ([] : List S84)⟩ : S68).f1.length 4 ((⟨6, ([] : List S84)⟩ : S68).f1.flatMap e84))]), (I 5)], [(0, [(.sl false x1.f0.length 1 (x1.f0.flatMap encU)), (I x1.f1), (I x1.f2)])], (.ag [(S x2.1.f0), (.rf 3008241 0 x2.1.f1.length 3 (x2.1.f1.length * 3))]), [(0, [(.sl false x2.2.f0.length 1 (x2.2.f0.flatMap encU)), (I x2.2.f1), (I x2.2.f2)]), (3008241, (x2.1.f1.flatMap e48))], [], [(1000513, 0)], [(1000513, 0), (1000770, 3008241)], (.ag [(S x2.1.f0), (.rf 1000770 0 x2.1.f1.length 3 (x2.1.f1.length * 3))]), [(1000513, [(.sl false x2.2.f0.length 1 (x2.2.f0.flatMap encU)), (I x2.2.f1), (I x2.2.f2)]), (1000770, (x2.1.f1.flatMap e48))]⟩]⟩ [c_ 15] (alc (cokW false (a2c (.pt (memP_mem (p := (1000513, 0)) rfl)) (a2c (.z (frz_ag (a2c .s (a2c .nil a2n)))) (a2c (.z .s) a2n))) (akc ⟨_, _, rfl, rfl, (a2c (.z (frz_sl encU_ok (fun h => h))) (a2c (.z .s) (a2c (.z .s) a2n)))⟩ akn) (akc (.inl rfl) (akc (.inr rfl) akn)) (bck_ag (a2c (.z .s) (a2c (.rf (memP_mem (p := (1000770, 3008241)) rfl)) a2n))) (akc ⟨_, _, rfl, rfl, (a2c (.z (clnS encU_c (fun h => absurd h (by decide)))) (a2c (.z .s) (a2c (.z .s) a2n)))⟩ (akc ⟨_, _, rfl, rfl, rowB e48_c _⟩ akn)) (fun h => absurd h (by decide))) (alc ⟨rfl, by decide⟩ aln)) (acal (spec_l08DrawTrip.J k x1 (⟨6, ([] : List S84)⟩ : S68) 5 _ hx2) nocal) ?_
  have h := Option.some.inj h
  subst h
  exact .fin' [] [(1000770, 1000770)] (.ag [(S x2.1.f0), (.rf 1000770 0 x2.1.f1.length 3 (x2.1.f1.length * 3))]) [2 = 2 ∧ 0 + 2 ≤ 2] (alc ⟨rfl, by decide⟩ aln) (shc 1000770 (rowF e48_ok _) shn) (cnv_ag (a2c (.z .s) (a2c (.rf (memP_mem (p := (1000770, 1000770)) rfl)) a2n)))
/-! impl_nameOk: function 54 -/
def impl_nameOk.l0 : Nat → ByteArray → Int → Option Bool
 | 0, _, _ => none
 | k + 1, a0, x1 => (if x1 < (a0.size : Int) then (if 0 ≤ x1 then (if (bt a0 x1) < 97 then (if (bt a0 x1) < 48 then (some false) else (if (bt a0 x1) > 57 then (some false) else (impl_nameOk.l0 k a0 (wrap64 (x1 + 1))))) else (if (bt a0 x1) > 122 then (if (bt a0 x1) < 48 then (some false) else (if (bt a0 x1) > 57 then (some false) else (impl_nameOk.l0 k a0 (wrap64 (x1 + 1))))) else (impl_nameOk.l0 k a0 (wrap64 (x1 + 1))))) else none) else (some true))
def impl_nameOk.f (k : Nat) (a0 : ByteArray) : Option Bool := (if (a0.size : Int) < 1 then (some false) else (if (a0.size : Int) > 12 then (some false) else (impl_nameOk.l0 k a0 0)))
theorem impl_nameOk.lab : ∀ k, (∀ (a0 : ByteArray) (x1 : Int) (r : Bool), impl_nameOk.l0 k a0 x1 = some r → J prog (.run 54 [] [l_ 58, b_ 0, c_ 15] [(0, (S a0)), (3, (I x1))] [] (B r) []))
 | 0 => (by intro a0 x1 r h; unfold impl_nameOk.l0 at h; cases h)
 | k + 1 => by
  have ih0 := impl_nameOk.lab k
  · intro a0 x1 r h
    unfold impl_nameOk.l0 at h
    refine .loop' [c_ 464, c_ 465, c_ 233, l_ 58, b_ 0, c_ 15] ?_
    refine .reg' [0, 3, 15] [] ⟨[(0, (S a0)), (3, (I x1)), (15, (B (decide (x1 < (a0.size : Int)))))], [], [], []⟩ [c_ 465, c_ 233, l_ 58, b_ 0, c_ 15] aln nocal ?_
    by_cases c3 : x1 < (a0.size : Int)
    · rw [if_pos c3] at h
      refine .cond' (.tmp 15) true [c_ 1864, c_ 1865, b_ 1, c_ 467, l_ 58, b_ 0, c_ 15] (bT (dT c3)) ?_
      by_cases c4 : 0 ≤ x1
      · rw [if_pos c4] at h
        by_cases c5 : (bt a0 x1) < 97
        · rw [if_pos c5] at h
          by_cases c6 : (bt a0 x1) < 48
          · rw [if_pos c6] at h
            refine .reg' [0, 3, 39] [.no, .no, .no, .no, .v (B true), .no, .no, .no, .no, .no, .no, .no, .no, .no, .no, .v (B true)] ⟨[(0, (S a0)), (3, (I x1)), (39, (B true))], [], [(0 : Int) ≤ x1 ∧ x1 < (a0.size : Int), (B (decide ((bt a0 x1) < 97)) : V) = B true, (0 : Int) ≤ x1 ∧ x1 < (a0.size : Int), (B (decide ((bt a0 x1) < 48)) : V) = B true], []⟩ [c_ 1865, b_ 1, c_ 467, l_ 58, b_ 0, c_ 15] (alc ⟨c4, c3⟩ (alc (bT (dT c5)) (alc ⟨c4, c3⟩ (alc (bT (dT c6)) aln)))) nocal ?_
            refine .cond' (.tmp 39) true [c_ 7460, c_ 7461, b_ 1, c_ 467, l_ 58, b_ 0, c_ 15] (rfl) ?_
            refine .reg' [2] [] ⟨[(2, (B false))], [], [], []⟩ [c_ 7461, b_ 1, c_ 467, l_ 58, b_ 0, c_ 15] aln nocal ?_
            have h := Option.some.inj h
            subst h
            exact .fin0 [] (B false) [] aln (.z .s)
          · rw [if_neg c6] at h
            refine .reg' [0, 3, 39] [.no, .no, .no, .no, .v (B true), .no, .no, .no, .no, .no, .no, .no, .no, .no, .no, .v (B false)] ⟨[(0, (S a0)), (3, (I x1)), (39, (B (decide ((bt a0 x1) > 57))))], [], [(0 : Int) ≤ x1 ∧ x1 < (a0.size : Int), (B (decide ((bt a0 x1) < 97)) : V) = B true, (0 : Int) ≤ x1 ∧ x1 < (a0.size : Int), (B (decide ((bt a0 x1) < 48)) : V) = B false, (0 : Int) ≤ x1 ∧ x1 < (a0.size : Int)], []⟩ [c_ 1865, b_ 1, c_ 467, l_ 58, b_ 0, c_ 15] (alc ⟨c4, c3⟩ (alc (bT (dT c5)) (alc ⟨c4, c3⟩ (alc (bF (dF c6)) (alc ⟨c4, c3⟩ aln))))) nocal ?_
            by_cases c7 : (bt a0 x1) > 57
            · rw [if_pos c7] at h
              refine .cond' (.tmp 39) true [c_ 7460, c_ 7461, b_ 1, c_ 467, l_ 58, b_ 0, c_ 15] (bT (dT c7)) ?_
              refine .reg' [2] [] ⟨[(2, (B false))], [], [], []⟩ [c_ 7461, b_ 1, c_ 467, l_ 58, b_ 0, c_ 15] aln nocal ?_
              have h := Option.some.inj h
              subst h
              exact .fin0 [] (B false) [] aln (.z .s)
            · rw [if_neg c7] at h
              refine .cond' (.tmp 39) false [c_ 467, l_ 58, b_ 0, c_ 15] (bF (dF c7)) ?_
              refine .reg' [0, 3] [] ⟨[(0, (S a0)), (3, (I (wrap64 (x1 + 1))))], [], [], []⟩ [l_ 58, b_ 0, c_ 15] aln nocal ?_
              exact ih0 a0 (wrap64 (x1 + 1)) _ h
        · rw [if_neg c5] at h
          by_cases c8 : (bt a0 x1) > 122
          · rw [if_pos c8] at h
            by_cases c9 : (bt a0 x1) < 48
            · rw [if_pos c9] at h
              refine .reg' [0, 3, 39] [.no, .no, .no, .no, .v (B false), .no, .no, .no, .no, .no, .v (B true), .no, .no, .no, .no, .v (B true)] ⟨[(0, (S a0)), (3, (I x1)), (39, (B true))], [], [(0 : Int) ≤ x1 ∧ x1 < (a0.size : Int), (B (decide ((bt a0 x1) < 97)) : V) = B false, (0 : Int) ≤ x1 ∧ x1 < (a0.size : Int), (B (decide ((bt a0 x1) > 122)) : V) = B true, (0 : Int) ≤ x1 ∧ x1 < (a0.size : Int), (B (decide ((bt a0 x1) < 48)) : V) = B true], []⟩ [c_ 1865, b_ 1, c_ 467, l_ 58, b_ 0, c_ 15] (alc ⟨c4, c3⟩ (alc (bF (dF c5)) (alc ⟨c4, c3⟩ (alc (bT (dT c8)) (alc ⟨c4, c3⟩ (alc (bT (dT c9)) aln)))))) nocal ?_
              refine .cond' (.tmp 39) true [c_ 7460, c_ 7461, b_ 1, c_ 467, l_ 58, b_ 0, c_ 15] (rfl) ?_
              refine .reg' [2] [] ⟨[(2, (B false))], [], [], []⟩ [c_ 7461, b_ 1, c_ 467, l_ 58, b_ 0, c_ 15] aln nocal ?_
              have h := Option.some.inj h
              subst h
              exact .fin0 [] (B false) [] aln (.z .s)
            · rw [if_neg c9] at h
              refine .reg' [0, 3, 39] [.no, .no, .no, .no, .v (B false), .no, .no, .no, .no, .no, .v (B true), .no, .no, .no, .no, .v (B false)] ⟨[(0, (S a0)), (3, (I x1)), (39, (B (decide ((bt a0 x1) > 57))))], [], [(0 : Int) ≤ x1 ∧ x1 < (a0.size : Int), (B (decide ((bt a0 x1) < 97)) : V) = B false, (0 : Int) ≤ x1 ∧ x1 < (a0.size : Int), (B (decide ((bt a0 x1) > 122)) : V) = B true, (0 : Int) ≤ x1 ∧ x1 < (a0.size : Int), (B (decide ((bt a0 x1) < 48)) : V) = B false, (0 : Int) ≤ x1 ∧ x1 < (a0.size : Int)], []⟩ [c_ 1865, b_ 1, c_ 467, l_ 58, b_ 0, c_ 15] (alc ⟨c4, c3⟩ (alc (bF (dF c5)) (alc ⟨c4, c3⟩ (alc (bT (dT c8)) (alc ⟨c4, c3⟩ (alc (bF (dF c9)) (alc ⟨c4, c3⟩ aln))))))) nocal ?_
              by_cases c10 : (bt a0 x1) > 57
              · rw [if_pos c10] at h
                refine .cond' (.tmp 39) true [c_ 7460, c_ 7461, b_ 1, c_ 467, l_ 58, b_ 0, c_ 15] (bT (dT c10)) ?_
                refine .reg' [2] [] ⟨[(2, (B false))], [], [], []⟩ [c_ 7461, b_ 1, c_ 467, l_ 58, b_ 0, c_ 15] aln nocal ?_
                have h := Option.some.inj h
                subst h
                exact .fin0 [] (B false) [] aln (.z .s)
              · rw [if_neg c10] at h
                refine .cond' (.tmp 39) false [c_ 467, l_ 58, b_ 0, c_ 15] (bF (dF c10)) ?_
                refine .reg' [0, 3] [] ⟨[(0, (S a0)), (3, (I (wrap64 (x1 + 1))))], [], [], []⟩ [l_ 58, b_ 0, c_ 15] aln nocal ?_
                exact ih0 a0 (wrap64 (x1 + 1)) _ h
          · rw [if_neg c8] at h
            refine .reg' [0, 3, 39] [.no, .no, .no, .no, .v (B false), .no, .no, .no, .no, .no, .v (B false)] ⟨[(0, (S a0)), (3, (I x1)), (39, (B false))], [], [(0 : Int) ≤ x1 ∧ x1 < (a0.size : Int), (B (decide ((bt a0 x1) < 97)) : V) = B false, (0 : Int) ≤ x1 ∧ x1 < (a0.size : Int), (B (decide ((bt a0 x1) > 122)) : V) = B false], []⟩ [c_ 1865, b_ 1, c_ 467, l_ 58, b_ 0, c_ 15] (alc ⟨c4, c3⟩ (alc (bF (dF c5)) (alc ⟨c4, c3⟩ (alc (bF (dF c8)) aln)))) nocal ?_
            refine .cond' (.tmp 39) false [c_ 467, l_ 58, b_ 0, c_ 15] (rfl) ?_
            refine .reg' [0, 3] [] ⟨[(0, (S a0)), (3, (I (wrap64 (x1 + 1))))], [], [], []⟩ [l_ 58, b_ 0, c_ 15] aln nocal ?_
            exact ih0 a0 (wrap64 (x1 + 1)) _ h
      · rw [if_neg c4] at h
        cases h
    · rw [if_neg c3] at h
      refine .cond' (.tmp 15) false [c_ 30, c_ 31] (bF (dF c3)) ?_
      refine .reg' [2] [] ⟨[(2, (B true))], [], [], []⟩ [c_ 31] aln nocal ?_
      have h := Option.some.inj h
      subst h
      exact .fin0 [] (B true) [] aln (.z .s)
theorem impl_nameOk.J (k : Nat) (a0 : ByteArray) (r : Bool) (h : impl_nameOk.f k a0 = some r) : J prog (.call 54 [(S a0)] [] (B r) []) := by
  unfold impl_nameOk.f at h
  have ih0 := impl_nameOk.lab k
  refine .call' [c_ 2, c_ 3] ?_
  refine .reg' [0] [] ⟨[(0, (S a0))], [], [], []⟩ [c_ 12, c_ 13, c_ 7] aln nocal ?_
  by_cases c1 : (a0.size : Int) < 1
  · rw [if_pos c1] at h
    refine .reg' [0, 11] [.no, .no, .no, .v (B true)] ⟨[(0, (S a0)), (11, (B true))], [], [(B (decide ((a0.size : Int) < 1)) : V) = B true], []⟩ [c_ 13, c_ 7] (alc (bT (dT c1)) aln) nocal ?_
    refine .cond' (.tmp 11) true [c_ 52, c_ 53, c_ 7] (rfl) ?_
    refine .reg' [2] [] ⟨[(2, (B false))], [], [], []⟩ [c_ 53, c_ 7] aln nocal ?_
    have h := Option.some.inj h
    subst h
    exact .fin0 [] (B false) [] aln (.z .s)
  · rw [if_neg c1] at h
    refine .reg' [0, 11] [.no, .no, .no, .v (B false)] ⟨[(0, (S a0)), (11, (B (decide ((a0.size : Int) > 12))))], [], [(B (decide ((a0.size : Int) < 1)) : V) = B false], []⟩ [c_ 13, c_ 7] (alc (bF (dF c1)) aln) nocal ?_
    by_cases c2 : (a0.size : Int) > 12
    · rw [if_pos c2] at h
      refine .cond' (.tmp 11) true [c_ 52, c_ 53, c_ 7] (bT (dT c2)) ?_
      refine .reg' [2] [] ⟨[(2, (B false))], [], [], []⟩ [c_ 53, c_ 7] aln nocal ?_
      have h := Option.some.inj h
      subst h
      exact .fin0 [] (B false) [] aln (.z .s)
    · rw [if_neg c2] at h
      refine .cond' (.tmp 11) false [c_ 28, c_ 29, c_ 15] (bF (dF c2)) ?_
      refine .reg' [0, 3] [] ⟨[(0, (S a0)), (3, (I 0))], [], [], []⟩ [l_ 58, b_ 0, c_ 15] aln nocal ?_
      exact ih0 a0 0 _ h
/-! impl_between: function 41 -/
def impl_between.f (a0 : Int) (a1 : Int) (a2 : Int) : Option Bool := (if a0 ≥ a1 then (some (decide (a0 ≤ a2))) else (some false))
theorem impl_between.J (a0 : Int) (a1 : Int) (a2 : Int) (r : Bool) (h : impl_between.f a0 a1 a2 = some r) : J prog (.call 41 [(I a0), (I a1), (I a2)] [] (B r) []) := by
  unfold impl_between.f at h
  refine .call' [c_ 2, c_ 3] ?_
  refine .reg' [0, 1, 2] [] ⟨[(0, (I a0)), (1, (I a1)), (2, (I a2))], [], [], []⟩ [c_ 6, c_ 7] aln nocal ?_
  by_cases c1 : a0 ≥ a1
  · rw [if_pos c1] at h
    refine .reg' [6] [.no, .no, .no, .v (B true)] ⟨[(6, (B (decide (a0 ≤ a2))))], [], [(B (decide (a0 ≥ a1)) : V) = B true], []⟩ [c_ 7] (alc (bT (dT c1)) aln) nocal ?_
    have h := Option.some.inj h
    subst h
    exact .fin0 [] (B (decide (a0 ≤ a2))) [] aln (.z .s)
  · rw [if_neg c1] at h
    refine .reg' [6] [.no, .no, .no, .v (B false)] ⟨[(6, (B false))], [], [(B (decide (a0 ≥ a1)) : V) = B false], []⟩ [c_ 7] (alc (bF (dF c1)) aln) nocal ?_
    have h := Option.some.inj h
    subst h
    exact .fin0 [] (B false) [] aln (.z .s)
/-! impl_isMinute: function 55 -/
def impl_isMinute.f (a0 : Int) : Option Bool := ((impl_between.f a0 0 100000).bind fun x1 => (some x1))
theorem impl_isMinute.J (a0 : Int) (r : Bool) (h : impl_isMinute.f a0 = some r) : J prog (.call 55 [(I a0)] [] (B r) []) := by
  unfold impl_isMinute.f at h
  refine .call' [c_ 2, c_ 3] ?_
  refine .reg' [0] [] ⟨[(0, (I a0))], [], [], []⟩ [c_ 6, c_ 7] aln nocal ?_
  obtain ⟨x1, hx1, h⟩ := Option.bind_eq_some_iff.mp h
  refine .reg' [2] [.no, .c ⟨41, [(I a0), (I 0), (I 100000)], [], (B x1), [], [], [], [], (B x1), []⟩] ⟨[(2, (B x1))], [], [COK (hget []) [(I a0), (I 0), (I 100000)] ⟨41, [(I a0), (I 0), (I 100000)], [], (B x1), [], [], [], [], (B x1), []⟩], [⟨41, [(I a0), (I 0), (I 100000)], [], (B x1), [], [], [], [], (B x1), []⟩]⟩ [c_ 7] (alc (cok0 false (a2c (.z .s) (a2c (.z .s) (a2c (.z .s) a2n))) (.z .s) (fun h => absurd h (by decide))) aln) (acal (impl_between.J a0 0 100000 _ hx1) nocal) ?_
  have h := Option.some.inj h
  subst h
  exact .fin0 [] (B x1) [] aln (.z .s)
/-! impl_TripOk: function 24 -/
def impl_TripOk.l0 : Nat → S28 → Int → Option Bool
 | 0, _, _ => none
 | k + 1, a0, x3 => (if x3 < (a0.f1.length : Int) then (if 0 ≤ x3 then ((impl_between.f ((at_ a0.f1 x3).f0) 0 29).bind fun x4 => (if x4 = true then ((impl_isMinute.f ((at_ a0.f1 x3).f1)).bind fun x5 => (if x5 = true then ((impl_isMinute.f ((at_ a0.f1 x3).f2)).bind fun x6 => (if x6 = true then (if (at_ a0.f1 x3).f1 > (at_ a0.f1 x3).f2 then (some false) else (if x3 > 0 then (if 0 ≤ (wrap64 (x3 - 1)) then (if (wrap64 (x3 - 1)) < (a0.f1.length : Int) then (if (at_ a0.f1 x3).f1 ≤ (at_ a0.f1 (wrap64 (x3 - 1))).f2 then (some false) else (if (at_ a0.f1 x3).f0 = (at_ a0.f1 (wrap64 (x3 - 1))).f0 then (some false) else (impl_TripOk.l0 k a0 (wrap64 (x3 + 1))))) else none) else none) else (impl_TripOk.l0 k a0 (wrap64 (x3 + 1))))) else (some false))) else (some false))) else (some false))) else none) else (some true))
def impl_TripOk.f (k : Nat) (a0 : S28) : Option Bool := ((impl_nameOk.f k a0.f0).bind fun x1 => (if x1 = true then ((impl_between.f (a0.f1.length : Int) 2 12).bind fun x2 => (if x2 = true then (impl_TripOk.l0 k a0 0) else (some false))) else (some false)))
theorem impl_TripOk.lab : ∀ k, (∀ (a0 : S28) (x3 : Int) (r : Bool), impl_TripOk.l0 k a0 x3 = some r → J prog (.run 24 [] [l_ 58, b_ 0, c_ 15] [(1, (.pt 256 0 2)), (17, (.sl true a0.f1.length 3 (a0.f1.flatMap e48))), (18, (I (a0.f1.length : Int))), (19, (I x3))] [(256, [(S a0.f0), (.sl true a0.f1.length 3 (a0.f1.flatMap e48))])] (B r) []))
 | 0 => (by intro a0 x3 r h; unfold impl_TripOk.l0 at h; cases h)
 | k + 1 => by
  have ih0 := impl_TripOk.lab k
  · intro a0 x3 r h
    unfold impl_TripOk.l0 at h
    refine .loop' [c_ 232, c_ 233, l_ 58, b_ 0, c_ 15] ?_
    refine .reg' [1, 17, 18, 19, 20] [] ⟨[(1, (.pt 256 0 2)), (17, (.sl true a0.f1.length 3 (a0.f1.flatMap e48))), (18, (I (a0.f1.length : Int))), (19, (I x3)), (20, (B (decide (x3 < (a0.f1.length : Int)))))], [(256, [(S a0.f0), (.sl true a0.f1.length 3 (a0.f1.flatMap e48))])], [], []⟩ [c_ 466, c_ 467, l_ 58, b_ 0, c_ 15] aln nocal ?_
    by_cases c3 : x3 < (a0.f1.length : Int)
    · rw [if_pos c3] at h
      refine .cond' (.tmp 20) true [c_ 3736, c_ 3737, b_ 1, c_ 935, l_ 58, b_ 0, c_ 15] (bT (dT c3)) ?_
      by_cases c4 : 0 ≤ x3
      · rw [if_pos c4] at h
        refine .reg' [1, 3, 4, 17, 18, 19] [.no, .no, .v (.ag [(I (at_ a0.f1 x3).f0), (I (at_ a0.f1 x3).f1), (I (at_ a0.f1 x3).f2)])] ⟨[(1, (.pt 256 0 2)), (3, (I x3)), (4, (.pt 1539 0 3)), (17, (.sl true a0.f1.length 3 (a0.f1.flatMap e48))), (18, (I (a0.f1.length : Int))), (19, (I x3))], [(256, [(S a0.f0), (.sl true a0.f1.length 3 (a0.f1.flatMap e48))]), (1539, [(I (at_ a0.f1 x3).f0), (I (at_ a0.f1 x3).f1), (I (at_ a0.f1 x3).f2)])], [(0 : Int) ≤ x3 ∧ x3 < (a0.f1.length : Int), rdC prog 49 ((a0.f1.flatMap e48).drop (x3.toNat * 3)) = (.ag [(I (at_ a0.f1 x3).f0), (I (at_ a0.f1 x3).f1), (I (at_ a0.f1 x3).f2)]), 3 ≤ ((a0.f1.flatMap e48).drop (x3.toNat * 3)).length, 3 = 3 ∧ 0 + 3 ≤ 3], []⟩ [c_ 14948, c_ 14949, c_ 7475, b_ 1, c_ 935, l_ 58, b_ 0, c_ 15] (alc ⟨c4, c3⟩ (alc (ldA e48_ok rfl rfl c4 c3) (alc (okI e48_ok c4 c3 (by decide)) (alc ⟨rfl, by decide⟩ aln)))) nocal ?_
        obtain ⟨x4, hx4, h⟩ := Option.bind_eq_some_iff.mp h
        by_cases c5 : x4 = true
        · rw [if_pos c5] at h
          obtain ⟨x5, hx5, h⟩ := Option.bind_eq_some_iff.mp h
          by_cases c6 : x5 = true
          · rw [if_pos c6] at h
            obtain ⟨x6, hx6, h⟩ := Option.bind_eq_some_iff.mp h
            by_cases c7 : x6 = true
            · rw [if_pos c7] at h
              refine .reg' [1, 3, 4, 17, 18, 19, 46] [.no, .no, .c ⟨41, [(I (at_ a0.f1 x3).f0), (I 0), (I 29)], [], (B x4), [], [], [], [], (B x4), []⟩, .no, .v (B false), .no, .no, .c ⟨55, [(I (at_ a0.f1 x3).f1)], [], (B x5), [], [], [], [], (B x5), []⟩, .no, .no, .v (B false), .no, .no, .c ⟨55, [(I (at_ a0.f1 x3).f2)], [], (B x6), [], [], [], [], (B x6), []⟩, .no, .no, .v (B false)] ⟨[(1, (.pt 256 0 2)), (3, (I x3)), (4, (.pt 1539 0 3)), (17, (.sl true a0.f1.length 3 (a0.f1.flatMap e48))), (18, (I (a0.f1.length : Int))), (19, (I x3)), (46, (B (decide ((at_ a0.f1 x3).f1 > (at_ a0.f1 x3).f2))))], [(256, [(S a0.f0), (.sl true a0.f1.length 3 (a0.f1.flatMap e48))]), (1539, [(I (at_ a0.f1 x3).f0), (I (at_ a0.f1 x3).f1), (I (at_ a0.f1 x3).f2)])], [3 = 3 ∧ 0 + 1 ≤ 3, COK (hget [(256, [(S a0.f0), (.sl true a0.f1.length 3 (a0.f1.flatMap e48))]), (1539, [(I (at_ a0.f1 x3).f0), (I (at_ a0.f1 x3).f1), (I (at_ a0.f1 x3).f2)])]) [(I (at_ a0.f1 x3).f0), (I 0), (I 29)] ⟨41, [(I (at_ a0.f1 x3).f0), (I 0), (I 29)], [], (B x4), [], [], [], [], (B x4), []⟩, (B (!x4) : V) = B false, 3 = 3 ∧ 1 + 1 ≤ 3, COK (hget [(256, [(S a0.f0), (.sl true a0.f1.length 3 (a0.f1.flatMap e48))]), (1539, [(I (at_ a0.f1 x3).f0), (I (at_ a0.f1 x3).f1), (I (at_ a0.f1 x3).f2)])]) [(I (at_ a0.f1 x3).f1)] ⟨55, [(I (at_ a0.f1 x3).f1)], [], (B x5), [], [], [], [], (B x5), []⟩, (B (!x5) : V) = B false, 3 = 3 ∧ 2 + 1 ≤ 3, COK (hget [(256, [(S a0.f0), (.sl true a0.f1.length 3 (a0.f1.flatMap e48))]), (1539, [(I (at_ a0.f1 x3).f0), (I (at_ a0.f1 x3).f1), (I (at_ a0.f1 x3).f2)])]) [(I (at_ a0.f1 x3).f2)] ⟨55, [(I (at_ a0.f1 x3).f2)], [], (B x6), [], [], [], [], (B x6), []⟩, (B (!x6) : V) = B false, 3 = 3 ∧ 1 + 1 ≤ 3, 3 = 3 ∧ 2 + 1 ≤ 3], [⟨41, [(I (at_ a0.f1 x3).f0), (I 0), (I 29)], [], (B x4), [], [], [], [], (B x4), []⟩, ⟨55, [(I (at_ a0.f1 x3).f1)], [], (B x5), [], [], [], [], (B x5), []⟩, ⟨55, [(I (at_ a0.f1 x3).f2)], [], (B x6), [], [], [], [], (B x6), []⟩]⟩ [c_ 14949, c_ 7475, b_ 1, c_ 935, l_ 58, b_ 0, c_ 15] (alc ⟨rfl, by decide⟩ (alc (cok0 false (a2c (.z .s) (a2c (.z .s) (a2c (.z .s) a2n))) (.z .s) (fun h => absurd h (by decide))) (alc (bF (nF c5)) (alc ⟨rfl, by decide⟩ (alc (cok0 false (a2c (.z .s) a2n) (.z .s) (fun h => absurd h (by decide))) (alc (bF (nF c6)) (alc ⟨rfl, by decide⟩ (alc (cok0 false (a2c (.z .s) a2n) (.z .s) (fun h => absurd h (by decide))) (alc (bF (nF c7)) (alc ⟨rfl, by decide⟩ (alc ⟨rfl, by decide⟩ aln))))))))))) (acal (impl_between.J ((at_ a0.f1 x3).f0) 0 29 _ hx4) (acal (impl_isMinute.J ((at_ a0.f1 x3).f1) _ hx5) (acal (impl_isMinute.J ((at_ a0.f1 x3).f2) _ hx6) nocal))) ?_
              by_cases c8 : (at_ a0.f1 x3).f1 > (at_ a0.f1 x3).f2
              · rw [if_pos c8] at h
                refine .cond' (.tmp 46) true [c_ 59796, c_ 59797, c_ 7475, b_ 1, c_ 935, l_ 58, b_ 0, c_ 15] (bT (dT c8)) ?_
                refine .reg' [2] [] ⟨[(2, (B false))], [(256, [(S a0.f0), (.sl true a0.f1.length 3 (a0.f1.flatMap e48))]), (1539, [(I (at_ a0.f1 x3).f0), (I (at_ a0.f1 x3).f1), (I (at_ a0.f1 x3).f2)])], [], []⟩ [c_ 59797, c_ 7475, b_ 1, c_ 935, l_ 58, b_ 0, c_ 15] aln nocal ?_
                have h := Option.some.inj h
                subst h
                exact .fin0 [] (B false) [] aln (.z .s)
              · rw [if_neg c8] at h
                refine .cond' (.tmp 46) false [c_ 14950, c_ 14951, b_ 1, c_ 935, l_ 58, b_ 0, c_ 15] (bF (dF c8)) ?_
                by_cases c9 : x3 > 0
                · rw [if_pos c9] at h
                  by_cases c10 : 0 ≤ (wrap64 (x3 - 1))
                  · rw [if_pos c10] at h
                    by_cases c11 : (wrap64 (x3 - 1)) < (a0.f1.length : Int)
                    · rw [if_pos c11] at h
                      by_cases c12 : (at_ a0.f1 x3).f1 ≤ (at_ a0.f1 (wrap64 (x3 - 1))).f2
                      · rw [if_pos c12] at h
                        refine .reg' [1, 17, 18, 19, 72] [.no, .no, .v (B true), .no, .no, .no, .no, .no, .no, .no, .no, .v (I (at_ a0.f1 (wrap64 (x3 - 1))).f2), .no, .v (B true)] ⟨[(1, (.pt 256 0 2)), (17, (.sl true a0.f1.length 3 (a0.f1.flatMap e48))), (18, (I (a0.f1.length : Int))), (19, (I x3)), (72, (B true))], [(256, [(S a0.f0), (.sl true a0.f1.length 3 (a0.f1.flatMap e48))]), (1539, [(I (at_ a0.f1 x3).f0), (I (at_ a0.f1 x3).f1), (I (at_ a0.f1 x3).f2)])], [(B (decide (x3 > 0)) : V) = B true, 3 = 3 ∧ 1 + 1 ≤ 3, 2 = 2 ∧ 1 + 1 ≤ 2, (0 : Int) ≤ (wrap64 (x3 - 1)) ∧ (wrap64 (x3 - 1)) < (a0.f1.length : Int), rdC prog 3 (((a0.f1.flatMap e48).drop ((wrap64 (x3 - 1)).toNat * 3)).drop 2) = (I (at_ a0.f1 (wrap64 (x3 - 1))).f2), 1 ≤ (((a0.f1.flatMap e48).drop ((wrap64 (x3 - 1)).toNat * 3)).drop 2).length, (B (decide ((at_ a0.f1 x3).f1 ≤ (at_ a0.f1 (wrap64 (x3 - 1))).f2)) : V) = B true], []⟩ [c_ 14951, b_ 1, c_ 935, l_ 58, b_ 0, c_ 15] (alc (bT (dT c9)) (alc ⟨rfl, by decide⟩ (alc ⟨rfl, by decide⟩ (alc ⟨c10, c11⟩ (alc (ldC e48_ok 2 (by decide) rfl c10 c11) (alc (okIj e48_ok c10 c11 (by decide)) (alc (bT (dT c12)) aln))))))) nocal ?_
                        refine .cond' (.tmp 72) true [c_ 59804, c_ 59805, b_ 1, c_ 935, l_ 58, b_ 0, c_ 15] (rfl) ?_
                        refine .reg' [2] [] ⟨[(2, (B false))], [(256, [(S a0.f0), (.sl true a0.f1.length 3 (a0.f1.flatMap e48))]), (1539, [(I (at_ a0.f1 x3).f0), (I (at_ a0.f1 x3).f1), (I (at_ a0.f1 x3).f2)])], [], []⟩ [c_ 59805, b_ 1, c_ 935, l_ 58, b_ 0, c_ 15] aln nocal ?_
                        have h := Option.some.inj h
                        subst h
                        exact .fin0 [] (B false) [] aln (.z .s)
                      · rw [if_neg c12] at h
                        refine .reg' [1, 17, 18, 19, 72] [.no, .no, .v (B true), .no, .no, .no, .no, .no, .no, .no, .no, .v (I (at_ a0.f1 (wrap64 (x3 - 1))).f2), .no, .v (B false), .no, .no, .no, .no, .no, .no, .no, .no, .v (I (at_ a0.f1 (wrap64 (x3 - 1))).f0)] ⟨[(1, (.pt 256 0 2)), (17, (.sl true a0.f1.length 3 (a0.f1.flatMap e48))), (18, (I (a0.f1.length : Int))), (19, (I x3)), (72, (B ((at_ a0.f1 x3).f0 == (at_ a0.f1 (wrap64 (x3 - 1))).f0)))], [(256, [(S a0.f0), (.sl true a0.f1.length 3 (a0.f1.flatMap e48))]), (1539, [(I (at_ a0.f1 x3).f0), (I (at_ a0.f1 x3).f1), (I (at_ a0.f1 x3).f2)])], [(B (decide (x3 > 0)) : V) = B true, 3 = 3 ∧ 1 + 1 ≤ 3, 2 = 2 ∧ 1 + 1 ≤ 2, (0 : Int) ≤ (wrap64 (x3 - 1)) ∧ (wrap64 (x3 - 1)) < (a0.f1.length : Int), rdC prog 3 (((a0.f1.flatMap e48).drop ((wrap64 (x3 - 1)).toNat * 3)).drop 2) = (I (at_ a0.f1 (wrap64 (x3 - 1))).f2), 1 ≤ (((a0.f1.flatMap e48).drop ((wrap64 (x3 - 1)).toNat * 3)).drop 2).length, (B (decide ((at_ a0.f1 x3).f1 ≤ (at_ a0.f1 (wrap64 (x3 - 1))).f2)) : V) = B false, 3 = 3 ∧ 0 + 1 ≤ 3, 2 = 2 ∧ 1 + 1 ≤ 2, (0 : Int) ≤ (wrap64 (x3 - 1)) ∧ (wrap64 (x3 - 1)) < (a0.f1.length : Int), rdC prog 3 (((a0.f1.flatMap e48).drop ((wrap64 (x3 - 1)).toNat * 3)).drop 0) = (I (at_ a0.f1 (wrap64 (x3 - 1))).f0), 1 ≤ (((a0.f1.flatMap e48).drop ((wrap64 (x3 - 1)).toNat * 3)).drop 0).length], []⟩ [c_ 14951, b_ 1, c_ 935, l_ 58, b_ 0, c_ 15] (alc (bT (dT c9)) (alc ⟨rfl, by decide⟩ (alc ⟨rfl, by decide⟩ (alc ⟨c10, c11⟩ (alc (ldC e48_ok 2 (by decide) rfl c10 c11) (alc (okIj e48_ok c10 c11 (by decide)) (alc (bF (dF c12)) (alc ⟨rfl, by decide⟩ (alc ⟨rfl, by decide⟩ (alc ⟨c10, c11⟩ (alc (ldC e48_ok 0 (by decide) rfl c10 c11) (alc (okIj e48_ok c10 c11 (by decide)) aln)))))))))))) nocal ?_
                        by_cases c13 : (at_ a0.f1 x3).f0 = (at_ a0.f1 (wrap64 (x3 - 1))).f0
                        · rw [if_pos c13] at h
                          refine .cond' (.tmp 72) true [c_ 59804, c_ 59805, b_ 1, c_ 935, l_ 58, b_ 0, c_ 15] (bT (qT c13)) ?_
                          refine .reg' [2] [] ⟨[(2, (B false))], [(256, [(S a0.f0), (.sl true a0.f1.length 3 (a0.f1.flatMap e48))]), (1539, [(I (at_ a0.f1 x3).f0), (I (at_ a0.f1 x3).f1), (I (at_ a0.f1 x3).f2)])], [], []⟩ [c_ 59805, b_ 1, c_ 935, l_ 58, b_ 0, c_ 15] aln nocal ?_
                          have h := Option.some.inj h
                          subst h
                          exact .fin0 [] (B false) [] aln (.z .s)
                        · rw [if_neg c13] at h
                          refine .cond' (.tmp 72) false [c_ 935, l_ 58, b_ 0, c_ 15] (bF (qF c13)) ?_
                          refine .reg' [1, 17, 18, 19] [] ⟨[(1, (.pt 256 0 2)), (17, (.sl true a0.f1.length 3 (a0.f1.flatMap e48))), (18, (I (a0.f1.length : Int))), (19, (I (wrap64 (x3 + 1))))], [(256, [(S a0.f0), (.sl true a0.f1.length 3 (a0.f1.flatMap e48))]), (1539, [(I (at_ a0.f1 x3).f0), (I (at_ a0.f1 x3).f1), (I (at_ a0.f1 x3).f2)])], [], []⟩ [l_ 58, b_ 0, c_ 15] aln nocal ?_
                          refine .wk' [] [(256, 256)] [(1, (.pt 256 0 2)), (17, (.sl true a0.f1.length 3 (a0.f1.flatMap e48))), (18, (I (a0.f1.length : Int))), (19, (I (wrap64 (x3 + 1))))] [(256, [(S a0.f0), (.sl true a0.f1.length 3 (a0.f1.flatMap e48))])] (shc 256 (a2c (.z .s) (a2c (.z (frz_sl e48_ok (fun h => h))) a2n)) shn) (enc_ (.pt (memP_mem (p := (256, 256)) rfl)) (enc_ (.z (frz_sl e48_ok (fun h => h))) (enc_ (.z .s) (enc_ (.z .s) enn)))) ?_
                          exact ih0 a0 (wrap64 (x3 + 1)) _ h
                    · rw [if_neg c11] at h
                      cases h
                  · rw [if_neg c10] at h
                    cases h
                · rw [if_neg c9] at h
                  refine .reg' [1, 17, 18, 19, 72] [.no, .no, .v (B false)] ⟨[(1, (.pt 256 0 2)), (17, (.sl true a0.f1.length 3 (a0.f1.flatMap e48))), (18, (I (a0.f1.length : Int))), (19, (I x3)), (72, (B false))], [(256, [(S a0.f0), (.sl true a0.f1.length 3 (a0.f1.flatMap e48))]), (1539, [(I (at_ a0.f1 x3).f0), (I (at_ a0.f1 x3).f1), (I (at_ a0.f1 x3).f2)])], [(B (decide (x3 > 0)) : V) = B false], []⟩ [c_ 14951, b_ 1, c_ 935, l_ 58, b_ 0, c_ 15] (alc (bF (dF c9)) aln) nocal ?_
                  refine .cond' (.tmp 72) false [c_ 935, l_ 58, b_ 0, c_ 15] (rfl) ?_
                  refine .reg' [1, 17, 18, 19] [] ⟨[(1, (.pt 256 0 2)), (17, (.sl true a0.f1.length 3 (a0.f1.flatMap e48))), (18, (I (a0.f1.length : Int))), (19, (I (wrap64 (x3 + 1))))], [(256, [(S a0.f0), (.sl true a0.f1.length 3 (a0.f1.flatMap e48))]), (1539, [(I (at_ a0.f1 x3).f0), (I (at_ a0.f1 x3).f1), (I (at_ a0.f1 x3).f2)])], [], []⟩ [l_ 58, b_ 0, c_ 15] aln nocal ?_
                  refine .wk' [] [(256, 256)] [(1, (.pt 256 0 2)), (17, (.sl true a0.f1.length 3 (a0.f1.flatMap e48))), (18, (I (a0.f1.length : Int))), (19, (I (wrap64 (x3 + 1))))] [(256, [(S a0.f0), (.sl true a0.f1.length 3 (a0.f1.flatMap e48))])] (shc 256 (a2c (.z .s) (a2c (.z (frz_sl e48_ok (fun h => h))) a2n)) shn) (enc_ (.pt (memP_mem (p := (256, 256)) rfl)) (enc_ (.z (frz_sl e48_ok (fun h => h))) (enc_ (.z .s) (enc_ (.z .s) enn)))) ?_
                  exact ih0 a0 (wrap64 (x3 + 1)) _ h
            · rw [if_neg c7] at h
              refine .reg' [1, 3, 4, 17, 18, 19, 46] [.no, .no, .c ⟨41, [(I (at_ a0.f1 x3).f0), (I 0), (I 29)], [], (B x4), [], [], [], [], (B x4), []⟩, .no, .v (B false), .no, .no, .c ⟨55, [(I (at_ a0.f1 x3).f1)], [], (B x5), [], [], [], [], (B x5), []⟩, .no, .no, .v (B false), .no, .no, .c ⟨55, [(I (at_ a0.f1 x3).f2)], [], (B x6), [], [], [], [], (B x6), []⟩, .no, .no, .v (B true)] ⟨[(1, (.pt 256 0 2)), (3, (I x3)), (4, (.pt 1539 0 3)), (17, (.sl true a0.f1.length 3 (a0.f1.flatMap e48))), (18, (I (a0.f1.length : Int))), (19, (I x3)), (46, (B true))], [(256, [(S a0.f0), (.sl true a0.f1.length 3 (a0.f1.flatMap e48))]), (1539, [(I (at_ a0.f1 x3).f0), (I (at_ a0.f1 x3).f1), (I (at_ a0.f1 x3).f2)])], [3 = 3 ∧ 0 + 1 ≤ 3, COK (hget [(256, [(S a0.f0), (.sl true a0.f1.length 3 (a0.f1.flatMap e48))]), (1539, [(I (at_ a0.f1 x3).f0), (I (at_ a0.f1 x3).f1), (I (at_ a0.f1 x3).f2)])]) [(I (at_ a0.f1 x3).f0), (I 0), (I 29)] ⟨41, [(I (at_ a0.f1 x3).f0), (I 0), (I 29)], [], (B x4), [], [], [], [], (B x4), []⟩, (B (!x4) : V) = B false, 3 = 3 ∧ 1 + 1 ≤ 3, COK (hget [(256, [(S a0.f0), (.sl true a0.f1.length 3 (a0.f1.flatMap e48))]), (1539, [(I (at_ a0.f1 x3).f0), (I (at_ a0.f1 x3).f1), (I (at_ a0.f1 x3).f2)])]) [(I (at_ a0.f1 x3).f1)] ⟨55, [(I (at_ a0.f1 x3).f1)], [], (B x5), [], [], [], [], (B x5), []⟩, (B (!x5) : V) = B false, 3 = 3 ∧ 2 + 1 ≤ 3, COK (hget [(256, [(S a0.f0), (.sl true a0.f1.length 3 (a0.f1.flatMap e48))]), (1539, [(I (at_ a0.f1 x3).f0), (I (at_ a0.f1 x3).f1), (I (at_ a0.f1 x3).f2)])]) [(I (at_ a0.f1 x3).f2)] ⟨55, [(I (at_ a0.f1 x3).f2)], [], (B x6), [], [], [], [], (B x6), []⟩, (B (!x6) : V) = B true], [⟨41, [(I (at_ a0.f1 x3).f0), (I 0), (I 29)], [], (B x4), [], [], [], [], (B x4), []⟩, ⟨55, [(I (at_ a0.f1 x3).f1)], [], (B x5), [], [], [], [], (B x5), []⟩, ⟨55, [(I (at_ a0.f1 x3).f2)], [], (B x6), [], [], [], [], (B x6), []⟩]⟩ [c_ 14949, c_ 7475, b_ 1, c_ 935, l_ 58, b_ 0, c_ 15] (alc ⟨rfl, by decide⟩ (alc (cok0 false (a2c (.z .s) (a2c (.z .s) (a2c (.z .s) a2n))) (.z .s) (fun h => absurd h (by decide))) (alc (bF (nF c5)) (alc ⟨rfl, by decide⟩ (alc (cok0 false (a2c (.z .s) a2n) (.z .s) (fun h => absurd h (by decide))) (alc (bF (nF c6)) (alc ⟨rfl, by decide⟩ (alc (cok0 false (a2c (.z .s) a2n) (.z .s) (fun h => absurd h (by decide))) (alc (bT (nT (vF c7))) aln))))))))) (acal (impl_between.J ((at_ a0.f1 x3).f0) 0 29 _ hx4) (acal (impl_isMinute.J ((at_ a0.f1 x3).f1) _ hx5) (acal (impl_isMinute.J ((at_ a0.f1 x3).f2) _ hx6) nocal))) ?_
              refine .cond' (.tmp 46) true [c_ 59796, c_ 59797, c_ 7475, b_ 1, c_ 935, l_ 58, b_ 0, c_ 15] (rfl) ?_
              refine .reg' [2] [] ⟨[(2, (B false))], [(256, [(S a0.f0), (.sl true a0.f1.length 3 (a0.f1.flatMap e48))]), (1539, [(I (at_ a0.f1 x3).f0), (I (at_ a0.f1 x3).f1), (I (at_ a0.f1 x3).f2)])], [], []⟩ [c_ 59797, c_ 7475, b_ 1, c_ 935, l_ 58, b_ 0, c_ 15] aln nocal ?_
              have h := Option.some.inj h
              subst h
              exact .fin0 [] (B false) [] aln (.z .s)
          · rw [if_neg c6] at h
            refine .reg' [1, 3, 4, 17, 18, 19, 46] [.no, .no, .c ⟨41, [(I (at_ a0.f1 x3).f0), (I 0), (I 29)], [], (B x4), [], [], [], [], (B x4), []⟩, .no, .v (B false), .no, .no, .c ⟨55, [(I (at_ a0.f1 x3).f1)], [], (B x5), [], [], [], [], (B x5), []⟩, .no, .no, .v (B true)] ⟨[(1, (.pt 256 0 2)), (3, (I x3)), (4, (.pt 1539 0 3)), (17, (.sl true a0.f1.length 3 (a0.f1.flatMap e48))), (18, (I (a0.f1.length : Int))), (19, (I x3)), (46, (B true))], [(256, [(S a0.f0), (.sl true a0.f1.length 3 (a0.f1.flatMap e48))]), (1539, [(I (at_ a0.f1 x3).f0), (I (at_ a0.f1 x3).f1), (I (at_ a0.f1 x3).f2)])], [3 = 3 ∧ 0 + 1 ≤ 3, COK (hget [(256, [(S a0.f0), (.sl true a0.f1.length 3 (a0.f1.flatMap e48))]), (1539, [(I (at_ a0.f1 x3).f0), (I (at_ a0.f1 x3).f1), (I (at_ a0.f1 x3).f2)])]) [(I (at_ a0.f1 x3).f0), (I 0), (I 29)] ⟨41, [(I (at_ a0.f1 x3).f0), (I 0), (I 29)], [], (B x4), [], [], [], [], (B x4), []⟩, (B (!x4) : V) = B false, 3 = 3 ∧ 1 + 1 ≤ 3, COK (hget [(256, [(S a0.f0), (.sl true a0.f1.length 3 (a0.f1.flatMap e48))]), (1539, [(I (at_ a0.f1 x3).f0), (I (at_ a0.f1 x3).f1), (I (at_ a0.f1 x3).f2)])]) [(I (at_ a0.f1 x3).f1)] ⟨55, [(I (at_ a0.f1 x3).f1)], [], (B x5), [], [], [], [], (B x5), []⟩, (B (!x5) : V) = B true], [⟨41, [(I (at_ a0.f1 x3).f0), (I 0), (I 29)], [], (B x4), [], [], [], [], (B x4), []⟩, ⟨55, [(I (at_ a0.f1 x3).f1)], [], (B x5), [], [], [], [], (B x5), []⟩]⟩ [c_ 14949, c_ 7475, b_ 1, c_ 935, l_ 58, b_ 0, c_ 15] (alc ⟨rfl, by decide⟩ (alc (cok0 false (a2c (.z .s) (a2c (.z .s) (a2c (.z .s) a2n))) (.z .s) (fun h => absurd h (by decide))) (alc (bF (nF c5)) (alc ⟨rfl, by decide⟩ (alc (cok0 false (a2c (.z .s) a2n) (.z .s) (fun h => absurd h (by decide))) (alc (bT (nT (vF c6))) aln)))))) (acal (impl_between.J ((at_ a0.f1 x3).f0) 0 29 _ hx4) (acal (impl_isMinute.J ((at_ a0.f1 x3).f1) _ hx5) nocal)) ?_
            refine .cond' (.tmp 46) true [c_ 59796, c_ 59797, c_ 7475, b_ 1, c_ 935, l_ 58, b_ 0, c_ 15] (rfl) ?_
            refine .reg' [2] [] ⟨[(2, (B false))], [(256, [(S a0.f0), (.sl true a0.f1.length 3 (a0.f1.flatMap e48))]), (1539, [(I (at_ a0.f1 x3).f0), (I (at_ a0.f1 x3).f1), (I (at_ a0.f1 x3).f2)])], [], []⟩ [c_ 59797, c_ 7475, b_ 1, c_ 935, l_ 58, b_ 0, c_ 15] aln nocal ?_
            have h := Option.some.inj h
            subst h
            exact .fin0 [] (B false) [] aln (.z .s)
        · rw [if_neg c5] at h
          refine .reg' [1, 3, 4, 17, 18, 19, 46] [.no, .no, .c ⟨41, [(I (at_ a0.f1 x3).f0), (I 0), (I 29)], [], (B x4), [], [], [], [], (B x4), []⟩, .no, .v (B true)] ⟨[(1, (.pt 256 0 2)), (3, (I x3)), (4, (.pt 1539 0 3)), (17, (.sl true a0.f1.length 3 (a0.f1.flatMap e48))), (18, (I (a0.f1.length : Int))), (19, (I x3)), (46, (B true))], [(256, [(S a0.f0), (.sl true a0.f1.length 3 (a0.f1.flatMap e48))]), (1539, [(I (at_ a0.f1 x3).f0), (I (at_ a0.f1 x3).f1), (I (at_ a0.f1 x3).f2)])], [3 = 3 ∧ 0 + 1 ≤ 3, COK (hget [(256, [(S a0.f0), (.sl true a0.f1.length 3 (a0.f1.flatMap e48))]), (1539, [(I (at_ a0.f1 x3).f0), (I (at_ a0.f1 x3).f1), (I (at_ a0.f1 x3).f2)])]) [(I (at_ a0.f1 x3).f0), (I 0), (I 29)] ⟨41, [(I (at_ a0.f1 x3).f0), (I 0), (I 29)], [], (B x4), [], [], [], [], (B x4), []⟩, (B (!x4) : V) = B true], [⟨41, [(I (at_ a0.f1 x3).f0), (I 0), (I 29)], [], (B x4), [], [], [], [], (B x4), []⟩]⟩ [c_ 14949, c_ 7475, b_ 1, c_ 935, l_ 58, b_ 0, c_ 15] (alc ⟨rfl, by decide⟩ (alc (cok0 false (a2c (.z .s) (a2c (.z .s) (a2c (.z .s) a2n))) (.z .s) (fun h => absurd h (by decide))) (alc (bT (nT (vF c5))) aln))) (acal (impl_between.J ((at_ a0.f1 x3).f0) 0 29 _ hx4) nocal) ?_
          refine .cond' (.tmp 46) true [c_ 59796, c_ 59797, c_ 7475, b_ 1, c_ 935, l_ 58, b_ 0, c_ 15] (rfl) ?_
          refine .reg' [2] [] ⟨[(2, (B false))], [(256, [(S a0.f0), (.sl true a0.f1.length 3 (a0.f1.flatMap e48))]), (1539, [(I (at_ a0.f1 x3).f0), (I (at_ a0.f1 x3).f1), (I (at_ a0.f1 x3).f2)])], [], []⟩ [c_ 59797, c_ 7475, b_ 1, c_ 935, l_ 58, b_ 0, c_ 15] aln nocal ?_
          have h := Option.some.inj h
          subst h
          exact .fin0 [] (B false) [] aln (.z .s)
      · rw [if_neg c4] at h
        cases h
    · rw [if_neg c3] at h
      refine .cond' (.tmp 20) false [c_ 30, c_ 31] (bF (dF c3)) ?_
      refine .reg' [2] [] ⟨[(2, (B true))], [(256, [(S a0.f0), (.sl true a0.f1.length 3 (a0.f1.flatMap e48))])], [], []⟩ [c_ 31] aln nocal ?_
      have h := Option.some.inj h
      subst h
      exact .fin0 [] (B true) [] aln (.z .s)
theorem impl_TripOk.J (k : Nat) (a0 : S28) (r : Bool) (h : impl_TripOk.f k a0 = some r) : J prog (.call 24 [(.ag [(S a0.f0), (.sl true a0.f1.length 3 (a0.f1.flatMap e48))])] [] (B r) []) := by
  unfold impl_TripOk.f at h
  have ih0 := impl_TripOk.lab k
  refine .call' [c_ 2, c_ 3] ?_
  refine .reg' [1] [] ⟨[(1, (.pt 256 0 2))], [(256, [(S a0.f0), (.sl true a0.f1.length 3 (a0.f1.flatMap e48))])], [], []⟩ [c_ 12, c_ 13, c_ 7] aln nocal ?_
  obtain ⟨x1, hx1, h⟩ := Option.bind_eq_some_iff.mp h
  by_cases c1 : x1 = true
  · rw [if_pos c1] at h
    obtain ⟨x2, hx2, h⟩ := Option.bind_eq_some_iff.mp h
    refine .reg' [1, 15] [.no, .no, .c ⟨54, [(S a0.f0)], [], (B x1), [], [], [], [], (B x1), []⟩, .no, .v (B false), .no, .no, .no, .c ⟨41, [(I (a0.f1.length : Int)), (I 2), (I 12)], [], (B x2), [], [], [], [], (B x2), []⟩] ⟨[(1, (.pt 256 0 2)), (15, (B (!x2)))], [(256, [(S a0.f0), (.sl true a0.f1.length 3 (a0.f1.flatMap e48))])], [2 = 2 ∧ 0 + 1 ≤ 2, COK (hget [(256, [(S a0.f0), (.sl true a0.f1.length 3 (a0.f1.flatMap e48))])]) [(S a0.f0)] ⟨54, [(S a0.f0)], [], (B x1), [], [], [], [], (B x1), []⟩, (B (!x1) : V) = B false, 2 = 2 ∧ 1 + 1 ≤ 2, COK (hget [(256, [(S a0.f0), (.sl true a0.f1.length 3 (a0.f1.flatMap e48))])]) [(I (a0.f1.length : Int)), (I 2), (I 12)] ⟨41, [(I (a0.f1.length : Int)), (I 2), (I 12)], [], (B x2), [], [], [], [], (B x2), []⟩], [⟨54, [(S a0.f0)], [], (B x1), [], [], [], [], (B x1), []⟩, ⟨41, [(I (a0.f1.length : Int)), (I 2), (I 12)], [], (B x2), [], [], [], [], (B x2), []⟩]⟩ [c_ 13, c_ 7] (alc ⟨rfl, by decide⟩ (alc (cok0 false (a2c (.z .s) a2n) (.z .s) (fun h => absurd h (by decide))) (alc (bF (nF c1)) (alc ⟨rfl, by decide⟩ (alc (cok0 false (a2c (.z .s) (a2c (.z .s) (a2c (.z .s) a2n))) (.z .s) (fun h => absurd h (by decide))) aln))))) (acal (impl_nameOk.J k a0.f0 _ hx1) (acal (impl_between.J (a0.f1.length : Int) 2 12 _ hx2) nocal)) ?_
    by_cases c2 : x2 = true
    · rw [if_pos c2] at h
      refine .cond' (.tmp 15) false [c_ 28, c_ 29, c_ 15] (bF (nF c2)) ?_
      refine .reg' [1, 17, 18, 19] [] ⟨[(1, (.pt 256 0 2)), (17, (.sl true a0.f1.length 3 (a0.f1.flatMap e48))), (18, (I (a0.f1.length : Int))), (19, (I 0))], [(256, [(S a0.f0), (.sl true a0.f1.length 3 (a0.f1.flatMap e48))])], [2 = 2 ∧ 1 + 1 ≤ 2], []⟩ [l_ 58, b_ 0, c_ 15] (alc ⟨rfl, by decide⟩ aln) nocal ?_
      exact ih0 a0 0 _ h
    · rw [if_neg c2] at h
      refine .cond' (.tmp 15) true [c_ 52, c_ 53, c_ 7] (bT (nT (vF c2))) ?_
      refine .reg' [2] [] ⟨[(2, (B false))], [(256, [(S a0.f0), (.sl true a0.f1.length 3 (a0.f1.flatMap e48))])], [], []⟩ [c_ 53, c_ 7] aln nocal ?_
      have h := Option.some.inj h
      subst h
      exact .fin0 [] (B false) [] aln (.z .s)
  · rw [if_neg c1] at h
    refine .reg' [1, 15] [.no, .no, .c ⟨54, [(S a0.f0)], [], (B x1), [], [], [], [], (B x1), []⟩, .no, .v (B true)] ⟨[(1, (.pt 256 0 2)), (15, (B true))], [(256, [(S a0.f0), (.sl true a0.f1.length 3 (a0.f1.flatMap e48))])], [2 = 2 ∧ 0 + 1 ≤ 2, COK (hget [(256, [(S a0.f0), (.sl true a0.f1.length 3 (a0.f1.flatMap e48))])]) [(S a0.f0)] ⟨54, [(S a0.f0)], [], (B x1), [], [], [], [], (B x1), []⟩, (B (!x1) : V) = B true], [⟨54, [(S a0.f0)], [], (B x1), [], [], [], [], (B x1), []⟩]⟩ [c_ 13, c_ 7] (alc ⟨rfl, by decide⟩ (alc (cok0 false (a2c (.z .s) a2n) (.z .s) (fun h => absurd h (by decide))) (alc (bT (nT (vF c1))) aln))) (acal (impl_nameOk.J k a0.f0 _ hx1) nocal) ?_
    refine .cond' (.tmp 15) true [c_ 52, c_ 53, c_ 7] (rfl) ?_
    refine .reg' [2] [] ⟨[(2, (B false))], [(256, [(S a0.f0), (.sl true a0.f1.length 3 (a0.f1.flatMap e48))])], [], []⟩ [c_ 53, c_ 7] aln nocal ?_
    have h := Option.some.inj h
    subst h
    exact .fin0 [] (B false) [] aln (.z .s)
def lays171_ren : Go.Shelf.Ren := ⟨fun | 171 => 35 | 243 => 60 | 246 => 71 | 283 => 78 | 284 => 79 | 285 => 80 | 286 => 81 | 129 => 90 | 317 => 89 | 318 => 91 | 319 => 92 | 320 => 93 | 337 => 97 | 338 => 98 | n => n, fun | 3 => 3 | 9 => 9 | 2 => 2 | 4 => 4 | 171 => 92 | 0 => 0 | 53 => 93 | 37 => 42 | 5 => 5 | 173 => 96 | 212 => 104 | 51 => 105 | 20 => 20 | 213 => 106 | 46 => 102 | 232 => 115 | 233 => 116 | n => n, fun | 17 => 1 | 18 => 4 | 19 => 5 | n => n⟩
theorem lays171 : Go.Proofs.LaysM.n171 Tryd.prog lays171_ren where
  mixed := by kernel_rfl
  f129 := Tryd.func90.trans (congrArg some (by kernel_rfl))
  f171 := Tryd.func35.trans (congrArg some (by kernel_rfl))
  f243 := Tryd.func60.trans (congrArg some (by kernel_rfl))
  f246 := Tryd.func71.trans (congrArg some (by kernel_rfl))
  f283 := Tryd.func78.trans (congrArg some (by kernel_rfl))
  f284 := Tryd.func79.trans (congrArg some (by kernel_rfl))
  f285 := Tryd.func80.trans (congrArg some (by kernel_rfl))
  f286 := Tryd.func81.trans (congrArg some (by kernel_rfl))
  f317 := Tryd.func89.trans (congrArg some (by kernel_rfl))
  f318 := Tryd.func91.trans (congrArg some (by kernel_rfl))
  f319 := Tryd.func92.trans (congrArg some (by kernel_rfl))
  f320 := Tryd.func93.trans (congrArg some (by kernel_rfl))
  f337 := Tryd.func97.trans (congrArg some (by kernel_rfl))
  f338 := Tryd.func98.trans (congrArg some (by kernel_rfl))
  t0 := Tryd.underlying0
  a0 := Tryd.isAgg0
  z0 := Tryd.sizeOf0
  v0 := Tryd.zeroValue0
  t2 := Tryd.underlying2
  a2 := Tryd.isAgg2
  z2 := Tryd.sizeOf2
  v2 := Tryd.zeroValue2
  t3 := Tryd.underlying3
  a3 := Tryd.isAgg3
  z3 := Tryd.sizeOf3
  v3 := Tryd.zeroValue3
  t4 := Tryd.underlying4
  a4 := Tryd.isAgg4
  z4 := Tryd.sizeOf4
  v4 := Tryd.zeroValue4
  t5 := Tryd.underlying5
  a5 := Tryd.isAgg5
  z5 := Tryd.sizeOf5
  v5 := Tryd.zeroValue5
  t9 := Tryd.underlying9
  a9 := Tryd.isAgg9
  z9 := Tryd.sizeOf9
  v9 := Tryd.zeroValue9
  t20 := Tryd.underlying20
  a20 := Tryd.isAgg20
  z20 := Tryd.sizeOf20
  v20 := Tryd.zeroValue20
  t37 := Tryd.underlying42
  a37 := Tryd.isAgg42
  z37 := Tryd.sizeOf42
  v37 := Tryd.zeroValue42
  t46 := Tryd.underlying102
  a46 := Tryd.isAgg102
  z46 := Tryd.sizeOf102
  v46 := Tryd.zeroValue102
  t51 := Tryd.underlying105
  a51 := Tryd.isAgg105
  z51 := Tryd.sizeOf105
  v51 := Tryd.zeroValue105
  t53 := Tryd.underlying93
  a53 := Tryd.isAgg93
  z53 := Tryd.sizeOf93
  v53 := Tryd.zeroValue93
  t171 := Tryd.underlying92
  a171 := Tryd.isAgg92
  z171 := Tryd.sizeOf92
  v171 := Tryd.zeroValue92
  t173 := Tryd.underlying96
  a173 := Tryd.isAgg96
  z173 := Tryd.sizeOf96
  v173 := Tryd.zeroValue96
  t212 := Tryd.underlying104
  a212 := Tryd.isAgg104
  z212 := Tryd.sizeOf104
  v212 := Tryd.zeroValue104
  t213 := Tryd.underlying106
  a213 := Tryd.isAgg106
  z213 := Tryd.sizeOf106
  t232 := Tryd.underlying115
  a232 := Tryd.isAgg115
  z232 := Tryd.sizeOf115
  v232 := Tryd.zeroValue115
  t233 := Tryd.underlying116
  a233 := Tryd.isAgg116
  z233 := Tryd.sizeOf116
  v233 := Tryd.zeroValue116
  g17 := by kernel_rfl
  g18 := by kernel_rfl
  g19 := by kernel_rfl
  i0 := by kernel_rfl
  i2 := by kernel_rfl
  i3 := by kernel_rfl
  i4 := by kernel_rfl
  i5 := by kernel_rfl
  i9 := by kernel_rfl
  i20 := by kernel_rfl
  i37 := by kernel_rfl
  i46 := by kernel_rfl
  i51 := by kernel_rfl
  i53 := by kernel_rfl
  i171 := by kernel_rfl
  i173 := by kernel_rfl
  i212 := by kernel_rfl
  i232 := by kernel_rfl
  i233 := by kernel_rfl
  m17 := by kernel_rfl
  m18 := by kernel_rfl
  m19 := by kernel_rfl
/-! strconv_Itoa: function 35 (the shelf's contract) -/
def strconv_Itoa.f (a0 : Int) : Option ByteArray := (if -9223372036854775808 ≤ a0 then (if a0 ≤ 9223372036854775807 then (some (⟨(Go.Lib.itoa a0).toArray⟩ : ByteArray)) else none) else none)
theorem strconv_Itoa.J (a0 : Int) (r : ByteArray) (h : strconv_Itoa.f a0 = some r) : J prog (.call 35 [(I a0)] [] (S r) []) := by
  unfold strconv_Itoa.f at h
  by_cases h0 : -9223372036854775808 ≤ a0
  · rw [if_pos h0] at h
    by_cases h1 : a0 ≤ 9223372036854775807
    · rw [if_pos h1] at h
      have h := Option.some.inj h
      subst h
      refine lib_below1 rfl fun w hg => (Go.Proofs.Any.strconv_Itoa lays171 a0 h0 h1 w hg.1).mono ?_
      rintro e w2 ⟨rfl, k, os, rfl⟩
      exact ⟨rfl, Go.Lib.below_grow _ _ (Nat.le_refl _) _ _⟩
    · rw [if_neg h1] at h
      cases h
  · rw [if_neg h0] at h
    cases h
/-! impl_twoDigits: function 61 -/
def impl_twoDigits.f (a0 : Int) : Option ByteArray := (if a0 < 10 then ((strconv_Itoa.f a0).bind fun x1 => (if (⟨#[48]⟩ : ByteArray).size + x1.size ≤ 9223372036854775807 then (some ((⟨#[48]⟩ : ByteArray) ++ x1)) else none)) else ((strconv_Itoa.f a0).bind fun x2 => (some x2)))
end Go.Proofs.YtjlickinmkafbaaDoor.Fns
