/- The functions that the law FnExactFinish reaches, by the engine. Printed by a program of this seat. -/
import Derived.Test.YtpjmefdpjlhkhaaE5
import Derived.Test.YtpjmefdpjlhkhaaProg
import Derived.Test.YtpjmefdpjlhkhaaFFnExactFinishx1
namespace Go.Proofs.Ytpjmefdpjlhkhaa.Fns
open Go.Proofs.Try Go.Proofs.Ytpjmefdpjlhkhaa.Eng Go.RowKit
set_option maxRecDepth 100000
set_option linter.unusedVariables false
set_option linter.unusedSimpArgs false
theorem impl_mayMove.J (k : Nat) (a0 : (List Int)) (a1 : (List S44)) (a2 : Int) (r : Bool) (h : impl_mayMove.f k a0 a1 a2 = some r) : J prog (.call 46 [(.sl true a0.length 1 (a0.flatMap encI)), (.sl true a1.length 2 (a1.flatMap e44)), (I a2)] [] (B r) []) := by
  unfold impl_mayMove.f at h
  have ih0 := impl_mayMove.lab k
  refine .call' [c_ 2, c_ 3] ?_
  refine .reg' [0, 1, 2] [] ⟨[(0, (.sl true a0.length 1 (a0.flatMap encI))), (1, (.sl true a1.length 2 (a1.flatMap e44))), (2, (I a2))], [], [], []⟩ [c_ 12, c_ 13, c_ 7] aln nocal ?_
  by_cases c1 : 0 ≤ a2
  · rw [if_pos c1] at h
    by_cases c2 : a2 < (a1.length : Int)
    · rw [if_pos c2] at h
      refine .reg' [0, 1, 2, 21] [.no, .no, .no, .no, .v (I (at_ a1 a2).f0), .no, .no, .no, .no, .v (I (at_ a1 a2).f1)] ⟨[(0, (.sl true a0.length 1 (a0.flatMap encI))), (1, (.sl true a1.length 2 (a1.flatMap e44))), (2, (I a2)), (21, (B ((at_ a1 a2).f0 == (at_ a1 a2).f1)))], [], [(0 : Int) ≤ a2 ∧ a2 < (a1.length : Int), rdC prog 3 (((a1.flatMap e44).drop (a2.toNat * 2)).drop 0) = (I (at_ a1 a2).f0), 1 ≤ (((a1.flatMap e44).drop (a2.toNat * 2)).drop 0).length, (0 : Int) ≤ a2 ∧ a2 < (a1.length : Int), rdC prog 3 (((a1.flatMap e44).drop (a2.toNat * 2)).drop 1) = (I (at_ a1 a2).f1), 1 ≤ (((a1.flatMap e44).drop (a2.toNat * 2)).drop 1).length], []⟩ [c_ 13, c_ 7] (alc ⟨c1, c2⟩ (alc (ldC e44_ok 0 (by decide) rfl c1 c2) (alc (okIj e44_ok c1 c2 (by decide)) (alc ⟨c1, c2⟩ (alc (ldC e44_ok 1 (by decide) rfl c1 c2) (alc (okIj e44_ok c1 c2 (by decide)) aln)))))) nocal ?_
      by_cases c3 : (at_ a1 a2).f0 = (at_ a1 a2).f1
      · rw [if_pos c3] at h
        refine .cond' (.tmp 21) true [c_ 52, c_ 53, c_ 7] (bT (qT c3)) ?_
        refine .reg' [6] [] ⟨[(6, (B false))], [], [], []⟩ [c_ 53, c_ 7] aln nocal ?_
        have h := Option.some.inj h
        subst h
        exact .fin0 [] (B false) [] aln (.z .s)
      · rw [if_neg c3] at h
        refine .cond' (.tmp 21) false [c_ 14, c_ 15] (bF (qF c3)) ?_
        obtain ⟨x1, hx1, h⟩ := Option.bind_eq_some_iff.mp h
        refine .reg' [0, 1, 7, 8] [.no, .no, .no, .v (.ag [(I (at_ a1 a2).f0), (I (at_ a1 a2).f1)]), .c ⟨57, [(.ag [(I (at_ a1 a2).f0), (I (at_ a1 a2).f1)])], [], (I x1), [], [], [], [], (I x1), []⟩] ⟨[(0, (.sl true a0.length 1 (a0.flatMap encI))), (1, (.sl true a1.length 2 (a1.flatMap e44))), (7, (I x1)), (8, (I 0))], [], [(0 : Int) ≤ a2 ∧ a2 < (a1.length : Int), rdC prog 45 ((a1.flatMap e44).drop (a2.toNat * 2)) = (.ag [(I (at_ a1 a2).f0), (I (at_ a1 a2).f1)]), 2 ≤ ((a1.flatMap e44).drop (a2.toNat * 2)).length, COK (hget []) [(.ag [(I (at_ a1 a2).f0), (I (at_ a1 a2).f1)])] ⟨57, [(.ag [(I (at_ a1 a2).f0), (I (at_ a1 a2).f1)])], [], (I x1), [], [], [], [], (I x1), []⟩], [⟨57, [(.ag [(I (at_ a1 a2).f0), (I (at_ a1 a2).f1)])], [], (I x1), [], [], [], [], (I x1), []⟩]⟩ [c_ 60, c_ 61, c_ 31] (alc ⟨c1, c2⟩ (alc (ldA e44_ok rfl rfl c1 c2) (alc (okI e44_ok c1 c2 (by decide)) (alc (cok0 false (a2c (.z (frz_ag (a2c .s (a2c .s a2n)))) a2n) (.z .s) (fun h => absurd h (by decide))) aln)))) (acal (impl_nextSpot.J (at_ a1 a2) _ hx1) nocal) ?_
        refine .reg' [0, 7, 8, 27, 28, 29] [] ⟨[(0, (.sl true a0.length 1 (a0.flatMap encI))), (7, (I x1)), (8, (I 0)), (27, (.sl true a1.length 2 (a1.flatMap e44))), (28, (I (a1.length : Int))), (29, (I 0))], [], [], []⟩ [l_ 122, b_ 0, c_ 31] aln nocal ?_
        exact ih0 a0 a1 x1 0 0 _ h
    · rw [if_neg c2] at h
      cases h
  · rw [if_neg c1] at h
    cases h
/-! impl_moved: function 49 -/
def impl_moved.f (a0 : (List S44)) (a1 : Int) : Option (List S44) := (if (([] : List S44).length + a0.length) * 16 ≤ 70368744177664 then (if 0 ≤ a1 then (if a1 < ((([] : List S44) ++ a0).length : Int) then ((impl_nextSpot.f (at_ (([] : List S44) ++ a0) a1)).bind fun x1 => (some ((([] : List S44) ++ a0).set a1.toNat (⟨x1, (at_ (([] : List S44) ++ a0) a1).f1⟩ : S44)))) else none) else none) else none)
theorem impl_moved.J (a0 : (List S44)) (a1 : Int) (r : (List S44)) (h : impl_moved.f a0 a1 = some r) : J prog (.call 49 [(.sl true a0.length 2 (a0.flatMap e44)), (I a1)] [] (.rf 512 0 r.length 2 (r.length * 2)) [(512, (r.flatMap e44))]) := by
  unfold impl_moved.f at h
  refine .call' [c_ 2, c_ 3] ?_
  refine .reg' [0, 1] [] ⟨[(0, (.sl true a0.length 2 (a0.flatMap e44))), (1, (I a1))], [], [], []⟩ [c_ 6, c_ 7] aln nocal ?_
  by_cases c1 : (([] : List S44).length + a0.length) * 16 ≤ 70368744177664
  · rw [if_pos c1] at h
    refine .reg' [1, 5] [.no, .no, .w (.rf 512 0 ((([] : List S44) ++ a0).length) 2 ((([] : List S44) ++ a0).length * 2)) ((([] : List S44) ++ a0).flatMap e44)] ⟨[(1, (I a1)), (5, (.rf 512 0 ((([] : List S44) ++ a0).length) 2 ((([] : List S44) ++ a0).length * 2)))], [(512, ((([] : List S44) ++ a0).flatMap e44))], [V.rf 512 0 (([] : List S44).length + a0.length) 2 (([] : List S44).length * 2 + a0.length * 2) = (.rf 512 0 ((([] : List S44) ++ a0).length) 2 ((([] : List S44) ++ a0).length * 2)), ([] : List S44).flatMap e44 ++ (a0.flatMap e44) = ((([] : List S44) ++ a0).flatMap e44), True ∧ ([] : List S44).length * 2 = (([] : List S44).flatMap e44).length ∧ ([] : List S44).length * 2 = (([] : List S44).flatMap e44).length ∧ (([] : List S44).length + a0.length) * 16 ≤ 70368744177664], []⟩ [c_ 14, c_ 15] (alc (apV rfl) (alc apS (alc (apOS e44_ok c1) aln))) nocal ?_
    by_cases c2 : 0 ≤ a1
    · rw [if_pos c2] at h
      by_cases c3 : a1 < ((([] : List S44) ++ a0).length : Int)
      · rw [if_pos c3] at h
        obtain ⟨x1, hx1, h⟩ := Option.bind_eq_some_iff.mp h
        refine .reg' [5] [.no, .no, .no, .no, .no, .v (.ag [(I (at_ (([] : List S44) ++ a0) a1).f0), (I (at_ (([] : List S44) ++ a0) a1).f1)]), .c ⟨57, [(.ag [(I (at_ (([] : List S44) ++ a0) a1).f0), (I (at_ (([] : List S44) ++ a0) a1).f1)])], [], (I x1), [], [], [], [], (I x1), []⟩, .no, .no, .w .un (((([] : List S44) ++ a0).set a1.toNat (⟨x1, (at_ (([] : List S44) ++ a0) a1).f1⟩ : S44)).flatMap e44)] ⟨[(5, (.rf 512 0 ((([] : List S44) ++ a0).length) 2 ((([] : List S44) ++ a0).length * 2)))], [(512, (((([] : List S44) ++ a0).set a1.toNat (⟨x1, (at_ (([] : List S44) ++ a0) a1).f1⟩ : S44)).flatMap e44))], [(0 : Int) ≤ a1 ∧ a1 < ((([] : List S44) ++ a0).length : Int), rdC prog 45 (((([] : List S44) ++ a0).flatMap e44).drop (0 + a1.toNat * 2)) = (.ag [(I (at_ (([] : List S44) ++ a0) a1).f0), (I (at_ (([] : List S44) ++ a0) a1).f1)]), (([] : List S44) ++ a0).length * 2 = ((([] : List S44) ++ a0).flatMap e44).length ∧ 0 + a1.toNat * 2 + 2 ≤ ((([] : List S44) ++ a0).flatMap e44).length, COK (hget [(512, ((([] : List S44) ++ a0).flatMap e44))]) [(.ag [(I (at_ (([] : List S44) ++ a0) a1).f0), (I (at_ (([] : List S44) ++ a0) a1).f1)])] ⟨57, [(.ag [(I (at_ (([] : List S44) ++ a0) a1).f0), (I (at_ (([] : List S44) ++ a0) a1).f1)])], [], (I x1), [], [], [], [], (I x1), []⟩, (0 : Int) ≤ a1 ∧ a1 < ((([] : List S44) ++ a0).length : Int), V.un = V.un, spl ((([] : List S44) ++ a0).flatMap e44) (0 + a1.toNat * 2 + 0) [(I x1)] = (((([] : List S44) ++ a0).set a1.toNat (⟨x1, (at_ (([] : List S44) ++ a0) a1).f1⟩ : S44)).flatMap e44), (([] : List S44) ++ a0).length * 2 = ((([] : List S44) ++ a0).flatMap e44).length ∧ 0 + a1.toNat * 2 + 0 + 1 ≤ ((([] : List S44) ++ a0).flatMap e44).length], [⟨57, [(.ag [(I (at_ (([] : List S44) ++ a0) a1).f0), (I (at_ (([] : List S44) ++ a0) a1).f1)])], [], (I x1), [], [], [], [], (I x1), []⟩]⟩ [c_ 30, c_ 31] (alc ⟨c2, c3⟩ (alc (ldA0 e44_ok rfl rfl c2 c3) (alc (okA0 e44_ok c2 c3 (by decide)) (alc (cok0 false (a2c (.z (frz_ag (a2c .s (a2c .s a2n)))) a2n) (.z .s) (fun h => absurd h (by decide))) (alc ⟨c2, c3⟩ (alc rfl (alc (st_row e44_ok 0 c2 c3 (Nat.le_of_ble_eq_true rfl) rfl) (alc (okA e44_ok c2 c3 (by decide)) aln)))))))) (acal (impl_nextSpot.J (at_ (([] : List S44) ++ a0) a1) _ hx1) nocal) ?_
        refine .eqs (env2 := [(5, (.rf 512 0 (((([] : List S44) ++ a0).set a1.toNat (⟨x1, (at_ (([] : List S44) ++ a0) a1).f1⟩ : S44)).length) 2 (((([] : List S44) ++ a0).set a1.toNat (⟨x1, (at_ (([] : List S44) ++ a0) a1).f1⟩ : S44)).length * 2)))]) (H2 := [(512, (((([] : List S44) ++ a0).set a1.toNat (⟨x1, (at_ (([] : List S44) ++ a0) a1).f1⟩ : S44)).flatMap e44))]) (by first | (simp only [List.length_set]; done) | simp) (by first | rfl | (simp only [List.length_set]; done) | simp) ?_
        refine .reg' [4] [] ⟨[(4, (.rf 512 0 (((([] : List S44) ++ a0).set a1.toNat (⟨x1, (at_ (([] : List S44) ++ a0) a1).f1⟩ : S44)).length) 2 (((([] : List S44) ++ a0).set a1.toNat (⟨x1, (at_ (([] : List S44) ++ a0) a1).f1⟩ : S44)).length * 2)))], [(512, (((([] : List S44) ++ a0).set a1.toNat (⟨x1, (at_ (([] : List S44) ++ a0) a1).f1⟩ : S44)).flatMap e44))], [], []⟩ [c_ 31] aln nocal ?_
        have h := Option.some.inj h
        subst h
        exact .fin' [] [(512, 512)] (.rf 512 0 (((([] : List S44) ++ a0).set a1.toNat (⟨x1, (at_ (([] : List S44) ++ a0) a1).f1⟩ : S44)).length) 2 (((([] : List S44) ++ a0).set a1.toNat (⟨x1, (at_ (([] : List S44) ++ a0) a1).f1⟩ : S44)).length * 2)) [] aln (shc 512 (rowF e44_ok _) shn) (.rf (memP_mem (p := (512, 512)) rfl))
      · rw [if_neg c3] at h
        cases h
    · rw [if_neg c2] at h
      cases h
  · rw [if_neg c1] at h
    cases h
/-! impl_search_first, impl_search_canFinish: function 53 -/
mutual
def impl_search_first.f : Nat → S65 → (List S44) → Option (Int × S65 × (List (List Int)))
 | 0, _, _ => none
 | k + 1, a0, a1 => (impl_search_first.l0 k a1 a0.f0 a0.f1 0)
def impl_search_first.l0 : Nat → (List S44) → (List Int) → (List (List Int)) → Int → Option (Int × S65 × (List (List Int)))
 | 0, _, _, _, _ => none
 | k + 1, a1, x1, x2, x3 => (if x3 < (a1.length : Int) then ((impl_mayMove.f k x1 a1 x3).bind fun x4 => (if x4 = true then ((impl_moved.f a1 x3).bind fun x5 => ((impl_search_canFinish.f k (⟨x1, x2⟩ : S65) x5).bind fun x6 => (if x6.1 = true then (some (x3, (⟨x6.2.1.f0, x6.2.2⟩ : S65), x6.2.2)) else (impl_search_first.l0 k a1 x6.2.1.f0 x6.2.2 (wrap64 (x3 + 1)))))) else (impl_search_first.l0 k a1 x1 x2 (wrap64 (x3 + 1))))) else (some ((-1), (⟨x1, x2⟩ : S65), x2)))
def impl_search_canFinish.f : Nat → S65 → (List S44) → Option (Bool × S65 × (List (List Int)))
 | 0, _, _ => none
 | k + 1, a0, a1 => ((impl_home.f k a1).bind fun x1 => (if x1 = true then (some (true, a0, a0.f1)) else (impl_search_canFinish.l0 k a0 a1 (List.replicate 4 (0 : Int)) 0)))
def impl_search_canFinish.l0 : Nat → S65 → (List S44) → (List Int) → Int → Option (Bool × S65 × (List (List Int)))
 | 0, _, _, _, _ => none
 | k + 1, a0, a1, x2, x3 => (if x3 < (a1.length : Int) then (if 0 ≤ x3 then (if x3 < 4 then (if x3 < (x2.length : Int) then (impl_search_canFinish.l0 k a0 a1 (x2.set x3.toNat ((at_ a1 x3).f0)) (wrap64 (x3 + 1))) else none) else none) else none) else (if x2.length = 4 then (if kOk 4 a0.f1 = true then (if kOk1 4 x2 = true then (if (kHas a0.f1 x2) = true then (some (false, a0, a0.f1)) else ((impl_search_first.f k a0 a1).bind fun x4 => (if x4.1 ≥ 0 then (some (true, (⟨x4.2.1.f0, x4.2.2⟩ : S65), x4.2.2)) else (if kOk 4 x4.2.2 = true then (some (false, (⟨x4.2.1.f0, (kIns x4.2.2 x2)⟩ : S65), (kIns x4.2.2 x2))) else none)))) else none) else none) else none))
end
theorem impl_search_first.lab : ∀ k, (∀ (a0 : S65) (a1 : (List S44)) (r : (Int × S65 × (List (List Int)))), impl_search_first.f k a0 a1 = some r → J prog (.call 53 [(.pt 0 0 2), (.sl true a1.length 2 (a1.flatMap e44))] [(0, [(.sl true a0.f0.length 1 (a0.f0.flatMap encI)), (.pt 2000000001 0 1)]), (2000000001, (mrow a0.f1))] (I r.1) [(0, [(.sl true r.2.1.f0.length 1 (r.2.1.f0.flatMap encI)), (.pt 2000000001 0 1)]), (2000000001, (mrow r.2.2))])) ∧ (∀ (a1 : (List S44)) (x1 : (List Int)) (x2 : (List (List Int))) (x3 : Int) (r : (Int × S65 × (List (List Int)))), impl_search_first.l0 k a1 x1 x2 x3 = some r → J prog (.run 53 [0, 2000000001] [l_ 26, b_ 0, c_ 7] [(0, (.pt 0 0 2)), (1, (.sl true a1.length 2 (a1.flatMap e44))), (7, (I (a1.length : Int))), (8, (I x3))] [(0, [(.sl true x1.length 1 (x1.flatMap encI)), (.pt 2000000001 0 1)]), (2000000001, (mrow x2))] (I r.1) [(0, [(.sl true r.2.1.f0.length 1 (r.2.1.f0.flatMap encI)), (.pt 2000000001 0 1)]), (2000000001, (mrow r.2.2))])) ∧ (∀ (a0 : S65) (a1 : (List S44)) (r : (Bool × S65 × (List (List Int)))), impl_search_canFinish.f k a0 a1 = some r → J prog (.call 52 [(.pt 0 0 2), (.sl true a1.length 2 (a1.flatMap e44))] [(0, [(.sl true a0.f0.length 1 (a0.f0.flatMap encI)), (.pt 2000000001 0 1)]), (2000000001, (mrow a0.f1))] (B r.1) [(0, [(.sl true r.2.1.f0.length 1 (r.2.1.f0.flatMap encI)), (.pt 2000000001 0 1)]), (2000000001, (mrow r.2.2))])) ∧ (∀ (a0 : S65) (a1 : (List S44)) (x2 : (List Int)) (x3 : Int) (r : (Bool × S65 × (List (List Int)))), impl_search_canFinish.l0 k a0 a1 x2 x3 = some r → J prog (.run 52 [0, 2000000001] [l_ 122, b_ 0, c_ 31] [(0, (.pt 0 0 2)), (1, (.sl true a1.length 2 (a1.flatMap e44))), (5, (.pt 1024 0 (x2.length * 1))), (10, (.sl true a1.length 2 (a1.flatMap e44))), (11, (I (a1.length : Int))), (12, (I x3))] [(0, [(.sl true a0.f0.length 1 (a0.f0.flatMap encI)), (.pt 2000000001 0 1)]), (2000000001, (mrow a0.f1)), (1024, (x2.flatMap encI))] (B r.1) [(0, [(.sl true r.2.1.f0.length 1 (r.2.1.f0.flatMap encI)), (.pt 2000000001 0 1)]), (2000000001, (mrow r.2.2))]))
 | 0 => ⟨(by intro a0 a1 r h; unfold impl_search_first.f at h; cases h), (by intro a1 x1 x2 x3 r h; unfold impl_search_first.l0 at h; cases h), (by intro a0 a1 r h; unfold impl_search_canFinish.f at h; cases h), (by intro a0 a1 x2 x3 r h; unfold impl_search_canFinish.l0 at h; cases h)⟩
 | k + 1 => by
  obtain ⟨ihf, ih0, m0_ihf, m0_ih0⟩ := impl_search_first.lab k
  refine ⟨?_, ?_, ?_, ?_⟩
  · intro a0 a1 r h
    unfold impl_search_first.f at h
    refine .call' [c_ 2, c_ 3] ?_
    refine .reg' [0, 1] [] ⟨[(0, (.pt 0 0 2)), (1, (.sl true a1.length 2 (a1.flatMap e44)))], [(0, [(.sl true a0.f0.length 1 (a0.f0.flatMap encI)), (.pt 2000000001 0 1)]), (2000000001, (mrow a0.f1))], [], []⟩ [c_ 12, c_ 13, c_ 7] aln nocal ?_
    refine .reg' [0, 1, 7, 8] [] ⟨[(0, (.pt 0 0 2)), (1, (.sl true a1.length 2 (a1.flatMap e44))), (7, (I (a1.length : Int))), (8, (I 0))], [(0, [(.sl true a0.f0.length 1 (a0.f0.flatMap encI)), (.pt 2000000001 0 1)]), (2000000001, (mrow a0.f1))], [], []⟩ [l_ 26, b_ 0, c_ 7] aln nocal ?_
    exact ih0 a1 a0.f0 a0.f1 0 _ h
  · intro a1 x1 x2 x3 r h
    unfold impl_search_first.l0 at h
    refine .loop' [c_ 104, c_ 105, l_ 26, b_ 0, c_ 7] ?_
    refine .reg' [0, 1, 7, 8, 9] [] ⟨[(0, (.pt 0 0 2)), (1, (.sl true a1.length 2 (a1.flatMap e44))), (7, (I (a1.length : Int))), (8, (I x3)), (9, (B (decide (x3 < (a1.length : Int)))))], [(0, [(.sl true x1.length 1 (x1.flatMap encI)), (.pt 2000000001 0 1)]), (2000000001, (mrow x2))], [], []⟩ [c_ 210, c_ 211, l_ 26, b_ 0, c_ 7] aln nocal ?_
    by_cases c1 : x3 < (a1.length : Int)
    · rw [if_pos c1] at h
      refine .cond' (.tmp 9) true [c_ 1688, c_ 1689, b_ 1, c_ 423, l_ 26, b_ 0, c_ 7] (bT (dT c1)) ?_
      refine .reg' [0, 1, 5, 7, 8] [] ⟨[(0, (.pt 0 0 2)), (1, (.sl true a1.length 2 (a1.flatMap e44))), (5, (I x3)), (7, (I (a1.length : Int))), (8, (I x3))], [(0, [(.sl true x1.length 1 (x1.flatMap encI)), (.pt 2000000001 0 1)]), (2000000001, (mrow x2))], [], []⟩ [c_ 3378, c_ 3379, b_ 1, c_ 423, l_ 26, b_ 0, c_ 7] aln nocal ?_
      obtain ⟨x4, hx4, h⟩ := Option.bind_eq_some_iff.mp h
      by_cases c2 : x4 = true
      · rw [if_pos c2] at h
        obtain ⟨x5, hx5, h⟩ := Option.bind_eq_some_iff.mp h
        obtain ⟨x6, hx6, h⟩ := Option.bind_eq_some_iff.mp h
        refine .reg' [0, 1, 5, 7, 8, 24] [.no, .no, .no, .no, .no, .no, .c ⟨46, [(.sl true x1.length 1 (x1.flatMap encI)), (.sl true a1.length 2 (a1.flatMap e44)), (I x3)], [], (B x4), [], [], [], [], (B x4), []⟩, .v (B true), .no, .no, .no, .c ⟨49, [(.sl true a1.length 2 (a1.flatMap e44)), (I x3)], [], (.sl false x5.length 2 (x5.flatMap e44)), [], [], [], [], (.sl false x5.length 2 (x5.flatMap e44)), []⟩, .c ⟨52, [(.pt 0 0 2), (.sl true x5.length 2 (x5.flatMap e44))], [(0, [(.sl true x1.length 1 (x1.flatMap encI)), (.pt 2000000001 0 1)]), (2000000001, (mrow x2))], (B x6.1), [(0, [(.sl true x6.2.1.f0.length 1 (x6.2.1.f0.flatMap encI)), (.pt 2000000001 0 1)]), (2000000001, (mrow x6.2.2))], [], [(0, 0), (2000000001, 2000000001)], [(0, 0), (2000000001, 2000000001)], (B x6.1), [(0, [(.sl true x6.2.1.f0.length 1 (x6.2.1.f0.flatMap encI)), (.pt 2000000001 0 1)]), (2000000001, (mrow x6.2.2))]⟩] ⟨[(0, (.pt 0 0 2)), (1, (.sl true a1.length 2 (a1.flatMap e44))), (5, (I x3)), (7, (I (a1.length : Int))), (8, (I x3)), (24, (B x6.1))], [(0, [(.sl true x6.2.1.f0.length 1 (x6.2.1.f0.flatMap encI)), (.pt 2000000001 0 1)]), (2000000001, (mrow x6.2.2))], [2 = 2 ∧ 0 + 1 ≤ 2, COK (hget [(0, [(.sl true x1.length 1 (x1.flatMap encI)), (.pt 2000000001 0 1)]), (2000000001, (mrow x2))]) [(.sl true x1.length 1 (x1.flatMap encI)), (.sl true a1.length 2 (a1.flatMap e44)), (I x3)] ⟨46, [(.sl true x1.length 1 (x1.flatMap encI)), (.sl true a1.length 2 (a1.flatMap e44)), (I x3)], [], (B x4), [], [], [], [], (B x4), []⟩, (B x4 : V) = B true, COK (hget [(0, [(.sl true x1.length 1 (x1.flatMap encI)), (.pt 2000000001 0 1)]), (2000000001, (mrow x2))]) [(.sl true a1.length 2 (a1.flatMap e44)), (I x3)] ⟨49, [(.sl true a1.length 2 (a1.flatMap e44)), (I x3)], [], (.sl false x5.length 2 (x5.flatMap e44)), [], [], [], [], (.sl false x5.length 2 (x5.flatMap e44)), []⟩, COK (hget [(0, [(.sl true x1.length 1 (x1.flatMap encI)), (.pt 2000000001 0 1)]), (2000000001, (mrow x2))]) [(.pt 0 0 2), (.sl false x5.length 2 (x5.flatMap e44))] ⟨52, [(.pt 0 0 2), (.sl true x5.length 2 (x5.flatMap e44))], [(0, [(.sl true x1.length 1 (x1.flatMap encI)), (.pt 2000000001 0 1)]), (2000000001, (mrow x2))], (B x6.1), [(0, [(.sl true x6.2.1.f0.length 1 (x6.2.1.f0.flatMap encI)), (.pt 2000000001 0 1)]), (2000000001, (mrow x6.2.2))], [], [(0, 0), (2000000001, 2000000001)], [(0, 0), (2000000001, 2000000001)], (B x6.1), [(0, [(.sl true x6.2.1.f0.length 1 (x6.2.1.f0.flatMap encI)), (.pt 2000000001 0 1)]), (2000000001, (mrow x6.2.2))]⟩], [⟨46, [(.sl true x1.length 1 (x1.flatMap encI)), (.sl true a1.length 2 (a1.flatMap e44)), (I x3)], [], (B x4), [], [], [], [], (B x4), []⟩, ⟨49, [(.sl true a1.length 2 (a1.flatMap e44)), (I x3)], [], (.sl false x5.length 2 (x5.flatMap e44)), [], [], [], [], (.sl false x5.length 2 (x5.flatMap e44)), []⟩, ⟨52, [(.pt 0 0 2), (.sl true x5.length 2 (x5.flatMap e44))], [(0, [(.sl true x1.length 1 (x1.flatMap encI)), (.pt 2000000001 0 1)]), (2000000001, (mrow x2))], (B x6.1), [(0, [(.sl true x6.2.1.f0.length 1 (x6.2.1.f0.flatMap encI)), (.pt 2000000001 0 1)]), (2000000001, (mrow x6.2.2))], [], [(0, 0), (2000000001, 2000000001)], [(0, 0), (2000000001, 2000000001)], (B x6.1), [(0, [(.sl true x6.2.1.f0.length 1 (x6.2.1.f0.flatMap encI)), (.pt 2000000001 0 1)]), (2000000001, (mrow x6.2.2))]⟩]⟩ [c_ 3379, b_ 1, c_ 423, l_ 26, b_ 0, c_ 7] (alc ⟨rfl, by decide⟩ (alc (cok0 false (a2c (.z (frz_sl encI_ok (fun h => h))) (a2c (.z (frz_sl e44_ok (fun h => h))) (a2c (.z .s) a2n))) (.z .s) (fun h => absurd h (by decide))) (alc (bT c2) (alc (cok0 false (a2c (.z (frz_sl e44_ok (fun h => h))) (a2c (.z .s) a2n)) (.z (clnS e44_c (fun h => absurd h (by decide)))) (fun h => absurd h (by decide))) (alc (cokW true (a2c (.pt (memP_mem (p := (0, 0)) rfl)) (a2c (.z (frz_sl (t := false) e44_ok (fun h => absurd h (by decide)))) a2n)) (akc ⟨_, _, rfl, rfl, (a2c (.z (frz_sl encI_ok (fun h => h))) (a2c (.pt (memP_mem (p := (2000000001, 2000000001)) rfl)) a2n))⟩ (akc ⟨_, _, rfl, rfl, (mrowC _)⟩ akn)) (akc (.inl rfl) (akc (.inl rfl) akn)) (.z .s) (akc ⟨_, _, rfl, rfl, (a2c (.z (clnS encI_c (fun h => rfl))) (a2c (.pt (memP_mem (p := (2000000001, 2000000001)) rfl)) a2n))⟩ (akc ⟨_, _, rfl, rfl, mrowB _⟩ akn)) (fun h => rfl)) aln))))) (acal (impl_mayMove.J k x1 a1 x3 _ hx4) (acal (.cw' [512] [] (impl_moved.J a1 x3 _ hx5) shn (.z (frz_rf (k := 512) e44_ok (by simp) rfl rfl (row_len e44_ok _).symm))) (acal (m0_ihf (⟨x1, x2⟩ : S65) x5 _ hx6) nocal))) ?_
        by_cases c3 : x6.1 = true
        · rw [if_pos c3] at h
          refine .cond' (.tmp 24) true [c_ 13516, c_ 13517, b_ 1, c_ 423, l_ 26, b_ 0, c_ 7] (bT c3) ?_
          refine .reg' [4] [] ⟨[(4, (I x3))], [(0, [(.sl true x6.2.1.f0.length 1 (x6.2.1.f0.flatMap encI)), (.pt 2000000001 0 1)]), (2000000001, (mrow x6.2.2))], [], []⟩ [c_ 13517, b_ 1, c_ 423, l_ 26, b_ 0, c_ 7] aln nocal ?_
          have h := Option.some.inj h
          subst h
          exact .fin' [] [(0, 0), (2000000001, 2000000001)] (I x3) [] aln (shc 0 (a2c (.z (frz_sl encI_ok (fun h => h))) (a2c (.pt (memP_mem (p := (2000000001, 2000000001)) rfl)) a2n)) (shc 2000000001 (mrowC _) shn)) (.z .s)
        · rw [if_neg c3] at h
          refine .cond' (.tmp 24) false [c_ 423, l_ 26, b_ 0, c_ 7] (bF (vF c3)) ?_
          refine .reg' [0, 1, 7, 8] [] ⟨[(0, (.pt 0 0 2)), (1, (.sl true a1.length 2 (a1.flatMap e44))), (7, (I (a1.length : Int))), (8, (I (wrap64 (x3 + 1))))], [(0, [(.sl true x6.2.1.f0.length 1 (x6.2.1.f0.flatMap encI)), (.pt 2000000001 0 1)]), (2000000001, (mrow x6.2.2))], [], []⟩ [l_ 26, b_ 0, c_ 7] aln nocal ?_
          exact ih0 a1 x6.2.1.f0 x6.2.2 (wrap64 (x3 + 1)) _ h
      · rw [if_neg c2] at h
        refine .reg' [0, 1, 5, 7, 8, 24] [.no, .no, .no, .no, .no, .no, .c ⟨46, [(.sl true x1.length 1 (x1.flatMap encI)), (.sl true a1.length 2 (a1.flatMap e44)), (I x3)], [], (B x4), [], [], [], [], (B x4), []⟩, .v (B false)] ⟨[(0, (.pt 0 0 2)), (1, (.sl true a1.length 2 (a1.flatMap e44))), (5, (I x3)), (7, (I (a1.length : Int))), (8, (I x3)), (24, (B false))], [(0, [(.sl true x1.length 1 (x1.flatMap encI)), (.pt 2000000001 0 1)]), (2000000001, (mrow x2))], [2 = 2 ∧ 0 + 1 ≤ 2, COK (hget [(0, [(.sl true x1.length 1 (x1.flatMap encI)), (.pt 2000000001 0 1)]), (2000000001, (mrow x2))]) [(.sl true x1.length 1 (x1.flatMap encI)), (.sl true a1.length 2 (a1.flatMap e44)), (I x3)] ⟨46, [(.sl true x1.length 1 (x1.flatMap encI)), (.sl true a1.length 2 (a1.flatMap e44)), (I x3)], [], (B x4), [], [], [], [], (B x4), []⟩, (B x4 : V) = B false], [⟨46, [(.sl true x1.length 1 (x1.flatMap encI)), (.sl true a1.length 2 (a1.flatMap e44)), (I x3)], [], (B x4), [], [], [], [], (B x4), []⟩]⟩ [c_ 3379, b_ 1, c_ 423, l_ 26, b_ 0, c_ 7] (alc ⟨rfl, by decide⟩ (alc (cok0 false (a2c (.z (frz_sl encI_ok (fun h => h))) (a2c (.z (frz_sl e44_ok (fun h => h))) (a2c (.z .s) a2n))) (.z .s) (fun h => absurd h (by decide))) (alc (bF (vF c2)) aln))) (acal (impl_mayMove.J k x1 a1 x3 _ hx4) nocal) ?_
        refine .cond' (.tmp 24) false [c_ 423, l_ 26, b_ 0, c_ 7] (rfl) ?_
        refine .reg' [0, 1, 7, 8] [] ⟨[(0, (.pt 0 0 2)), (1, (.sl true a1.length 2 (a1.flatMap e44))), (7, (I (a1.length : Int))), (8, (I (wrap64 (x3 + 1))))], [(0, [(.sl true x1.length 1 (x1.flatMap encI)), (.pt 2000000001 0 1)]), (2000000001, (mrow x2))], [], []⟩ [l_ 26, b_ 0, c_ 7] aln nocal ?_
        exact ih0 a1 x1 x2 (wrap64 (x3 + 1)) _ h
    · rw [if_neg c1] at h
      refine .cond' (.tmp 9) false [c_ 14, c_ 15] (bF (dF c1)) ?_
      refine .reg' [4] [] ⟨[(4, (I (-1)))], [(0, [(.sl true x1.length 1 (x1.flatMap encI)), (.pt 2000000001 0 1)]), (2000000001, (mrow x2))], [], []⟩ [c_ 15] aln nocal ?_
      have h := Option.some.inj h
      subst h
      exact .fin' [] [(0, 0), (2000000001, 2000000001)] (I (-1)) [] aln (shc 0 (a2c (.z (frz_sl encI_ok (fun h => h))) (a2c (.pt (memP_mem (p := (2000000001, 2000000001)) rfl)) a2n)) (shc 2000000001 (mrowC _) shn)) (.z .s)
  · intro a0 a1 r h
    unfold impl_search_canFinish.f at h
    refine .call' [c_ 2, c_ 3] ?_
    refine .reg' [0, 1] [] ⟨[(0, (.pt 0 0 2)), (1, (.sl true a1.length 2 (a1.flatMap e44)))], [(0, [(.sl true a0.f0.length 1 (a0.f0.flatMap encI)), (.pt 2000000001 0 1)]), (2000000001, (mrow a0.f1))], [], []⟩ [c_ 12, c_ 13, c_ 7] aln nocal ?_
    obtain ⟨x1, hx1, h⟩ := Option.bind_eq_some_iff.mp h
    refine .reg' [0, 1, 9] [.no, .c ⟨48, [(.sl true a1.length 2 (a1.flatMap e44))], [], (B x1), [], [], [], [], (B x1), []⟩] ⟨[(0, (.pt 0 0 2)), (1, (.sl true a1.length 2 (a1.flatMap e44))), (9, (B x1))], [(0, [(.sl true a0.f0.length 1 (a0.f0.flatMap encI)), (.pt 2000000001 0 1)]), (2000000001, (mrow a0.f1))], [COK (hget [(0, [(.sl true a0.f0.length 1 (a0.f0.flatMap encI)), (.pt 2000000001 0 1)]), (2000000001, (mrow a0.f1))]) [(.sl true a1.length 2 (a1.flatMap e44))] ⟨48, [(.sl true a1.length 2 (a1.flatMap e44))], [], (B x1), [], [], [], [], (B x1), []⟩], [⟨48, [(.sl true a1.length 2 (a1.flatMap e44))], [], (B x1), [], [], [], [], (B x1), []⟩]⟩ [c_ 13, c_ 7] (alc (cok0 false (a2c (.z (frz_sl e44_ok (fun h => h))) a2n) (.z .s) (fun h => absurd h (by decide))) aln) (acal (impl_home.J k a1 _ hx1) nocal) ?_
    by_cases c1 : x1 = true
    · rw [if_pos c1] at h
      refine .cond' (.tmp 9) true [c_ 52, c_ 53, c_ 7] (bT c1) ?_
      refine .reg' [4] [] ⟨[(4, (B true))], [(0, [(.sl true a0.f0.length 1 (a0.f0.flatMap encI)), (.pt 2000000001 0 1)]), (2000000001, (mrow a0.f1))], [], []⟩ [c_ 53, c_ 7] aln nocal ?_
      have h := Option.some.inj h
      subst h
      exact .fin' [] [(0, 0), (2000000001, 2000000001)] (B true) [] aln (shc 0 (a2c (.z (frz_sl encI_ok (fun h => h))) (a2c (.pt (memP_mem (p := (2000000001, 2000000001)) rfl)) a2n)) (shc 2000000001 (mrowC _) shn)) (.z .s)
    · rw [if_neg c1] at h
      refine .cond' (.tmp 9) false [c_ 14, c_ 15] (bF (vF c1)) ?_
      refine .reg' [0, 1, 5] [] ⟨[(0, (.pt 0 0 2)), (1, (.sl true a1.length 2 (a1.flatMap e44))), (5, (.pt 1024 0 4))], [(0, [(.sl true a0.f0.length 1 (a0.f0.flatMap encI)), (.pt 2000000001 0 1)]), (2000000001, (mrow a0.f1)), (1024, ((List.replicate 4 (0 : Int)).flatMap encI))], [], []⟩ [c_ 60, c_ 61, c_ 31] aln nocal ?_
      refine .eqs (env2 := [(0, (.pt 0 0 2)), (1, (.sl true a1.length 2 (a1.flatMap e44))), (5, (.pt 1024 0 ((List.replicate 4 (0 : Int)).length * 1)))]) (H2 := [(0, [(.sl true a0.f0.length 1 (a0.f0.flatMap encI)), (.pt 2000000001 0 1)]), (2000000001, (mrow a0.f1)), (1024, ((List.replicate 4 (0 : Int)).flatMap encI))]) (by first | (simp only [List.length_set]; done) | simp) (by first | rfl | (simp only [List.length_set]; done) | simp) ?_
      refine .reg' [0, 1, 5, 10, 11, 12] [] ⟨[(0, (.pt 0 0 2)), (1, (.sl true a1.length 2 (a1.flatMap e44))), (5, (.pt 1024 0 ((List.replicate 4 (0 : Int)).length * 1))), (10, (.sl true a1.length 2 (a1.flatMap e44))), (11, (I (a1.length : Int))), (12, (I 0))], [(0, [(.sl true a0.f0.length 1 (a0.f0.flatMap encI)), (.pt 2000000001 0 1)]), (2000000001, (mrow a0.f1)), (1024, ((List.replicate 4 (0 : Int)).flatMap encI))], [], []⟩ [l_ 122, b_ 0, c_ 31] aln nocal ?_
      exact m0_ih0 a0 a1 (List.replicate 4 (0 : Int)) 0 _ h
  · intro a0 a1 x2 x3 r h
    unfold impl_search_canFinish.l0 at h
    refine .loop' [c_ 488, c_ 489, l_ 122, b_ 0, c_ 31] ?_
    refine .reg' [0, 1, 5, 10, 11, 12, 13] [] ⟨[(0, (.pt 0 0 2)), (1, (.sl true a1.length 2 (a1.flatMap e44))), (5, (.pt 1024 0 (x2.length * 1))), (10, (.sl true a1.length 2 (a1.flatMap e44))), (11, (I (a1.length : Int))), (12, (I x3)), (13, (B (decide (x3 < (a1.length : Int)))))], [(0, [(.sl true a0.f0.length 1 (a0.f0.flatMap encI)), (.pt 2000000001 0 1)]), (2000000001, (mrow a0.f1)), (1024, (x2.flatMap encI))], [], []⟩ [c_ 978, c_ 979, l_ 122, b_ 0, c_ 31] aln nocal ?_
    by_cases c2 : x3 < (a1.length : Int)
    · rw [if_pos c2] at h
      refine .cond' (.tmp 13) true [c_ 7832, c_ 7833, b_ 1, c_ 1959, l_ 122, b_ 0, c_ 31] (bT (dT c2)) ?_
      by_cases c3 : 0 ≤ x3
      · rw [if_pos c3] at h
        refine .reg' [0, 1, 5, 6, 7, 10, 11, 12] [.no, .no, .v (.ag [(I (at_ a1 x3).f0), (I (at_ a1 x3).f1)])] ⟨[(0, (.pt 0 0 2)), (1, (.sl true a1.length 2 (a1.flatMap e44))), (5, (.pt 1024 0 (x2.length * 1))), (6, (I x3)), (7, (.pt 1795 0 2)), (10, (.sl true a1.length 2 (a1.flatMap e44))), (11, (I (a1.length : Int))), (12, (I x3))], [(0, [(.sl true a0.f0.length 1 (a0.f0.flatMap encI)), (.pt 2000000001 0 1)]), (2000000001, (mrow a0.f1)), (1024, (x2.flatMap encI)), (1795, [(I (at_ a1 x3).f0), (I (at_ a1 x3).f1)])], [(0 : Int) ≤ x3 ∧ x3 < (a1.length : Int), rdC prog 45 ((a1.flatMap e44).drop (x3.toNat * 2)) = (.ag [(I (at_ a1 x3).f0), (I (at_ a1 x3).f1)]), 2 ≤ ((a1.flatMap e44).drop (x3.toNat * 2)).length, 2 = 2 ∧ 0 + 2 ≤ 2], []⟩ [c_ 7833, b_ 1, c_ 1959, l_ 122, b_ 0, c_ 31] (alc ⟨c3, c2⟩ (alc (ldA e44_ok rfl rfl c3 c2) (alc (okI e44_ok c3 c2 (by decide)) (alc ⟨rfl, by decide⟩ aln)))) nocal ?_
        by_cases c4 : x3 < 4
        · rw [if_pos c4] at h
          by_cases c5 : x3 < (x2.length : Int)
          · rw [if_pos c5] at h
            refine .reg' [0, 1, 5, 10, 11, 12] [.no, .no, .no, .no, .w .un ((x2.set x3.toNat ((at_ a1 x3).f0)).flatMap encI)] ⟨[(0, (.pt 0 0 2)), (1, (.sl true a1.length 2 (a1.flatMap e44))), (5, (.pt 1024 0 (x2.length * 1))), (10, (.sl true a1.length 2 (a1.flatMap e44))), (11, (I (a1.length : Int))), (12, (I x3))], [(0, [(.sl true a0.f0.length 1 (a0.f0.flatMap encI)), (.pt 2000000001 0 1)]), (2000000001, (mrow a0.f1)), (1024, ((x2.set x3.toNat ((at_ a1 x3).f0)).flatMap encI)), (1795, [(I (at_ a1 x3).f0), (I (at_ a1 x3).f1)])], [2 = 2 ∧ 0 + 1 ≤ 2, (0 : Int) ≤ x3 ∧ x3 < 4, V.un = V.un, spl (x2.flatMap encI) (0 + x3.toNat * 1) [(I (at_ a1 x3).f0)] = ((x2.set x3.toNat ((at_ a1 x3).f0)).flatMap encI), x2.length * 1 = (x2.flatMap encI).length ∧ 0 + x3.toNat * 1 + 1 ≤ (x2.flatMap encI).length], []⟩ [c_ 1959, l_ 122, b_ 0, c_ 31] (alc ⟨rfl, by decide⟩ (alc ⟨c3, c4⟩ (alc rfl (alc (st_row1 encI_ok c3 c5 (I (at_ a1 x3).f0) rfl) (alc (okA0 encI_ok c3 c5 (by decide)) aln))))) nocal ?_
            refine .eqs (env2 := [(0, (.pt 0 0 2)), (1, (.sl true a1.length 2 (a1.flatMap e44))), (5, (.pt 1024 0 ((x2.set x3.toNat ((at_ a1 x3).f0)).length * 1))), (10, (.sl true a1.length 2 (a1.flatMap e44))), (11, (I (a1.length : Int))), (12, (I x3))]) (H2 := [(0, [(.sl true a0.f0.length 1 (a0.f0.flatMap encI)), (.pt 2000000001 0 1)]), (2000000001, (mrow a0.f1)), (1024, ((x2.set x3.toNat ((at_ a1 x3).f0)).flatMap encI)), (1795, [(I (at_ a1 x3).f0), (I (at_ a1 x3).f1)])]) (by first | (simp only [List.length_set]; done) | simp) (by first | rfl | (simp only [List.length_set]; done) | simp) ?_
            refine .reg' [0, 1, 5, 10, 11, 12] [] ⟨[(0, (.pt 0 0 2)), (1, (.sl true a1.length 2 (a1.flatMap e44))), (5, (.pt 1024 0 ((x2.set x3.toNat ((at_ a1 x3).f0)).length * 1))), (10, (.sl true a1.length 2 (a1.flatMap e44))), (11, (I (a1.length : Int))), (12, (I (wrap64 (x3 + 1))))], [(0, [(.sl true a0.f0.length 1 (a0.f0.flatMap encI)), (.pt 2000000001 0 1)]), (2000000001, (mrow a0.f1)), (1024, ((x2.set x3.toNat ((at_ a1 x3).f0)).flatMap encI)), (1795, [(I (at_ a1 x3).f0), (I (at_ a1 x3).f1)])], [], []⟩ [l_ 122, b_ 0, c_ 31] aln nocal ?_
            refine .wk' [] [(0, 0), (2000000001, 2000000001), (1024, 1024)] [(0, (.pt 0 0 2)), (1, (.sl true a1.length 2 (a1.flatMap e44))), (5, (.pt 1024 0 ((x2.set x3.toNat ((at_ a1 x3).f0)).length * 1))), (10, (.sl true a1.length 2 (a1.flatMap e44))), (11, (I (a1.length : Int))), (12, (I (wrap64 (x3 + 1))))] [(0, [(.sl true a0.f0.length 1 (a0.f0.flatMap encI)), (.pt 2000000001 0 1)]), (2000000001, (mrow a0.f1)), (1024, ((x2.set x3.toNat ((at_ a1 x3).f0)).flatMap encI))] (shc 0 (a2c (.z (frz_sl encI_ok (fun h => h))) (a2c (.pt (memP_mem (p := (2000000001, 2000000001)) rfl)) a2n)) (shc 2000000001 (mrowC _) (shc 1024 (rowF encI_ok _) shn))) (enc_ (.pt (memP_mem (p := (0, 0)) rfl)) (enc_ (.z (frz_sl e44_ok (fun h => h))) (enc_ (.pt (memP_mem (p := (1024, 1024)) rfl)) (enc_ (.z (frz_sl e44_ok (fun h => h))) (enc_ (.z .s) (enc_ (.z .s) enn)))))) ?_
            exact m0_ih0 a0 a1 (x2.set x3.toNat ((at_ a1 x3).f0)) (wrap64 (x3 + 1)) _ h
          · rw [if_neg c5] at h
            cases h
        · rw [if_neg c4] at h
          cases h
      · rw [if_neg c3] at h
        cases h
    · rw [if_neg c2] at h
      refine .cond' (.tmp 13) false [c_ 124, c_ 125, c_ 63] (bF (dF c2)) ?_
      by_cases c6 : x2.length = 4
      · rw [if_pos c6] at h
        by_cases c7 : kOk 4 a0.f1 = true
        · rw [if_pos c7] at h
          by_cases c8 : kOk1 4 x2 = true
          · rw [if_pos c8] at h
            refine .reg' [0, 1, 5, 27] [.no, .no, .no, .no, .v (.ag (x2.flatMap encI)), .v (B (kHas a0.f1 x2))] ⟨[(0, (.pt 0 0 2)), (1, (.sl true a1.length 2 (a1.flatMap e44))), (5, (.pt 1024 0 (x2.length * 1))), (27, (B (kHas a0.f1 x2)))], [(0, [(.sl true a0.f0.length 1 (a0.f0.flatMap encI)), (.pt 2000000001 0 1)]), (2000000001, (mrow a0.f1)), (1024, (x2.flatMap encI))], [2 = 2 ∧ 1 + 1 ≤ 2, rdC prog 67 ((x2.flatMap encI).drop 0) = (.ag (x2.flatMap encI)), x2.length * 1 = (x2.flatMap encI).length ∧ 0 + 4 ≤ (x2.flatMap encI).length, (B (hasK (a0.f1.map kV) (x2.flatMap encI)) : V) = (B (kHas a0.f1 x2)), (∀ v, v ∈ a0.f1.map kV → KeyP 4 v) ∧ KeyP 4 (.ag (x2.flatMap encI))], []⟩ [c_ 125, c_ 63] (alc ⟨rfl, by decide⟩ (alc (ldAll encI_ok rfl rfl c6) (alc (okAll encI_ok c6) (alc (lkV _ _) (alc (kob c7 c8) aln))))) nocal ?_
            by_cases c9 : (kHas a0.f1 x2) = true
            · rw [if_pos c9] at h
              refine .cond' (.tmp 27) true [c_ 500, c_ 501, c_ 63] (bT c9) ?_
              refine .reg' [4] [] ⟨[(4, (B false))], [(0, [(.sl true a0.f0.length 1 (a0.f0.flatMap encI)), (.pt 2000000001 0 1)]), (2000000001, (mrow a0.f1)), (1024, (x2.flatMap encI))], [], []⟩ [c_ 501, c_ 63] aln nocal ?_
              have h := Option.some.inj h
              subst h
              exact .fin' [] [(0, 0), (2000000001, 2000000001)] (B false) [] aln (shc 0 (a2c (.z (frz_sl encI_ok (fun h => h))) (a2c (.pt (memP_mem (p := (2000000001, 2000000001)) rfl)) a2n)) (shc 2000000001 (mrowC _) shn)) (.z .s)
            · rw [if_neg c9] at h
              refine .cond' (.tmp 27) false [c_ 252, c_ 253, c_ 127] (bF (vF c9)) ?_
              obtain ⟨x4, hx4, h⟩ := Option.bind_eq_some_iff.mp h
              refine .reg' [0, 5, 31] [.no, .no, .c ⟨53, [(.pt 0 0 2), (.sl true a1.length 2 (a1.flatMap e44))], [(0, [(.sl true a0.f0.length 1 (a0.f0.flatMap encI)), (.pt 2000000001 0 1)]), (2000000001, (mrow a0.f1))], (I x4.1), [(0, [(.sl true x4.2.1.f0.length 1 (x4.2.1.f0.flatMap encI)), (.pt 2000000001 0 1)]), (2000000001, (mrow x4.2.2))], [], [(0, 0), (2000000001, 2000000001)], [(0, 0), (2000000001, 2000000001)], (I x4.1), [(0, [(.sl true x4.2.1.f0.length 1 (x4.2.1.f0.flatMap encI)), (.pt 2000000001 0 1)]), (2000000001, (mrow x4.2.2))]⟩] ⟨[(0, (.pt 0 0 2)), (5, (.pt 1024 0 (x2.length * 1))), (31, (B (decide (x4.1 ≥ 0))))], [(0, [(.sl true x4.2.1.f0.length 1 (x4.2.1.f0.flatMap encI)), (.pt 2000000001 0 1)]), (2000000001, (mrow x4.2.2)), (1024, (x2.flatMap encI))], [COK (hget [(0, [(.sl true a0.f0.length 1 (a0.f0.flatMap encI)), (.pt 2000000001 0 1)]), (2000000001, (mrow a0.f1)), (1024, (x2.flatMap encI))]) [(.pt 0 0 2), (.sl true a1.length 2 (a1.flatMap e44))] ⟨53, [(.pt 0 0 2), (.sl true a1.length 2 (a1.flatMap e44))], [(0, [(.sl true a0.f0.length 1 (a0.f0.flatMap encI)), (.pt 2000000001 0 1)]), (2000000001, (mrow a0.f1))], (I x4.1), [(0, [(.sl true x4.2.1.f0.length 1 (x4.2.1.f0.flatMap encI)), (.pt 2000000001 0 1)]), (2000000001, (mrow x4.2.2))], [], [(0, 0), (2000000001, 2000000001)], [(0, 0), (2000000001, 2000000001)], (I x4.1), [(0, [(.sl true x4.2.1.f0.length 1 (x4.2.1.f0.flatMap encI)), (.pt 2000000001 0 1)]), (2000000001, (mrow x4.2.2))]⟩], [⟨53, [(.pt 0 0 2), (.sl true a1.length 2 (a1.flatMap e44))], [(0, [(.sl true a0.f0.length 1 (a0.f0.flatMap encI)), (.pt 2000000001 0 1)]), (2000000001, (mrow a0.f1))], (I x4.1), [(0, [(.sl true x4.2.1.f0.length 1 (x4.2.1.f0.flatMap encI)), (.pt 2000000001 0 1)]), (2000000001, (mrow x4.2.2))], [], [(0, 0), (2000000001, 2000000001)], [(0, 0), (2000000001, 2000000001)], (I x4.1), [(0, [(.sl true x4.2.1.f0.length 1 (x4.2.1.f0.flatMap encI)), (.pt 2000000001 0 1)]), (2000000001, (mrow x4.2.2))]⟩]⟩ [c_ 253, c_ 127] (alc (cokW true (a2c (.pt (memP_mem (p := (0, 0)) rfl)) (a2c (.z (frz_sl e44_ok (fun h => h))) a2n)) (akc ⟨_, _, rfl, rfl, (a2c (.z (frz_sl encI_ok (fun h => h))) (a2c (.pt (memP_mem (p := (2000000001, 2000000001)) rfl)) a2n))⟩ (akc ⟨_, _, rfl, rfl, (mrowC _)⟩ akn)) (akc (.inl rfl) (akc (.inl rfl) akn)) (.z .s) (akc ⟨_, _, rfl, rfl, (a2c (.z (clnS encI_c (fun h => rfl))) (a2c (.pt (memP_mem (p := (2000000001, 2000000001)) rfl)) a2n))⟩ (akc ⟨_, _, rfl, rfl, mrowB _⟩ akn)) (fun h => rfl)) aln) (acal (ihf a0 a1 _ hx4) nocal) ?_
              by_cases c10 : x4.1 ≥ 0
              · rw [if_pos c10] at h
                refine .cond' (.tmp 31) true [c_ 1012, c_ 1013, c_ 127] (bT (dT c10)) ?_
                refine .reg' [4] [] ⟨[(4, (B true))], [(0, [(.sl true x4.2.1.f0.length 1 (x4.2.1.f0.flatMap encI)), (.pt 2000000001 0 1)]), (2000000001, (mrow x4.2.2)), (1024, (x2.flatMap encI))], [], []⟩ [c_ 1013, c_ 127] aln nocal ?_
                have h := Option.some.inj h
                subst h
                exact .fin' [] [(0, 0), (2000000001, 2000000001)] (B true) [] aln (shc 0 (a2c (.z (frz_sl encI_ok (fun h => h))) (a2c (.pt (memP_mem (p := (2000000001, 2000000001)) rfl)) a2n)) (shc 2000000001 (mrowC _) shn)) (.z .s)
              · rw [if_neg c10] at h
                refine .cond' (.tmp 31) false [c_ 254, c_ 255] (bF (dF c10)) ?_
                by_cases c11 : kOk 4 x4.2.2 = true
                · rw [if_pos c11] at h
                  refine .reg' [] [.no, .no, .no, .no, .v (.ag (x2.flatMap encI)), .w .un (mrow (kIns x4.2.2 x2))] ⟨[], [(0, [(.sl true x4.2.1.f0.length 1 (x4.2.1.f0.flatMap encI)), (.pt 2000000001 0 1)]), (2000000001, (mrow (kIns x4.2.2 x2))), (1024, (x2.flatMap encI))], [2 = 2 ∧ 1 + 1 ≤ 2, rdC prog 67 ((x2.flatMap encI).drop 0) = (.ag (x2.flatMap encI)), x2.length * 1 = (x2.flatMap encI).length ∧ 0 + 4 ≤ (x2.flatMap encI).length, V.un = V.un, [V.fn (.func 0) [] (bif hasK (x4.2.2.map kV) (x2.flatMap encI) then x4.2.2.map kV else x4.2.2.map kV ++ [.ag (x2.flatMap encI)])] = mrow (kIns x4.2.2 x2), (∀ v, v ∈ x4.2.2.map kV → KeyP 4 v) ∧ KeyP 4 (.ag (x2.flatMap encI))], []⟩ [c_ 510, c_ 511] (alc ⟨rfl, by decide⟩ (alc (ldAll encI_ok rfl rfl c6) (alc (okAll encI_ok c6) (alc rfl (alc (upV _ _) (alc (kob c11 c8) aln)))))) nocal ?_
                  refine .reg' [4] [] ⟨[(4, (B false))], [(0, [(.sl true x4.2.1.f0.length 1 (x4.2.1.f0.flatMap encI)), (.pt 2000000001 0 1)]), (2000000001, (mrow (kIns x4.2.2 x2))), (1024, (x2.flatMap encI))], [], []⟩ [c_ 511] aln nocal ?_
                  have h := Option.some.inj h
                  subst h
                  exact .fin' [] [(0, 0), (2000000001, 2000000001)] (B false) [] aln (shc 0 (a2c (.z (frz_sl encI_ok (fun h => h))) (a2c (.pt (memP_mem (p := (2000000001, 2000000001)) rfl)) a2n)) (shc 2000000001 (mrowC _) shn)) (.z .s)
                · rw [if_neg c11] at h
                  cases h
          · rw [if_neg c8] at h
            cases h
        · rw [if_neg c7] at h
          cases h
      · rw [if_neg c6] at h
        cases h
theorem impl_search_first.J (k : Nat) (a0 : S65) (a1 : (List S44)) (r : (Int × S65 × (List (List Int)))) (h : impl_search_first.f k a0 a1 = some r) : J prog (.call 53 [(.pt 0 0 2), (.sl true a1.length 2 (a1.flatMap e44))] [(0, [(.sl true a0.f0.length 1 (a0.f0.flatMap encI)), (.pt 2000000001 0 1)]), (2000000001, (mrow a0.f1))] (I r.1) [(0, [(.sl true r.2.1.f0.length 1 (r.2.1.f0.flatMap encI)), (.pt 2000000001 0 1)]), (2000000001, (mrow r.2.2))]) := by
  exact (impl_search_first.lab k).1 a0 a1 r h
theorem impl_search_canFinish.J (k : Nat) (a0 : S65) (a1 : (List S44)) (r : (Bool × S65 × (List (List Int)))) (h : impl_search_canFinish.f k a0 a1 = some r) : J prog (.call 52 [(.pt 0 0 2), (.sl true a1.length 2 (a1.flatMap e44))] [(0, [(.sl true a0.f0.length 1 (a0.f0.flatMap encI)), (.pt 2000000001 0 1)]), (2000000001, (mrow a0.f1))] (B r.1) [(0, [(.sl true r.2.1.f0.length 1 (r.2.1.f0.flatMap encI)), (.pt 2000000001 0 1)]), (2000000001, (mrow r.2.2))]) := by
  exact (impl_search_first.lab k).2.2.1 a0 a1 r h
/-! impl_Finish: function 33 -/
def impl_Finish.l0 : Nat → (List (List Int)) → (List Int) → (List Int) → (List S44) → Option (List Int)
 | 0, _, _, _, _ => none
 | k + 1, x3, x4, x5, x6 => ((impl_home.f k x6).bind fun x7 => (if x7 = true then (some x5) else ((impl_search_first.f k (⟨x4, x3⟩ : S65) x6).bind fun x8 => (if x8.1 < 0 then (some ([] : List Int)) else (if (x5.length + ([x8.1] : List Int).length) * 8 ≤ 70368744177664 then ((impl_moved.f x6 x8.1).bind fun x9 => (impl_Finish.l0 k x8.2.2 x8.2.1.f0 (x5 ++ ([x8.1] : List Int)) x9)) else none)))))
def impl_Finish.f (k : Nat) (a0 : (List Int)) (a1 : (List S44)) : Option (List Int) := ((impl_SinglesOk.f k a0 a1).bind fun x1 => (if x1 = true then ((impl_newSearch.f a0).bind fun x2 => (impl_Finish.l0 k x2.f1 x2.f0 ([] : List Int) a1)) else (some ([] : List Int))))
theorem impl_Finish.lab : ∀ k, (∀ (x3 : (List (List Int))) (x4 : (List Int)) (x5 : (List Int)) (x6 : (List S44)) (r : (List Int)), impl_Finish.l0 k x3 x4 x5 x6 = some r → J prog (.run 33 [] [l_ 124, b_ 0, c_ 63] [(1, (.sl true x6.length 2 (x6.flatMap e44))), (5, (.pt 1001025 0 2)), (6, (.rf 1280 0 x5.length 1 (x5.length * 1)))] [(2002001025, (mrow x3)), (1001025, [(.sl true x4.length 1 (x4.flatMap encI)), (.pt 2002001025 0 1)]), (1280, (x5.flatMap encI))] (.rf 1280 0 r.length 1 (r.length * 1)) [(1280, (r.flatMap encI))]))
 | 0 => (by intro x3 x4 x5 x6 r h; unfold impl_Finish.l0 at h; cases h)
 | k + 1 => by
  have ih0 := impl_Finish.lab k
  · intro x3 x4 x5 x6 r h
    unfold impl_Finish.l0 at h
    refine .loop' [c_ 992, c_ 993, c_ 497, l_ 124, b_ 0, c_ 63] ?_
    obtain ⟨x7, hx7, h⟩ := Option.bind_eq_some_iff.mp h
    refine .reg' [1, 5, 6, 17] [.no, .c ⟨48, [(.sl true x6.length 2 (x6.flatMap e44))], [], (B x7), [], [], [], [], (B x7), []⟩] ⟨[(1, (.sl true x6.length 2 (x6.flatMap e44))), (5, (.pt 1001025 0 2)), (6, (.rf 1280 0 x5.length 1 (x5.length * 1))), (17, (B (!x7)))], [(2002001025, (mrow x3)), (1001025, [(.sl true x4.length 1 (x4.flatMap encI)), (.pt 2002001025 0 1)]), (1280, (x5.flatMap encI))], [COK (hget [(2002001025, (mrow x3)), (1001025, [(.sl true x4.length 1 (x4.flatMap encI)), (.pt 2002001025 0 1)]), (1280, (x5.flatMap encI))]) [(.sl true x6.length 2 (x6.flatMap e44))] ⟨48, [(.sl true x6.length 2 (x6.flatMap e44))], [], (B x7), [], [], [], [], (B x7), []⟩], [⟨48, [(.sl true x6.length 2 (x6.flatMap e44))], [], (B x7), [], [], [], [], (B x7), []⟩]⟩ [c_ 993, c_ 497, l_ 124, b_ 0, c_ 63] (alc (cok0 false (a2c (.z (frz_sl e44_ok (fun h => h))) a2n) (.z .s) (fun h => absurd h (by decide))) aln) (acal (impl_home.J k x6 _ hx7) nocal) ?_
    by_cases c2 : x7 = true
    · rw [if_pos c2] at h
      refine .cond' (.tmp 17) false [c_ 126, c_ 127] (bF (nF c2)) ?_
      refine .reg' [4] [] ⟨[(4, (.rf 1280 0 x5.length 1 (x5.length * 1)))], [(2002001025, (mrow x3)), (1001025, [(.sl true x4.length 1 (x4.flatMap encI)), (.pt 2002001025 0 1)]), (1280, (x5.flatMap encI))], [], []⟩ [c_ 127] aln nocal ?_
      have h := Option.some.inj h
      subst h
      exact .fin' [] [(1280, 1280)] (.rf 1280 0 x5.length 1 (x5.length * 1)) [] aln (shc 1280 (rowF encI_ok _) shn) (.rf (memP_mem (p := (1280, 1280)) rfl))
    · rw [if_neg c2] at h
      refine .cond' (.tmp 17) true [c_ 1988, c_ 1989, b_ 1, l_ 124, b_ 0, c_ 63] (bT (nT (vF c2))) ?_
      obtain ⟨x8, hx8, h⟩ := Option.bind_eq_some_iff.mp h
      refine .reg' [1, 5, 6, 7] [.no, .no, .c ⟨53, [(.pt 0 0 2), (.sl true x6.length 2 (x6.flatMap e44))], [(0, [(.sl true x4.length 1 (x4.flatMap encI)), (.pt 2000000001 0 1)]), (2000000001, (mrow x3))], (I x8.1), [(0, [(.sl true x8.2.1.f0.length 1 (x8.2.1.f0.flatMap encI)), (.pt 2000000001 0 1)]), (2000000001, (mrow x8.2.2))], [], [(1001025, 0), (2002001025, 2000000001)], [(1001025, 0), (2002001025, 2000000001)], (I x8.1), [(1001025, [(.sl true x8.2.1.f0.length 1 (x8.2.1.f0.flatMap encI)), (.pt 2002001025 0 1)]), (2002001025, (mrow x8.2.2))]⟩] ⟨[(1, (.sl true x6.length 2 (x6.flatMap e44))), (5, (.pt 1001025 0 2)), (6, (.rf 1280 0 x5.length 1 (x5.length * 1))), (7, (I x8.1))], [(2002001025, (mrow x8.2.2)), (1001025, [(.sl true x8.2.1.f0.length 1 (x8.2.1.f0.flatMap encI)), (.pt 2002001025 0 1)]), (1280, (x5.flatMap encI))], [COK (hget [(2002001025, (mrow x3)), (1001025, [(.sl true x4.length 1 (x4.flatMap encI)), (.pt 2002001025 0 1)]), (1280, (x5.flatMap encI))]) [(.pt 1001025 0 2), (.sl true x6.length 2 (x6.flatMap e44))] ⟨53, [(.pt 0 0 2), (.sl true x6.length 2 (x6.flatMap e44))], [(0, [(.sl true x4.length 1 (x4.flatMap encI)), (.pt 2000000001 0 1)]), (2000000001, (mrow x3))], (I x8.1), [(0, [(.sl true x8.2.1.f0.length 1 (x8.2.1.f0.flatMap encI)), (.pt 2000000001 0 1)]), (2000000001, (mrow x8.2.2))], [], [(1001025, 0), (2002001025, 2000000001)], [(1001025, 0), (2002001025, 2000000001)], (I x8.1), [(1001025, [(.sl true x8.2.1.f0.length 1 (x8.2.1.f0.flatMap encI)), (.pt 2002001025 0 1)]), (2002001025, (mrow x8.2.2))]⟩], [⟨53, [(.pt 0 0 2), (.sl true x6.length 2 (x6.flatMap e44))], [(0, [(.sl true x4.length 1 (x4.flatMap encI)), (.pt 2000000001 0 1)]), (2000000001, (mrow x3))], (I x8.1), [(0, [(.sl true x8.2.1.f0.length 1 (x8.2.1.f0.flatMap encI)), (.pt 2000000001 0 1)]), (2000000001, (mrow x8.2.2))], [], [(1001025, 0), (2002001025, 2000000001)], [(1001025, 0), (2002001025, 2000000001)], (I x8.1), [(1001025, [(.sl true x8.2.1.f0.length 1 (x8.2.1.f0.flatMap encI)), (.pt 2002001025 0 1)]), (2002001025, (mrow x8.2.2))]⟩]⟩ [c_ 7956, c_ 7957, c_ 3979, b_ 1, l_ 124, b_ 0, c_ 63] (alc (cokW true (a2c (.pt (memP_mem (p := (1001025, 0)) rfl)) (a2c (.z (frz_sl e44_ok (fun h => h))) a2n)) (akc ⟨_, _, rfl, rfl, (a2c (.z (frz_sl encI_ok (fun h => h))) (a2c (.pt (memP_mem (p := (2002001025, 2000000001)) rfl)) a2n))⟩ (akc ⟨_, _, rfl, rfl, (mrowC _)⟩ akn)) (akc (.inl rfl) (akc (.inl rfl) akn)) (.z .s) (akc ⟨_, _, rfl, rfl, (a2c (.z (clnS encI_c (fun h => rfl))) (a2c (.pt (memP_mem (p := (2002001025, 2000000001)) rfl)) a2n))⟩ (akc ⟨_, _, rfl, rfl, mrowB _⟩ akn)) (fun h => rfl)) aln) (acal (impl_search_first.J k (⟨x4, x3⟩ : S65) x6 _ hx8) nocal) ?_
      refine .reg' [1, 5, 6, 7, 22] [] ⟨[(1, (.sl true x6.length 2 (x6.flatMap e44))), (5, (.pt 1001025 0 2)), (6, (.rf 1280 0 x5.length 1 (x5.length * 1))), (7, (I x8.1)), (22, (B (decide (x8.1 < 0))))], [(2002001025, (mrow x8.2.2)), (1001025, [(.sl true x8.2.1.f0.length 1 (x8.2.1.f0.flatMap encI)), (.pt 2002001025 0 1)]), (1280, (x5.flatMap encI))], [], []⟩ [c_ 7957, c_ 3979, b_ 1, l_ 124, b_ 0, c_ 63] aln nocal ?_
      by_cases c3 : x8.1 < 0
      · rw [if_pos c3] at h
        refine .cond' (.tmp 22) true [c_ 31828, c_ 31829, c_ 3979, b_ 1, l_ 124, b_ 0, c_ 63] (bT (dT c3)) ?_
        refine .reg' [4] [] ⟨[(4, nilS)], [(2002001025, (mrow x8.2.2)), (1001025, [(.sl true x8.2.1.f0.length 1 (x8.2.1.f0.flatMap encI)), (.pt 2002001025 0 1)]), (1280, (x5.flatMap encI))], [], []⟩ [c_ 31829, c_ 3979, b_ 1, l_ 124, b_ 0, c_ 63] aln nocal ?_
        have h := Option.some.inj h
        subst h
        refine .nl' 1281 ?_
        exact .fin' [] [(1281, 1280)] nilS [] aln (shc 1281 (rowF encI_ok _) shn) (.nl (memP_mem (p := (1281, 1280)) rfl) rfl)
      · rw [if_neg c3] at h
        refine .cond' (.tmp 22) false [c_ 7958, c_ 7959, b_ 1, l_ 124, b_ 0, c_ 63] (bF (dF c3)) ?_
        by_cases c4 : (x5.length + ([x8.1] : List Int).length) * 8 ≤ 70368744177664
        · rw [if_pos c4] at h
          refine .reg' [1, 5, 6, 7] [.no, .no, .no, .w (.rf 1280 0 ((x5 ++ ([x8.1] : List Int)).length) 1 ((x5 ++ ([x8.1] : List Int)).length * 1)) ((x5 ++ ([x8.1] : List Int)).flatMap encI)] ⟨[(1, (.sl true x6.length 2 (x6.flatMap e44))), (5, (.pt 1001025 0 2)), (6, (.rf 1280 0 ((x5 ++ ([x8.1] : List Int)).length) 1 ((x5 ++ ([x8.1] : List Int)).length * 1))), (7, (I x8.1))], [(2002001025, (mrow x8.2.2)), (1001025, [(.sl true x8.2.1.f0.length 1 (x8.2.1.f0.flatMap encI)), (.pt 2002001025 0 1)]), (1280, ((x5 ++ ([x8.1] : List Int)).flatMap encI)), (2562, (([x8.1] : List Int).flatMap encI))], [V.rf 1280 0 (x5.length + ([x8.1] : List Int).length) 1 (x5.length * 1 + ([x8.1] : List Int).length * 1) = (.rf 1280 0 ((x5 ++ ([x8.1] : List Int)).length) 1 ((x5 ++ ([x8.1] : List Int)).length * 1)), x5.flatMap encI ++ (((([x8.1] : List Int).flatMap encI).drop 0).take (([x8.1] : List Int).length * 1)) = ((x5 ++ ([x8.1] : List Int)).flatMap encI), (([x8.1] : List Int).length * 1 = (([x8.1] : List Int).flatMap encI).length ∧ 0 + ([x8.1] : List Int).length * 1 ≤ (([x8.1] : List Int).flatMap encI).length) ∧ x5.length * 1 = (x5.flatMap encI).length ∧ x5.length * 1 = (x5.flatMap encI).length ∧ (x5.length + ([x8.1] : List Int).length) * 8 ≤ 70368744177664], []⟩ [c_ 7959, b_ 1, l_ 124, b_ 0, c_ 63] (alc (apV rfl) (alc (apR encI_ok rfl) (alc (apO encI_ok rfl c4 rfl) aln))) nocal ?_
          obtain ⟨x9, hx9, h⟩ := Option.bind_eq_some_iff.mp h
          refine .reg' [1, 5, 6] [.no, .no, .c ⟨49, [(.sl true x6.length 2 (x6.flatMap e44)), (I x8.1)], [], (.rf 512 0 x9.length 2 (x9.length * 2)), [(512, (x9.flatMap e44))], [], [], [(1002818, 512)], (.rf 1002818 0 x9.length 2 (x9.length * 2)), [(1002818, (x9.flatMap e44))]⟩] ⟨[(1, (.rf 1002818 0 x9.length 2 (x9.length * 2))), (5, (.pt 1001025 0 2)), (6, (.rf 1280 0 ((x5 ++ ([x8.1] : List Int)).length) 1 ((x5 ++ ([x8.1] : List Int)).length * 1)))], [(2002001025, (mrow x8.2.2)), (1001025, [(.sl true x8.2.1.f0.length 1 (x8.2.1.f0.flatMap encI)), (.pt 2002001025 0 1)]), (1280, ((x5 ++ ([x8.1] : List Int)).flatMap encI)), (2562, (([x8.1] : List Int).flatMap encI)), (1002818, (x9.flatMap e44))], [COK (hget [(2002001025, (mrow x8.2.2)), (1001025, [(.sl true x8.2.1.f0.length 1 (x8.2.1.f0.flatMap encI)), (.pt 2002001025 0 1)]), (1280, ((x5 ++ ([x8.1] : List Int)).flatMap encI)), (2562, (([x8.1] : List Int).flatMap encI))]) [(.sl true x6.length 2 (x6.flatMap e44)), (I x8.1)] ⟨49, [(.sl true x6.length 2 (x6.flatMap e44)), (I x8.1)], [], (.rf 512 0 x9.length 2 (x9.length * 2)), [(512, (x9.flatMap e44))], [], [], [(1002818, 512)], (.rf 1002818 0 x9.length 2 (x9.length * 2)), [(1002818, (x9.flatMap e44))]⟩], [⟨49, [(.sl true x6.length 2 (x6.flatMap e44)), (I x8.1)], [], (.rf 512 0 x9.length 2 (x9.length * 2)), [(512, (x9.flatMap e44))], [], [], [(1002818, 512)], (.rf 1002818 0 x9.length 2 (x9.length * 2)), [(1002818, (x9.flatMap e44))]⟩]⟩ [l_ 124, b_ 0, c_ 63] (alc (cokW false (a2c (.z (frz_sl e44_ok (fun h => h))) (a2c (.z .s) a2n)) akn (akc (.inr rfl) akn) (.rf (memP_mem (p := (1002818, 512)) rfl)) (akc ⟨_, _, rfl, rfl, rowB e44_c _⟩ akn) (fun h => absurd h (by decide))) aln) (acal (impl_moved.J x6 x8.1 _ hx9) nocal) ?_
          refine .wk' [1002818] [(2002001025, 2002001025), (1001025, 1001025), (1280, 1280), (2562, 2562)] [(1, (.sl false x9.length 2 (x9.flatMap e44))), (5, (.pt 1001025 0 2)), (6, (.rf 1280 0 ((x5 ++ ([x8.1] : List Int)).length) 1 ((x5 ++ ([x8.1] : List Int)).length * 1)))] [(2002001025, (mrow x8.2.2)), (1001025, [(.sl true x8.2.1.f0.length 1 (x8.2.1.f0.flatMap encI)), (.pt 2002001025 0 1)]), (1280, ((x5 ++ ([x8.1] : List Int)).flatMap encI)), (2562, (([x8.1] : List Int).flatMap encI))] (shc 2002001025 (mrowC _) (shc 1001025 (a2c (.z (frz_sl encI_ok (fun h => h))) (a2c (.pt (memP_mem (p := (2002001025, 2002001025)) rfl)) a2n)) (shc 1280 (rowF encI_ok _) (shc 2562 (rowF encI_ok _) shn)))) (enc_ (.z (frz_rf (k := 1002818) e44_ok (by simp) rfl rfl (row_len e44_ok _).symm)) (enc_ (.pt (memP_mem (p := (1001025, 1001025)) rfl)) (enc_ (.rf (memP_mem (p := (1280, 1280)) rfl)) enn))) ?_
          refine .wk' [] [(2002001025, 2002001025), (1001025, 1001025), (1280, 1280)] [(1, (.sl true x9.length 2 (x9.flatMap e44))), (5, (.pt 1001025 0 2)), (6, (.rf 1280 0 ((x5 ++ ([x8.1] : List Int)).length) 1 ((x5 ++ ([x8.1] : List Int)).length * 1)))] [(2002001025, (mrow x8.2.2)), (1001025, [(.sl true x8.2.1.f0.length 1 (x8.2.1.f0.flatMap encI)), (.pt 2002001025 0 1)]), (1280, ((x5 ++ ([x8.1] : List Int)).flatMap encI))] (shc 2002001025 (mrowC _) (shc 1001025 (a2c (.z (frz_sl encI_ok (fun h => h))) (a2c (.pt (memP_mem (p := (2002001025, 2002001025)) rfl)) a2n)) (shc 1280 (rowF encI_ok _) shn))) (enc_ (.z (frz_sl (t := false) e44_ok (fun h => absurd h (by decide)))) (enc_ (.pt (memP_mem (p := (1001025, 1001025)) rfl)) (enc_ (.rf (memP_mem (p := (1280, 1280)) rfl)) enn))) ?_
          exact ih0 x8.2.2 x8.2.1.f0 (x5 ++ ([x8.1] : List Int)) x9 _ h
        · rw [if_neg c4] at h
          cases h
theorem impl_Finish.J (k : Nat) (a0 : (List Int)) (a1 : (List S44)) (r : (List Int)) (h : impl_Finish.f k a0 a1 = some r) : J prog (.call 33 [(.sl true a0.length 1 (a0.flatMap encI)), (.sl true a1.length 2 (a1.flatMap e44))] [] (.rf 1280 0 r.length 1 (r.length * 1)) [(1280, (r.flatMap encI))]) := by
  unfold impl_Finish.f at h
  have ih0 := impl_Finish.lab k
  refine .call' [c_ 2, c_ 3] ?_
  refine .reg' [0, 1] [] ⟨[(0, (.sl true a0.length 1 (a0.flatMap encI))), (1, (.sl true a1.length 2 (a1.flatMap e44)))], [], [], []⟩ [c_ 12, c_ 13, c_ 7] aln nocal ?_
  obtain ⟨x1, hx1, h⟩ := Option.bind_eq_some_iff.mp h
  refine .reg' [0, 1, 11] [.no, .no, .c ⟨16, [(.sl true a0.length 1 (a0.flatMap encI)), (.sl true a1.length 2 (a1.flatMap e44))], [], (B x1), [], [], [], [], (B x1), []⟩] ⟨[(0, (.sl true a0.length 1 (a0.flatMap encI))), (1, (.sl true a1.length 2 (a1.flatMap e44))), (11, (B (!x1)))], [], [COK (hget []) [(.sl true a0.length 1 (a0.flatMap encI)), (.sl true a1.length 2 (a1.flatMap e44))] ⟨16, [(.sl true a0.length 1 (a0.flatMap encI)), (.sl true a1.length 2 (a1.flatMap e44))], [], (B x1), [], [], [], [], (B x1), []⟩], [⟨16, [(.sl true a0.length 1 (a0.flatMap encI)), (.sl true a1.length 2 (a1.flatMap e44))], [], (B x1), [], [], [], [], (B x1), []⟩]⟩ [c_ 13, c_ 7] (alc (cok0 false (a2c (.z (frz_sl encI_ok (fun h => h))) (a2c (.z (frz_sl e44_ok (fun h => h))) a2n)) (.z .s) (fun h => absurd h (by decide))) aln) (acal (impl_SinglesOk.J k a0 a1 _ hx1) nocal) ?_
  by_cases c1 : x1 = true
  · rw [if_pos c1] at h
    refine .cond' (.tmp 11) false [c_ 14, c_ 15] (bF (nF c1)) ?_
    obtain ⟨x2, hx2, h⟩ := Option.bind_eq_some_iff.mp h
    refine .reg' [1, 5] [.no, .c ⟨51, [(.sl true a0.length 1 (a0.flatMap encI))], [], (.pt 515 0 2), [(515, [(.sl true x2.f0.length 1 (x2.f0.flatMap encI)), (.pt 2000000515 0 1)]), (2000000515, (mrow x2.f1))], [], [], [(1001025, 515), (2002001025, 2000000515)], (.pt 1001025 0 2), [(1001025, [(.sl true x2.f0.length 1 (x2.f0.flatMap encI)), (.pt 2002001025 0 1)]), (2002001025, (mrow x2.f1))]⟩] ⟨[(1, (.sl true a1.length 2 (a1.flatMap e44))), (5, (.pt 1001025 0 2))], [(2002001025, (mrow x2.f1)), (1001025, [(.sl true x2.f0.length 1 (x2.f0.flatMap encI)), (.pt 2002001025 0 1)])], [COK (hget []) [(.sl true a0.length 1 (a0.flatMap encI))] ⟨51, [(.sl true a0.length 1 (a0.flatMap encI))], [], (.pt 515 0 2), [(515, [(.sl true x2.f0.length 1 (x2.f0.flatMap encI)), (.pt 2000000515 0 1)]), (2000000515, (mrow x2.f1))], [], [], [(1001025, 515), (2002001025, 2000000515)], (.pt 1001025 0 2), [(1001025, [(.sl true x2.f0.length 1 (x2.f0.flatMap encI)), (.pt 2002001025 0 1)]), (2002001025, (mrow x2.f1))]⟩], [⟨51, [(.sl true a0.length 1 (a0.flatMap encI))], [], (.pt 515 0 2), [(515, [(.sl true x2.f0.length 1 (x2.f0.flatMap encI)), (.pt 2000000515 0 1)]), (2000000515, (mrow x2.f1))], [], [], [(1001025, 515), (2002001025, 2000000515)], (.pt 1001025 0 2), [(1001025, [(.sl true x2.f0.length 1 (x2.f0.flatMap encI)), (.pt 2002001025 0 1)]), (2002001025, (mrow x2.f1))]⟩]⟩ [c_ 30, c_ 31] (alc (cokW true (a2c (.z (frz_sl encI_ok (fun h => h))) a2n) akn (akc (.inr rfl) (akc (.inr rfl) akn)) (.pt (memP_mem (p := (1001025, 515)) rfl)) (akc ⟨_, _, rfl, rfl, (a2c (.z (clnS encI_c (fun h => rfl))) (a2c (.pt (memP_mem (p := (2002001025, 2000000515)) rfl)) a2n))⟩ (akc ⟨_, _, rfl, rfl, mrowB _⟩ akn)) (fun h => rfl)) aln) (acal (impl_newSearch.J a0 _ hx2) nocal) ?_
    refine .reg' [1, 5, 6] [] ⟨[(1, (.sl true a1.length 2 (a1.flatMap e44))), (5, (.pt 1001025 0 2)), (6, (.rf 1280 0 (([] : List Int).length) 1 (([] : List Int).length * 1)))], [(2002001025, (mrow x2.f1)), (1001025, [(.sl true x2.f0.length 1 (x2.f0.flatMap encI)), (.pt 2002001025 0 1)]), (1280, (([] : List Int).flatMap encI))], [], []⟩ [l_ 124, b_ 0, c_ 63] aln nocal ?_
    exact ih0 x2.f1 x2.f0 ([] : List Int) a1 _ h
  · rw [if_neg c1] at h
    refine .cond' (.tmp 11) true [c_ 52, c_ 53, c_ 7] (bT (nT (vF c1))) ?_
    refine .reg' [4] [] ⟨[(4, nilS)], [], [], []⟩ [c_ 53, c_ 7] aln nocal ?_
    have h := Option.some.inj h
    subst h
    refine .nl' 1280 ?_
    exact .fin' [] [(1280, 1280)] nilS [] aln (shc 1280 (rowF encI_ok _) shn) (.nl (memP_mem (p := (1280, 1280)) rfl) rfl)
/-! laws_eqIntS: function 17 -/
def laws_eqIntS.l0 : Nat → (List Int) → (List Int) → Int → Option Bool
 | 0, _, _, _ => none
 | k + 1, a0, a1, x1 => (if x1 < (a0.length : Int) then (if 0 ≤ x1 then (if x1 < (a1.length : Int) then (if (at_ a0 x1) = (at_ a1 x1) then (laws_eqIntS.l0 k a0 a1 (wrap64 (x1 + 1))) else (some false)) else none) else none) else (some true))
def laws_eqIntS.f (k : Nat) (a0 : (List Int)) (a1 : (List Int)) : Option Bool := (if (a0.length : Int) = (a1.length : Int) then (laws_eqIntS.l0 k a0 a1 0) else (some false))
theorem laws_eqIntS.lab : ∀ k, (∀ (a0 : (List Int)) (a1 : (List Int)) (x1 : Int) (r : Bool), laws_eqIntS.l0 k a0 a1 x1 = some r → J prog (.run 17 [] [l_ 58, b_ 0, c_ 15] [(0, (.sl true a0.length 1 (a0.flatMap encI))), (1, (.sl true a1.length 1 (a1.flatMap encI))), (5, (I x1))] [] (B r) []))
 | 0 => (by intro a0 a1 x1 r h; unfold laws_eqIntS.l0 at h; cases h)
 | k + 1 => by
  have ih0 := laws_eqIntS.lab k
  · intro a0 a1 x1 r h
    unfold laws_eqIntS.l0 at h
    refine .loop' [c_ 464, c_ 465, c_ 233, l_ 58, b_ 0, c_ 15] ?_
    refine .reg' [0, 1, 5, 14] [] ⟨[(0, (.sl true a0.length 1 (a0.flatMap encI))), (1, (.sl true a1.length 1 (a1.flatMap encI))), (5, (I x1)), (14, (B (decide (x1 < (a0.length : Int)))))], [], [], []⟩ [c_ 465, c_ 233, l_ 58, b_ 0, c_ 15] aln nocal ?_
    by_cases c2 : x1 < (a0.length : Int)
    · rw [if_pos c2] at h
      refine .cond' (.tmp 14) true [c_ 1864, c_ 1865, b_ 1, c_ 467, l_ 58, b_ 0, c_ 15] (bT (dT c2)) ?_
      by_cases c3 : 0 ≤ x1
      · rw [if_pos c3] at h
        by_cases c4 : x1 < (a1.length : Int)
        · rw [if_pos c4] at h
          refine .reg' [0, 1, 5, 25] [.no, .no, .no, .v (I (at_ a0 x1)), .no, .no, .no, .v (I (at_ a1 x1))] ⟨[(0, (.sl true a0.length 1 (a0.flatMap encI))), (1, (.sl true a1.length 1 (a1.flatMap encI))), (5, (I x1)), (25, (B (!((at_ a0 x1) == (at_ a1 x1)))))], [], [(0 : Int) ≤ x1 ∧ x1 < (a0.length : Int), rdC prog 3 ((a0.flatMap encI).drop (x1.toNat * 1)) = (I (at_ a0 x1)), 1 ≤ ((a0.flatMap encI).drop (x1.toNat * 1)).length, (0 : Int) ≤ x1 ∧ x1 < (a1.length : Int), rdC prog 3 ((a1.flatMap encI).drop (x1.toNat * 1)) = (I (at_ a1 x1)), 1 ≤ ((a1.flatMap encI).drop (x1.toNat * 1)).length], []⟩ [c_ 1865, b_ 1, c_ 467, l_ 58, b_ 0, c_ 15] (alc ⟨c3, c2⟩ (alc (ldC1 encI_ok rfl c3 c2) (alc (okI encI_ok c3 c2 (by decide)) (alc ⟨c3, c4⟩ (alc (ldC1 encI_ok rfl c3 c4) (alc (okI encI_ok c3 c4 (by decide)) aln)))))) nocal ?_
          by_cases c5 : (at_ a0 x1) = (at_ a1 x1)
          · rw [if_pos c5] at h
            refine .cond' (.tmp 25) false [c_ 467, l_ 58, b_ 0, c_ 15] (bF (nF (qT c5))) ?_
            refine .reg' [0, 1, 5] [] ⟨[(0, (.sl true a0.length 1 (a0.flatMap encI))), (1, (.sl true a1.length 1 (a1.flatMap encI))), (5, (I (wrap64 (x1 + 1))))], [], [], []⟩ [l_ 58, b_ 0, c_ 15] aln nocal ?_
            exact ih0 a0 a1 (wrap64 (x1 + 1)) _ h
          · rw [if_neg c5] at h
            refine .cond' (.tmp 25) true [c_ 7460, c_ 7461, b_ 1, c_ 467, l_ 58, b_ 0, c_ 15] (bT (nT (qF c5))) ?_
            refine .reg' [4] [] ⟨[(4, (B false))], [], [], []⟩ [c_ 7461, b_ 1, c_ 467, l_ 58, b_ 0, c_ 15] aln nocal ?_
            have h := Option.some.inj h
            subst h
            exact .fin0 [] (B false) [] aln (.z .s)
        · rw [if_neg c4] at h
          cases h
      · rw [if_neg c3] at h
        cases h
    · rw [if_neg c2] at h
      refine .cond' (.tmp 14) false [c_ 30, c_ 31] (bF (dF c2)) ?_
      refine .reg' [4] [] ⟨[(4, (B true))], [], [], []⟩ [c_ 31] aln nocal ?_
      have h := Option.some.inj h
      subst h
      exact .fin0 [] (B true) [] aln (.z .s)
theorem laws_eqIntS.J (k : Nat) (a0 : (List Int)) (a1 : (List Int)) (r : Bool) (h : laws_eqIntS.f k a0 a1 = some r) : J prog (.call 17 [(.sl true a0.length 1 (a0.flatMap encI)), (.sl true a1.length 1 (a1.flatMap encI))] [] (B r) []) := by
  unfold laws_eqIntS.f at h
  have ih0 := laws_eqIntS.lab k
  refine .call' [c_ 2, c_ 3] ?_
  refine .reg' [0, 1] [] ⟨[(0, (.sl true a0.length 1 (a0.flatMap encI))), (1, (.sl true a1.length 1 (a1.flatMap encI)))], [], [], []⟩ [c_ 12, c_ 13, c_ 7] aln nocal ?_
  refine .reg' [0, 1, 10] [] ⟨[(0, (.sl true a0.length 1 (a0.flatMap encI))), (1, (.sl true a1.length 1 (a1.flatMap encI))), (10, (B (!((a0.length : Int) == (a1.length : Int)))))], [], [], []⟩ [c_ 13, c_ 7] aln nocal ?_
  by_cases c1 : (a0.length : Int) = (a1.length : Int)
  · rw [if_pos c1] at h
    refine .cond' (.tmp 10) false [c_ 28, c_ 29, c_ 15] (bF (nF (qT c1))) ?_
    refine .reg' [0, 1, 5] [] ⟨[(0, (.sl true a0.length 1 (a0.flatMap encI))), (1, (.sl true a1.length 1 (a1.flatMap encI))), (5, (I 0))], [], [], []⟩ [l_ 58, b_ 0, c_ 15] aln nocal ?_
    exact ih0 a0 a1 0 _ h
  · rw [if_neg c1] at h
    refine .cond' (.tmp 10) true [c_ 52, c_ 53, c_ 7] (bT (nT (qF c1))) ?_
    refine .reg' [4] [] ⟨[(4, (B false))], [], [], []⟩ [c_ 53, c_ 7] aln nocal ?_
    have h := Option.some.inj h
    subst h
    exact .fin0 [] (B false) [] aln (.z .s)
/-! laws_eqSingle: function 44 -/
def laws_eqSingle.f (a0 : S44) (a1 : S44) : Option Bool := (if a0.f0 = a1.f0 then (if a0.f1 = a1.f1 then (some true) else (some false)) else (some false))
theorem laws_eqSingle.J (a0 : S44) (a1 : S44) (r : Bool) (h : laws_eqSingle.f a0 a1 = some r) : J prog (.call 44 [(.ag [(I a0.f0), (I a0.f1)]), (.ag [(I a1.f0), (I a1.f1)])] [] (B r) []) := by
  unfold laws_eqSingle.f at h
  refine .call' [c_ 2, c_ 3] ?_
  refine .reg' [2, 3] [] ⟨[(2, (.pt 256 0 2)), (3, (.pt 257 0 2))], [(256, [(I a0.f0), (I a0.f1)]), (257, [(I a1.f0), (I a1.f1)])], [], []⟩ [c_ 12, c_ 13, c_ 7] aln nocal ?_
  refine .reg' [2, 3, 9] [] ⟨[(2, (.pt 256 0 2)), (3, (.pt 257 0 2)), (9, (B (!(a0.f0 == a1.f0))))], [(256, [(I a0.f0), (I a0.f1)]), (257, [(I a1.f0), (I a1.f1)])], [2 = 2 ∧ 0 + 1 ≤ 2, 2 = 2 ∧ 0 + 1 ≤ 2], []⟩ [c_ 13, c_ 7] (alc ⟨rfl, by decide⟩ (alc ⟨rfl, by decide⟩ aln)) nocal ?_
  by_cases c1 : a0.f0 = a1.f0
  · rw [if_pos c1] at h
    refine .cond' (.tmp 9) false [c_ 28, c_ 29, c_ 15] (bF (nF (qT c1))) ?_
    refine .reg' [14] [] ⟨[(14, (B (!(a0.f1 == a1.f1))))], [(256, [(I a0.f0), (I a0.f1)]), (257, [(I a1.f0), (I a1.f1)])], [2 = 2 ∧ 1 + 1 ≤ 2, 2 = 2 ∧ 1 + 1 ≤ 2], []⟩ [c_ 29, c_ 15] (alc ⟨rfl, by decide⟩ (alc ⟨rfl, by decide⟩ aln)) nocal ?_
    by_cases c2 : a0.f1 = a1.f1
    · rw [if_pos c2] at h
      refine .cond' (.tmp 14) false [c_ 30, c_ 31] (bF (nF (qT c2))) ?_
      refine .reg' [4] [] ⟨[(4, (B true))], [(256, [(I a0.f0), (I a0.f1)]), (257, [(I a1.f0), (I a1.f1)])], [], []⟩ [c_ 31] aln nocal ?_
      have h := Option.some.inj h
      subst h
      exact .fin0 [] (B true) [] aln (.z .s)
    · rw [if_neg c2] at h
      refine .cond' (.tmp 14) true [c_ 116, c_ 117, c_ 15] (bT (nT (qF c2))) ?_
      refine .reg' [4] [] ⟨[(4, (B false))], [(256, [(I a0.f0), (I a0.f1)]), (257, [(I a1.f0), (I a1.f1)])], [], []⟩ [c_ 117, c_ 15] aln nocal ?_
      have h := Option.some.inj h
      subst h
      exact .fin0 [] (B false) [] aln (.z .s)
  · rw [if_neg c1] at h
    refine .cond' (.tmp 9) true [c_ 52, c_ 53, c_ 7] (bT (nT (qF c1))) ?_
    refine .reg' [4] [] ⟨[(4, (B false))], [(256, [(I a0.f0), (I a0.f1)]), (257, [(I a1.f0), (I a1.f1)])], [], []⟩ [c_ 53, c_ 7] aln nocal ?_
    have h := Option.some.inj h
    subst h
    exact .fin0 [] (B false) [] aln (.z .s)
/-! laws_eqSingleS: function 18 -/
def laws_eqSingleS.l0 : Nat → (List S44) → (List S44) → Int → Option Bool
 | 0, _, _, _ => none
 | k + 1, a0, a1, x1 => (if x1 < (a0.length : Int) then (if 0 ≤ x1 then (if x1 < (a1.length : Int) then ((laws_eqSingle.f (at_ a0 x1) (at_ a1 x1)).bind fun x2 => (if x2 = true then (laws_eqSingleS.l0 k a0 a1 (wrap64 (x1 + 1))) else (some false))) else none) else none) else (some true))
def laws_eqSingleS.f (k : Nat) (a0 : (List S44)) (a1 : (List S44)) : Option Bool := (if (a0.length : Int) = (a1.length : Int) then (laws_eqSingleS.l0 k a0 a1 0) else (some false))
theorem laws_eqSingleS.lab : ∀ k, (∀ (a0 : (List S44)) (a1 : (List S44)) (x1 : Int) (r : Bool), laws_eqSingleS.l0 k a0 a1 x1 = some r → J prog (.run 18 [] [l_ 58, b_ 0, c_ 15] [(0, (.sl true a0.length 2 (a0.flatMap e44))), (1, (.sl true a1.length 2 (a1.flatMap e44))), (5, (I x1))] [] (B r) []))
 | 0 => (by intro a0 a1 x1 r h; unfold laws_eqSingleS.l0 at h; cases h)
 | k + 1 => by
  have ih0 := laws_eqSingleS.lab k
  · intro a0 a1 x1 r h
    unfold laws_eqSingleS.l0 at h
    refine .loop' [c_ 464, c_ 465, c_ 233, l_ 58, b_ 0, c_ 15] ?_
    refine .reg' [0, 1, 5, 14] [] ⟨[(0, (.sl true a0.length 2 (a0.flatMap e44))), (1, (.sl true a1.length 2 (a1.flatMap e44))), (5, (I x1)), (14, (B (decide (x1 < (a0.length : Int)))))], [], [], []⟩ [c_ 465, c_ 233, l_ 58, b_ 0, c_ 15] aln nocal ?_
    by_cases c2 : x1 < (a0.length : Int)
    · rw [if_pos c2] at h
      refine .cond' (.tmp 14) true [c_ 1864, c_ 1865, b_ 1, c_ 467, l_ 58, b_ 0, c_ 15] (bT (dT c2)) ?_
      by_cases c3 : 0 ≤ x1
      · rw [if_pos c3] at h
        by_cases c4 : x1 < (a1.length : Int)
        · rw [if_pos c4] at h
          obtain ⟨x2, hx2, h⟩ := Option.bind_eq_some_iff.mp h
          refine .reg' [0, 1, 5, 26] [.no, .no, .no, .v (.ag [(I (at_ a0 x1).f0), (I (at_ a0 x1).f1)]), .no, .no, .no, .v (.ag [(I (at_ a1 x1).f0), (I (at_ a1 x1).f1)]), .c ⟨44, [(.ag [(I (at_ a0 x1).f0), (I (at_ a0 x1).f1)]), (.ag [(I (at_ a1 x1).f0), (I (at_ a1 x1).f1)])], [], (B x2), [], [], [], [], (B x2), []⟩] ⟨[(0, (.sl true a0.length 2 (a0.flatMap e44))), (1, (.sl true a1.length 2 (a1.flatMap e44))), (5, (I x1)), (26, (B (!x2)))], [], [(0 : Int) ≤ x1 ∧ x1 < (a0.length : Int), rdC prog 45 ((a0.flatMap e44).drop (x1.toNat * 2)) = (.ag [(I (at_ a0 x1).f0), (I (at_ a0 x1).f1)]), 2 ≤ ((a0.flatMap e44).drop (x1.toNat * 2)).length, (0 : Int) ≤ x1 ∧ x1 < (a1.length : Int), rdC prog 45 ((a1.flatMap e44).drop (x1.toNat * 2)) = (.ag [(I (at_ a1 x1).f0), (I (at_ a1 x1).f1)]), 2 ≤ ((a1.flatMap e44).drop (x1.toNat * 2)).length, COK (hget []) [(.ag [(I (at_ a0 x1).f0), (I (at_ a0 x1).f1)]), (.ag [(I (at_ a1 x1).f0), (I (at_ a1 x1).f1)])] ⟨44, [(.ag [(I (at_ a0 x1).f0), (I (at_ a0 x1).f1)]), (.ag [(I (at_ a1 x1).f0), (I (at_ a1 x1).f1)])], [], (B x2), [], [], [], [], (B x2), []⟩], [⟨44, [(.ag [(I (at_ a0 x1).f0), (I (at_ a0 x1).f1)]), (.ag [(I (at_ a1 x1).f0), (I (at_ a1 x1).f1)])], [], (B x2), [], [], [], [], (B x2), []⟩]⟩ [c_ 1865, b_ 1, c_ 467, l_ 58, b_ 0, c_ 15] (alc ⟨c3, c2⟩ (alc (ldA e44_ok rfl rfl c3 c2) (alc (okI e44_ok c3 c2 (by decide)) (alc ⟨c3, c4⟩ (alc (ldA e44_ok rfl rfl c3 c4) (alc (okI e44_ok c3 c4 (by decide)) (alc (cok0 false (a2c (.z (frz_ag (a2c .s (a2c .s a2n)))) (a2c (.z (frz_ag (a2c .s (a2c .s a2n)))) a2n)) (.z .s) (fun h => absurd h (by decide))) aln))))))) (acal (laws_eqSingle.J (at_ a0 x1) (at_ a1 x1) _ hx2) nocal) ?_
          by_cases c5 : x2 = true
          · rw [if_pos c5] at h
            refine .cond' (.tmp 26) false [c_ 467, l_ 58, b_ 0, c_ 15] (bF (nF c5)) ?_
            refine .reg' [0, 1, 5] [] ⟨[(0, (.sl true a0.length 2 (a0.flatMap e44))), (1, (.sl true a1.length 2 (a1.flatMap e44))), (5, (I (wrap64 (x1 + 1))))], [], [], []⟩ [l_ 58, b_ 0, c_ 15] aln nocal ?_
            exact ih0 a0 a1 (wrap64 (x1 + 1)) _ h
          · rw [if_neg c5] at h
            refine .cond' (.tmp 26) true [c_ 7460, c_ 7461, b_ 1, c_ 467, l_ 58, b_ 0, c_ 15] (bT (nT (vF c5))) ?_
            refine .reg' [4] [] ⟨[(4, (B false))], [], [], []⟩ [c_ 7461, b_ 1, c_ 467, l_ 58, b_ 0, c_ 15] aln nocal ?_
            have h := Option.some.inj h
            subst h
            exact .fin0 [] (B false) [] aln (.z .s)
        · rw [if_neg c4] at h
          cases h
      · rw [if_neg c3] at h
        cases h
    · rw [if_neg c2] at h
      refine .cond' (.tmp 14) false [c_ 30, c_ 31] (bF (dF c2)) ?_
      refine .reg' [4] [] ⟨[(4, (B true))], [], [], []⟩ [c_ 31] aln nocal ?_
      have h := Option.some.inj h
      subst h
      exact .fin0 [] (B true) [] aln (.z .s)
theorem laws_eqSingleS.J (k : Nat) (a0 : (List S44)) (a1 : (List S44)) (r : Bool) (h : laws_eqSingleS.f k a0 a1 = some r) : J prog (.call 18 [(.sl true a0.length 2 (a0.flatMap e44)), (.sl true a1.length 2 (a1.flatMap e44))] [] (B r) []) := by
  unfold laws_eqSingleS.f at h
  have ih0 := laws_eqSingleS.lab k
  refine .call' [c_ 2, c_ 3] ?_
  refine .reg' [0, 1] [] ⟨[(0, (.sl true a0.length 2 (a0.flatMap e44))), (1, (.sl true a1.length 2 (a1.flatMap e44)))], [], [], []⟩ [c_ 12, c_ 13, c_ 7] aln nocal ?_
  refine .reg' [0, 1, 10] [] ⟨[(0, (.sl true a0.length 2 (a0.flatMap e44))), (1, (.sl true a1.length 2 (a1.flatMap e44))), (10, (B (!((a0.length : Int) == (a1.length : Int)))))], [], [], []⟩ [c_ 13, c_ 7] aln nocal ?_
  by_cases c1 : (a0.length : Int) = (a1.length : Int)
  · rw [if_pos c1] at h
    refine .cond' (.tmp 10) false [c_ 28, c_ 29, c_ 15] (bF (nF (qT c1))) ?_
    refine .reg' [0, 1, 5] [] ⟨[(0, (.sl true a0.length 2 (a0.flatMap e44))), (1, (.sl true a1.length 2 (a1.flatMap e44))), (5, (I 0))], [], [], []⟩ [l_ 58, b_ 0, c_ 15] aln nocal ?_
    exact ih0 a0 a1 0 _ h
  · rw [if_neg c1] at h
    refine .cond' (.tmp 10) true [c_ 52, c_ 53, c_ 7] (bT (nT (qF c1))) ?_
    refine .reg' [4] [] ⟨[(4, (B false))], [], [], []⟩ [c_ 53, c_ 7] aln nocal ?_
    have h := Option.some.inj h
    subst h
    exact .fin0 [] (B false) [] aln (.z .s)
/-! laws_markIntS: function 25 -/
def laws_markIntS.l0 : Nat → (List Int) → Int → Int → Option (Int × (List Int))
 | 0, _, _, _ => none
 | k + 1, x1, x2, x3 => (if x3 < (x1.length : Int) then (if 0 ≤ x3 then (laws_markIntS.l0 k (x1.set x3.toNat x2) (wrap64 (x2 + 1)) (wrap64 (x3 + 1))) else none) else (some (x2, x1)))
def laws_markIntS.f (k : Nat) (a0 : (List Int)) (a1 : Int) : Option (Int × (List Int)) := (laws_markIntS.l0 k a0 a1 0)
theorem laws_markIntS.lab : ∀ k, (∀ (x1 : (List Int)) (x2 : Int) (x3 : Int) (r : (Int × (List Int))), laws_markIntS.l0 k x1 x2 x3 = some r → J prog (.run 25 [0] [l_ 26, b_ 0, c_ 7] [(0, (.rf 0 0 x1.length 1 (x1.length * 1))), (1, (I x2)), (5, (I x3))] [(0, (x1.flatMap encI))] (I r.1) [(0, (r.2.flatMap encI))]))
 | 0 => (by intro x1 x2 x3 r h; unfold laws_markIntS.l0 at h; cases h)
 | k + 1 => by
  have ih0 := laws_markIntS.lab k
  · intro x1 x2 x3 r h
    unfold laws_markIntS.l0 at h
    refine .loop' [c_ 208, c_ 209, c_ 105, l_ 26, b_ 0, c_ 7] ?_
    refine .reg' [0, 1, 5, 9] [] ⟨[(0, (.rf 0 0 x1.length 1 (x1.length * 1))), (1, (I x2)), (5, (I x3)), (9, (B (decide (x3 < (x1.length : Int)))))], [(0, (x1.flatMap encI))], [], []⟩ [c_ 209, c_ 105, l_ 26, b_ 0, c_ 7] aln nocal ?_
    by_cases c1 : x3 < (x1.length : Int)
    · rw [if_pos c1] at h
      refine .cond' (.tmp 9) true [c_ 840, c_ 841, b_ 1, c_ 211, l_ 26, b_ 0, c_ 7] (bT (dT c1)) ?_
      by_cases c2 : 0 ≤ x3
      · rw [if_pos c2] at h
        refine .reg' [0, 1, 5] [.no, .no, .no, .no, .w .un ((x1.set x3.toNat x2).flatMap encI)] ⟨[(0, (.rf 0 0 x1.length 1 (x1.length * 1))), (1, (I x2)), (5, (I x3))], [(0, ((x1.set x3.toNat x2).flatMap encI))], [(0 : Int) ≤ x3 ∧ x3 < (x1.length : Int), V.un = V.un, spl (x1.flatMap encI) (0 + x3.toNat * 1) [(I x2)] = ((x1.set x3.toNat x2).flatMap encI), x1.length * 1 = (x1.flatMap encI).length ∧ 0 + x3.toNat * 1 + 1 ≤ (x1.flatMap encI).length], []⟩ [c_ 841, b_ 1, c_ 211, l_ 26, b_ 0, c_ 7] (alc ⟨c2, c1⟩ (alc rfl (alc (st_row1 encI_ok c2 c1 (I x2) rfl) (alc (okA0 encI_ok c2 c1 (by decide)) aln)))) nocal ?_
        refine .eqs (env2 := [(0, (.rf 0 0 ((x1.set x3.toNat x2).length) 1 ((x1.set x3.toNat x2).length * 1))), (1, (I x2)), (5, (I x3))]) (H2 := [(0, ((x1.set x3.toNat x2).flatMap encI))]) (by first | (simp only [List.length_set]; done) | simp) (by first | rfl | (simp only [List.length_set]; done) | simp) ?_
        refine .reg' [0, 1, 5] [] ⟨[(0, (.rf 0 0 ((x1.set x3.toNat x2).length) 1 ((x1.set x3.toNat x2).length * 1))), (1, (I (wrap64 (x2 + 1)))), (5, (I x3))], [(0, ((x1.set x3.toNat x2).flatMap encI))], [], []⟩ [c_ 211, l_ 26, b_ 0, c_ 7] aln nocal ?_
        refine .reg' [0, 1, 5] [] ⟨[(0, (.rf 0 0 ((x1.set x3.toNat x2).length) 1 ((x1.set x3.toNat x2).length * 1))), (1, (I (wrap64 (x2 + 1)))), (5, (I (wrap64 (x3 + 1))))], [(0, ((x1.set x3.toNat x2).flatMap encI))], [], []⟩ [l_ 26, b_ 0, c_ 7] aln nocal ?_
        exact ih0 (x1.set x3.toNat x2) (wrap64 (x2 + 1)) (wrap64 (x3 + 1)) _ h
      · rw [if_neg c2] at h
        cases h
    · rw [if_neg c1] at h
      refine .cond' (.tmp 9) false [c_ 14, c_ 15] (bF (dF c1)) ?_
      refine .reg' [4] [] ⟨[(4, (I x2))], [(0, (x1.flatMap encI))], [], []⟩ [c_ 15] aln nocal ?_
      have h := Option.some.inj h
      subst h
      exact .fin' [] [(0, 0)] (I x2) [] aln (shc 0 (rowF encI_ok _) shn) (.z .s)
theorem laws_markIntS.J (k : Nat) (a0 : (List Int)) (a1 : Int) (r : (Int × (List Int))) (h : laws_markIntS.f k a0 a1 = some r) : J prog (.call 25 [(.rf 0 0 a0.length 1 (a0.length * 1)), (I a1)] [(0, (a0.flatMap encI))] (I r.1) [(0, (r.2.flatMap encI))]) := by
  unfold laws_markIntS.f at h
  have ih0 := laws_markIntS.lab k
  refine .call' [c_ 2, c_ 3] ?_
  refine .reg' [0, 1] [] ⟨[(0, (.rf 0 0 a0.length 1 (a0.length * 1))), (1, (I a1))], [(0, (a0.flatMap encI))], [], []⟩ [c_ 12, c_ 13, c_ 7] aln nocal ?_
  refine .reg' [0, 1, 5] [] ⟨[(0, (.rf 0 0 a0.length 1 (a0.length * 1))), (1, (I a1)), (5, (I 0))], [(0, (a0.flatMap encI))], [], []⟩ [l_ 26, b_ 0, c_ 7] aln nocal ?_
  exact ih0 a0 a1 0 _ h
theorem laws_markIntS.lenl : ∀ k, (∀ (x1 : (List Int)) (x2 : Int) (x3 : Int) (r : (Int × (List Int))), laws_markIntS.l0 k x1 x2 x3 = some r → r.2.length = x1.length)
 | 0 => (by intro x1 x2 x3 r h; unfold laws_markIntS.l0 at h; cases h)
 | k + 1 => by
  have ih0 := laws_markIntS.lenl k
  · intro x1 x2 x3 r h
    unfold laws_markIntS.l0 at h
    by_cases c1 : x3 < (x1.length : Int)
    · rw [if_pos c1] at h
      by_cases c2 : 0 ≤ x3
      · rw [if_pos c2] at h
        have q := ih0 (x1.set x3.toNat x2) (wrap64 (x2 + 1)) (wrap64 (x3 + 1)) _ h
        first | exact q | (simp only [List.length_set] at q; exact q)
      · rw [if_neg c2] at h
        cases h
    · rw [if_neg c1] at h
      have h := Option.some.inj h
      subst h
      first | rfl | (simp only [List.length_set]; done) | exact ⟨by first | rfl | simp only [List.length_set]⟩
theorem laws_markIntS.len (k : Nat) (a0 : (List Int)) (a1 : Int) (r : (Int × (List Int))) (h : laws_markIntS.f k a0 a1 = some r) : r.2.length = a0.length := by
  unfold laws_markIntS.f at h
  have ih0 := laws_markIntS.lenl k
  have q := ih0 a0 a1 0 _ h
  first | exact q | (simp only [List.length_set] at q; exact q)
/-! laws_markSingleS: function 26 -/
def laws_markSingleS.l0 : Nat → (List S44) → Int → Int → Option (Int × (List S44))
 | 0, _, _, _ => none
 | k + 1, x1, x2, x3 => (if x3 < (x1.length : Int) then (if 0 ≤ x3 then (laws_markSingleS.l0 k (x1.set x3.toNat (⟨x2, (wrap64 (x2 + 1))⟩ : S44)) (wrap64 ((wrap64 (x2 + 1)) + 1)) (wrap64 (x3 + 1))) else none) else (some (x2, x1)))
def laws_markSingleS.f (k : Nat) (a0 : (List S44)) (a1 : Int) : Option (Int × (List S44)) := (laws_markSingleS.l0 k a0 a1 0)
theorem laws_markSingleS.lab : ∀ k, (∀ (x1 : (List S44)) (x2 : Int) (x3 : Int) (r : (Int × (List S44))), laws_markSingleS.l0 k x1 x2 x3 = some r → J prog (.run 26 [0] [l_ 26, b_ 0, c_ 7] [(0, (.rf 0 0 x1.length 2 (x1.length * 2))), (1, (I x2)), (5, (I x3))] [(0, (x1.flatMap e44))] (I r.1) [(0, (r.2.flatMap e44))]))
 | 0 => (by intro x1 x2 x3 r h; unfold laws_markSingleS.l0 at h; cases h)
 | k + 1 => by
  have ih0 := laws_markSingleS.lab k
  · intro x1 x2 x3 r h
    unfold laws_markSingleS.l0 at h
    refine .loop' [c_ 208, c_ 209, c_ 105, l_ 26, b_ 0, c_ 7] ?_
    refine .reg' [0, 1, 5, 9] [] ⟨[(0, (.rf 0 0 x1.length 2 (x1.length * 2))), (1, (I x2)), (5, (I x3)), (9, (B (decide (x3 < (x1.length : Int)))))], [(0, (x1.flatMap e44))], [], []⟩ [c_ 209, c_ 105, l_ 26, b_ 0, c_ 7] aln nocal ?_
    by_cases c1 : x3 < (x1.length : Int)
    · rw [if_pos c1] at h
      refine .cond' (.tmp 9) true [c_ 840, c_ 841, b_ 1, c_ 211, l_ 26, b_ 0, c_ 7] (bT (dT c1)) ?_
      by_cases c2 : 0 ≤ x3
      · rw [if_pos c2] at h
        refine .reg' [0, 1, 5] [.no, .no, .no, .no, .no, .w .un ((x1.set x3.toNat (⟨x2, (at_ x1 x3).f1⟩ : S44)).flatMap e44)] ⟨[(0, (.rf 0 0 x1.length 2 (x1.length * 2))), (1, (I x2)), (5, (I x3))], [(0, ((x1.set x3.toNat (⟨x2, (at_ x1 x3).f1⟩ : S44)).flatMap e44))], [(0 : Int) ≤ x3 ∧ x3 < (x1.length : Int), V.un = V.un, spl (x1.flatMap e44) (0 + x3.toNat * 2 + 0) [(I x2)] = ((x1.set x3.toNat (⟨x2, (at_ x1 x3).f1⟩ : S44)).flatMap e44), x1.length * 2 = (x1.flatMap e44).length ∧ 0 + x3.toNat * 2 + 0 + 1 ≤ (x1.flatMap e44).length], []⟩ [c_ 1682, c_ 1683, b_ 1, c_ 211, l_ 26, b_ 0, c_ 7] (alc ⟨c2, c1⟩ (alc rfl (alc (st_row e44_ok 0 c2 c1 (Nat.le_of_ble_eq_true rfl) rfl) (alc (okA e44_ok c2 c1 (by decide)) aln)))) nocal ?_
        refine .eqs (env2 := [(0, (.rf 0 0 ((x1.set x3.toNat (⟨x2, (at_ x1 x3).f1⟩ : S44)).length) 2 ((x1.set x3.toNat (⟨x2, (at_ x1 x3).f1⟩ : S44)).length * 2))), (1, (I x2)), (5, (I x3))]) (H2 := [(0, ((x1.set x3.toNat (⟨x2, (at_ x1 x3).f1⟩ : S44)).flatMap e44))]) (by first | (simp only [List.length_set]; done) | simp) (by first | rfl | (simp only [List.length_set]; done) | simp) ?_
        refine .reg' [0, 1, 5] [] ⟨[(0, (.rf 0 0 ((x1.set x3.toNat (⟨x2, (at_ x1 x3).f1⟩ : S44)).length) 2 ((x1.set x3.toNat (⟨x2, (at_ x1 x3).f1⟩ : S44)).length * 2))), (1, (I (wrap64 (x2 + 1)))), (5, (I x3))], [(0, ((x1.set x3.toNat (⟨x2, (at_ x1 x3).f1⟩ : S44)).flatMap e44))], [], []⟩ [c_ 3366, c_ 3367, b_ 1, c_ 211, l_ 26, b_ 0, c_ 7] aln nocal ?_
        refine .reg' [0, 1, 5] [.no, .no, .no, .no, .no, .w .un ((x1.set x3.toNat (⟨x2, (wrap64 (x2 + 1))⟩ : S44)).flatMap e44)] ⟨[(0, (.rf 0 0 ((x1.set x3.toNat (⟨x2, (at_ x1 x3).f1⟩ : S44)).length) 2 ((x1.set x3.toNat (⟨x2, (at_ x1 x3).f1⟩ : S44)).length * 2))), (1, (I (wrap64 (x2 + 1)))), (5, (I x3))], [(0, ((x1.set x3.toNat (⟨x2, (wrap64 (x2 + 1))⟩ : S44)).flatMap e44))], [(0 : Int) ≤ x3 ∧ x3 < ((x1.set x3.toNat (⟨x2, (at_ x1 x3).f1⟩ : S44)).length : Int), V.un = V.un, spl ((x1.set x3.toNat (⟨x2, (at_ x1 x3).f1⟩ : S44)).flatMap e44) (0 + x3.toNat * 2 + 1) [(I (wrap64 (x2 + 1)))] = ((x1.set x3.toNat (⟨x2, (wrap64 (x2 + 1))⟩ : S44)).flatMap e44), (x1.set x3.toNat (⟨x2, (at_ x1 x3).f1⟩ : S44)).length * 2 = ((x1.set x3.toNat (⟨x2, (at_ x1 x3).f1⟩ : S44)).flatMap e44).length ∧ 0 + x3.toNat * 2 + 1 + 1 ≤ ((x1.set x3.toNat (⟨x2, (at_ x1 x3).f1⟩ : S44)).flatMap e44).length], []⟩ [c_ 3367, b_ 1, c_ 211, l_ 26, b_ 0, c_ 7] (alc ⟨c2, (ls c1)⟩ (alc rfl (alc (st_row2 e44_ok 1 c2 c1 (Nat.le_of_ble_eq_true rfl) rfl) (alc (okA e44_ok c2 (ls c1) (by decide)) aln)))) nocal ?_
        refine .eqs (env2 := [(0, (.rf 0 0 ((x1.set x3.toNat (⟨x2, (wrap64 (x2 + 1))⟩ : S44)).length) 2 ((x1.set x3.toNat (⟨x2, (wrap64 (x2 + 1))⟩ : S44)).length * 2))), (1, (I (wrap64 (x2 + 1)))), (5, (I x3))]) (H2 := [(0, ((x1.set x3.toNat (⟨x2, (wrap64 (x2 + 1))⟩ : S44)).flatMap e44))]) (by first | (simp only [List.length_set]; done) | simp) (by first | rfl | (simp only [List.length_set]; done) | simp) ?_
        refine .reg' [0, 1, 5] [] ⟨[(0, (.rf 0 0 ((x1.set x3.toNat (⟨x2, (wrap64 (x2 + 1))⟩ : S44)).length) 2 ((x1.set x3.toNat (⟨x2, (wrap64 (x2 + 1))⟩ : S44)).length * 2))), (1, (I (wrap64 ((wrap64 (x2 + 1)) + 1)))), (5, (I x3))], [(0, ((x1.set x3.toNat (⟨x2, (wrap64 (x2 + 1))⟩ : S44)).flatMap e44))], [], []⟩ [c_ 211, l_ 26, b_ 0, c_ 7] aln nocal ?_
        refine .reg' [0, 1, 5] [] ⟨[(0, (.rf 0 0 ((x1.set x3.toNat (⟨x2, (wrap64 (x2 + 1))⟩ : S44)).length) 2 ((x1.set x3.toNat (⟨x2, (wrap64 (x2 + 1))⟩ : S44)).length * 2))), (1, (I (wrap64 ((wrap64 (x2 + 1)) + 1)))), (5, (I (wrap64 (x3 + 1))))], [(0, ((x1.set x3.toNat (⟨x2, (wrap64 (x2 + 1))⟩ : S44)).flatMap e44))], [], []⟩ [l_ 26, b_ 0, c_ 7] aln nocal ?_
        exact ih0 (x1.set x3.toNat (⟨x2, (wrap64 (x2 + 1))⟩ : S44)) (wrap64 ((wrap64 (x2 + 1)) + 1)) (wrap64 (x3 + 1)) _ h
      · rw [if_neg c2] at h
        cases h
    · rw [if_neg c1] at h
      refine .cond' (.tmp 9) false [c_ 14, c_ 15] (bF (dF c1)) ?_
      refine .reg' [4] [] ⟨[(4, (I x2))], [(0, (x1.flatMap e44))], [], []⟩ [c_ 15] aln nocal ?_
      have h := Option.some.inj h
      subst h
      exact .fin' [] [(0, 0)] (I x2) [] aln (shc 0 (rowF e44_ok _) shn) (.z .s)
theorem laws_markSingleS.J (k : Nat) (a0 : (List S44)) (a1 : Int) (r : (Int × (List S44))) (h : laws_markSingleS.f k a0 a1 = some r) : J prog (.call 26 [(.rf 0 0 a0.length 2 (a0.length * 2)), (I a1)] [(0, (a0.flatMap e44))] (I r.1) [(0, (r.2.flatMap e44))]) := by
  unfold laws_markSingleS.f at h
  have ih0 := laws_markSingleS.lab k
  refine .call' [c_ 2, c_ 3] ?_
  refine .reg' [0, 1] [] ⟨[(0, (.rf 0 0 a0.length 2 (a0.length * 2))), (1, (I a1))], [(0, (a0.flatMap e44))], [], []⟩ [c_ 12, c_ 13, c_ 7] aln nocal ?_
  refine .reg' [0, 1, 5] [] ⟨[(0, (.rf 0 0 a0.length 2 (a0.length * 2))), (1, (I a1)), (5, (I 0))], [(0, (a0.flatMap e44))], [], []⟩ [l_ 26, b_ 0, c_ 7] aln nocal ?_
  exact ih0 a0 a1 0 _ h
theorem laws_markSingleS.lenl : ∀ k, (∀ (x1 : (List S44)) (x2 : Int) (x3 : Int) (r : (Int × (List S44))), laws_markSingleS.l0 k x1 x2 x3 = some r → r.2.length = x1.length)
 | 0 => (by intro x1 x2 x3 r h; unfold laws_markSingleS.l0 at h; cases h)
 | k + 1 => by
  have ih0 := laws_markSingleS.lenl k
  · intro x1 x2 x3 r h
    unfold laws_markSingleS.l0 at h
    by_cases c1 : x3 < (x1.length : Int)
    · rw [if_pos c1] at h
      by_cases c2 : 0 ≤ x3
      · rw [if_pos c2] at h
        have q := ih0 (x1.set x3.toNat (⟨x2, (wrap64 (x2 + 1))⟩ : S44)) (wrap64 ((wrap64 (x2 + 1)) + 1)) (wrap64 (x3 + 1)) _ h
        first | exact q | (simp only [List.length_set] at q; exact q)
      · rw [if_neg c2] at h
        cases h
    · rw [if_neg c1] at h
      have h := Option.some.inj h
      subst h
      first | rfl | (simp only [List.length_set]; done) | exact ⟨by first | rfl | simp only [List.length_set]⟩
theorem laws_markSingleS.len (k : Nat) (a0 : (List S44)) (a1 : Int) (r : (Int × (List S44))) (h : laws_markSingleS.f k a0 a1 = some r) : r.2.length = a0.length := by
  unfold laws_markSingleS.f at h
  have ih0 := laws_markSingleS.lenl k
  have q := ih0 a0 a1 0 _ h
  first | exact q | (simp only [List.length_set] at q; exact q)
/-! laws_heldIntS: function 34 -/
def laws_heldIntS.l0 : Nat → (List Int) → Int → Int → Option Int
 | 0, _, _, _ => none
 | k + 1, a0, x1, x2 => (if x2 < (a0.length : Int) then (if 0 ≤ x2 then (if (at_ a0 x2) = x1 then (laws_heldIntS.l0 k a0 (wrap64 (x1 + 1)) (wrap64 (x2 + 1))) else (some (-1))) else none) else (some x1))
def laws_heldIntS.f (k : Nat) (a0 : (List Int)) (a1 : Int) : Option Int := (laws_heldIntS.l0 k a0 a1 0)
theorem laws_heldIntS.lab : ∀ k, (∀ (a0 : (List Int)) (x1 : Int) (x2 : Int) (r : Int), laws_heldIntS.l0 k a0 x1 x2 = some r → J prog (.run 34 [] [l_ 26, b_ 0, c_ 7] [(0, (.sl true a0.length 1 (a0.flatMap encI))), (1, (I x1)), (5, (I x2))] [] (I r) []))
 | 0 => (by intro a0 x1 x2 r h; unfold laws_heldIntS.l0 at h; cases h)
 | k + 1 => by
  have ih0 := laws_heldIntS.lab k
  · intro a0 x1 x2 r h
    unfold laws_heldIntS.l0 at h
    refine .loop' [c_ 208, c_ 209, c_ 105, l_ 26, b_ 0, c_ 7] ?_
    refine .reg' [0, 1, 5, 9] [] ⟨[(0, (.sl true a0.length 1 (a0.flatMap encI))), (1, (I x1)), (5, (I x2)), (9, (B (decide (x2 < (a0.length : Int)))))], [], [], []⟩ [c_ 209, c_ 105, l_ 26, b_ 0, c_ 7] aln nocal ?_
    by_cases c1 : x2 < (a0.length : Int)
    · rw [if_pos c1] at h
      refine .cond' (.tmp 9) true [c_ 1680, c_ 1681, c_ 841, b_ 1, c_ 211, l_ 26, b_ 0, c_ 7] (bT (dT c1)) ?_
      by_cases c2 : 0 ≤ x2
      · rw [if_pos c2] at h
        refine .reg' [0, 1, 5, 17] [.no, .no, .no, .v (I (at_ a0 x2))] ⟨[(0, (.sl true a0.length 1 (a0.flatMap encI))), (1, (I x1)), (5, (I x2)), (17, (B (!((at_ a0 x2) == x1))))], [], [(0 : Int) ≤ x2 ∧ x2 < (a0.length : Int), rdC prog 3 ((a0.flatMap encI).drop (x2.toNat * 1)) = (I (at_ a0 x2)), 1 ≤ ((a0.flatMap encI).drop (x2.toNat * 1)).length], []⟩ [c_ 1681, c_ 841, b_ 1, c_ 211, l_ 26, b_ 0, c_ 7] (alc ⟨c2, c1⟩ (alc (ldC1 encI_ok rfl c2 c1) (alc (okI encI_ok c2 c1 (by decide)) aln))) nocal ?_
        by_cases c3 : (at_ a0 x2) = x1
        · rw [if_pos c3] at h
          refine .cond' (.tmp 17) false [c_ 841, b_ 1, c_ 211, l_ 26, b_ 0, c_ 7] (bF (nF (qT c3))) ?_
          refine .reg' [0, 1, 5] [] ⟨[(0, (.sl true a0.length 1 (a0.flatMap encI))), (1, (I (wrap64 (x1 + 1)))), (5, (I x2))], [], [], []⟩ [c_ 211, l_ 26, b_ 0, c_ 7] aln nocal ?_
          refine .reg' [0, 1, 5] [] ⟨[(0, (.sl true a0.length 1 (a0.flatMap encI))), (1, (I (wrap64 (x1 + 1)))), (5, (I (wrap64 (x2 + 1))))], [], [], []⟩ [l_ 26, b_ 0, c_ 7] aln nocal ?_
          exact ih0 a0 (wrap64 (x1 + 1)) (wrap64 (x2 + 1)) _ h
        · rw [if_neg c3] at h
          refine .cond' (.tmp 17) true [c_ 6724, c_ 6725, c_ 841, b_ 1, c_ 211, l_ 26, b_ 0, c_ 7] (bT (nT (qF c3))) ?_
          refine .reg' [4] [] ⟨[(4, (I (-1)))], [], [], []⟩ [c_ 6725, c_ 841, b_ 1, c_ 211, l_ 26, b_ 0, c_ 7] aln nocal ?_
          have h := Option.some.inj h
          subst h
          exact .fin0 [] (I (-1)) [] aln (.z .s)
      · rw [if_neg c2] at h
        cases h
    · rw [if_neg c1] at h
      refine .cond' (.tmp 9) false [c_ 14, c_ 15] (bF (dF c1)) ?_
      refine .reg' [4] [] ⟨[(4, (I x1))], [], [], []⟩ [c_ 15] aln nocal ?_
      have h := Option.some.inj h
      subst h
      exact .fin0 [] (I x1) [] aln (.z .s)
theorem laws_heldIntS.J (k : Nat) (a0 : (List Int)) (a1 : Int) (r : Int) (h : laws_heldIntS.f k a0 a1 = some r) : J prog (.call 34 [(.sl true a0.length 1 (a0.flatMap encI)), (I a1)] [] (I r) []) := by
  unfold laws_heldIntS.f at h
  have ih0 := laws_heldIntS.lab k
  refine .call' [c_ 2, c_ 3] ?_
  refine .reg' [0, 1] [] ⟨[(0, (.sl true a0.length 1 (a0.flatMap encI))), (1, (I a1))], [], [], []⟩ [c_ 12, c_ 13, c_ 7] aln nocal ?_
  refine .reg' [0, 1, 5] [] ⟨[(0, (.sl true a0.length 1 (a0.flatMap encI))), (1, (I a1)), (5, (I 0))], [], [], []⟩ [l_ 26, b_ 0, c_ 7] aln nocal ?_
  exact ih0 a0 a1 0 _ h
/-! laws_FnExactFinish: function 9 -/
def laws_FnExactFinish.f (k : Nat) (a0 : (List Int)) (a1 : (List S44)) : Option Bool := (if (a0.length : Int) > 1048576 then (some true) else ((laws_szSingleS.f a1 1048576).bind fun x1 => (if x1 < 0 then (some true) else ((laws_toIntS.f k a0).bind fun x2 => ((laws_toSingleS.f k a1).bind fun x3 => ((spec_Finish.f k x2 x3).bind fun x4 => ((laws_toIntS.f k a0).bind fun x5 => ((laws_toSingleS.f k a1).bind fun x6 => ((impl_Finish.f k x5 x6).bind fun x7 => ((laws_eqIntS.f k x7 x4).bind fun x8 => (if x8 = true then ((laws_toIntS.f k a0).bind fun x9 => ((laws_eqIntS.f k x5 x9).bind fun x10 => (if x10 = true then ((laws_toSingleS.f k a1).bind fun x11 => ((laws_eqSingleS.f k x6 x11).bind fun x12 => (if x12 = true then ((laws_markIntS.f k x5 1).bind fun x13 => ((laws_markSingleS.f k x6 x13.1).bind fun x14 => (if x14.1 < 0 then (some false) else ((laws_eqIntS.f k x7 x4).bind fun x15 => (if x15 = true then ((laws_markIntS.f k x7 1).bind fun x16 => ((laws_heldIntS.f k x16.2 1).bind fun x17 => (if x17 < 0 then (some false) else (if x17 = x16.1 then ((laws_toIntS.f k a0).bind fun x18 => ((laws_toSingleS.f k a1).bind fun x19 => ((impl_Finish.f k x18 x19).bind fun x20 => ((laws_eqIntS.f k x20 x4).bind fun x21 => (if x21 = true then ((laws_heldIntS.f k x16.2 1).bind fun x22 => (if x22 < 0 then (some false) else (if x22 = x16.1 then (some true) else (some false)))) else (some false)))))) else (some false))))) else (some false)))))) else (some false)))) else (some false)))) else (some false))))))))))))
end Go.Proofs.Ytpjmefdpjlhkhaa.Fns
