/- The functions that the law FnWhere reaches, by the engine. Printed by a program of this seat. -/
import Derived.Test.YtoeedickghjdbaaE5
import Derived.Test.YtoeedickghjdbaaProg
import Derived.Test.YtoeedickghjdbaaFFnWherex1
namespace Go.Proofs.Ytoeedickghjdbaa.Fns
open Go.Proofs.Try Go.Proofs.Ytoeedickghjdbaa.Eng Go.RowKit
set_option maxRecDepth 100000
set_option linter.unusedVariables false
set_option linter.unusedSimpArgs false
theorem impl_Where.lab : ∀ k, (∀ (a0 : S28) (a1 : Int) (x2 : Int) (r : (Int × Int)), impl_Where.l0 k a0 a1 x2 = some r → J prog (.run 17 [] [l_ 122, b_ 0, c_ 31] [(1, (I a1)), (19, (.sl true a0.f1.length 3 (a0.f1.flatMap e54))), (20, (I (a0.f1.length : Int))), (21, (I x2))] [] (.tp [(I r.1), (I r.2)]) []))
 | 0 => (by intro a0 a1 x2 r h; unfold impl_Where.l0 at h; cases h)
 | k + 1 => by
  have ih0 := impl_Where.lab k
  · intro a0 a1 x2 r h
    unfold impl_Where.l0 at h
    refine .loop' [c_ 488, c_ 489, l_ 122, b_ 0, c_ 31] ?_
    refine .reg' [1, 19, 20, 21, 22] [] ⟨[(1, (I a1)), (19, (.sl true a0.f1.length 3 (a0.f1.flatMap e54))), (20, (I (a0.f1.length : Int))), (21, (I x2)), (22, (B (decide (x2 < (a0.f1.length : Int)))))], [], [], []⟩ [c_ 978, c_ 979, l_ 122, b_ 0, c_ 31] aln nocal ?_
    by_cases c4 : x2 < (a0.f1.length : Int)
    · rw [if_pos c4] at h
      refine .cond' (.tmp 22) true [c_ 7832, c_ 7833, b_ 1, c_ 1959, l_ 122, b_ 0, c_ 31] (bT (dT c4)) ?_
      by_cases c5 : 0 ≤ x2
      · rw [if_pos c5] at h
        refine .reg' [1, 6, 7, 19, 20, 21] [.no, .no, .v (.ag [(I (at_ a0.f1 x2).f0), (I (at_ a0.f1 x2).f1), (I (at_ a0.f1 x2).f2)])] ⟨[(1, (I a1)), (6, (I x2)), (7, (.pt 2051 0 3)), (19, (.sl true a0.f1.length 3 (a0.f1.flatMap e54))), (20, (I (a0.f1.length : Int))), (21, (I x2))], [(2051, [(I (at_ a0.f1 x2).f0), (I (at_ a0.f1 x2).f1), (I (at_ a0.f1 x2).f2)])], [(0 : Int) ≤ x2 ∧ x2 < (a0.f1.length : Int), rdC prog 55 ((a0.f1.flatMap e54).drop (x2.toNat * 3)) = (.ag [(I (at_ a0.f1 x2).f0), (I (at_ a0.f1 x2).f1), (I (at_ a0.f1 x2).f2)]), 3 ≤ ((a0.f1.flatMap e54).drop (x2.toNat * 3)).length, 3 = 3 ∧ 0 + 3 ≤ 3], []⟩ [c_ 31332, c_ 31333, c_ 15667, b_ 1, c_ 1959, l_ 122, b_ 0, c_ 31] (alc ⟨c5, c4⟩ (alc (ldA e54_ok rfl rfl c5 c4) (alc (okI e54_ok c5 c4 (by decide)) (alc ⟨rfl, by decide⟩ aln)))) nocal ?_
        refine .reg' [1, 6, 7, 19, 20, 21, 29] [] ⟨[(1, (I a1)), (6, (I x2)), (7, (.pt 2051 0 3)), (19, (.sl true a0.f1.length 3 (a0.f1.flatMap e54))), (20, (I (a0.f1.length : Int))), (21, (I x2)), (29, (B (decide (a1 < (at_ a0.f1 x2).f1))))], [(2051, [(I (at_ a0.f1 x2).f0), (I (at_ a0.f1 x2).f1), (I (at_ a0.f1 x2).f2)])], [3 = 3 ∧ 1 + 1 ≤ 3], []⟩ [c_ 31333, c_ 15667, b_ 1, c_ 1959, l_ 122, b_ 0, c_ 31] (alc ⟨rfl, by decide⟩ aln) nocal ?_
        by_cases c6 : a1 < (at_ a0.f1 x2).f1
        · rw [if_pos c6] at h
          refine .cond' (.tmp 29) true [c_ 125332, c_ 125333, c_ 15667, b_ 1, c_ 1959, l_ 122, b_ 0, c_ 31] (bT (dT c6)) ?_
          refine .reg' [4, 5] [] ⟨[(4, (I (wrap64 (x2 - 1)))), (5, (I 1))], [(2051, [(I (at_ a0.f1 x2).f0), (I (at_ a0.f1 x2).f1), (I (at_ a0.f1 x2).f2)])], [], []⟩ [c_ 125333, c_ 15667, b_ 1, c_ 1959, l_ 122, b_ 0, c_ 31] aln nocal ?_
          have h := Option.some.inj h
          subst h
          exact .fin0 [] (.tp [(I (wrap64 (x2 - 1))), (I 1)]) [] aln (cnv_tp (a2c (.z .s) (a2c (.z .s) a2n)))
        · rw [if_neg c6] at h
          refine .cond' (.tmp 29) false [c_ 31334, c_ 31335, b_ 1, c_ 1959, l_ 122, b_ 0, c_ 31] (bF (dF c6)) ?_
          refine .reg' [1, 6, 19, 20, 21, 35] [] ⟨[(1, (I a1)), (6, (I x2)), (19, (.sl true a0.f1.length 3 (a0.f1.flatMap e54))), (20, (I (a0.f1.length : Int))), (21, (I x2)), (35, (B (decide (a1 ≤ (at_ a0.f1 x2).f2))))], [(2051, [(I (at_ a0.f1 x2).f0), (I (at_ a0.f1 x2).f1), (I (at_ a0.f1 x2).f2)])], [3 = 3 ∧ 2 + 1 ≤ 3], []⟩ [c_ 31335, b_ 1, c_ 1959, l_ 122, b_ 0, c_ 31] (alc ⟨rfl, by decide⟩ aln) nocal ?_
          by_cases c7 : a1 ≤ (at_ a0.f1 x2).f2
          · rw [if_pos c7] at h
            refine .cond' (.tmp 35) true [c_ 125340, c_ 125341, b_ 1, c_ 1959, l_ 122, b_ 0, c_ 31] (bT (dT c7)) ?_
            refine .reg' [4, 5] [] ⟨[(4, (I x2)), (5, (I 0))], [(2051, [(I (at_ a0.f1 x2).f0), (I (at_ a0.f1 x2).f1), (I (at_ a0.f1 x2).f2)])], [], []⟩ [c_ 125341, b_ 1, c_ 1959, l_ 122, b_ 0, c_ 31] aln nocal ?_
            have h := Option.some.inj h
            subst h
            exact .fin0 [] (.tp [(I x2), (I 0)]) [] aln (cnv_tp (a2c (.z .s) (a2c (.z .s) a2n)))
          · rw [if_neg c7] at h
            refine .cond' (.tmp 35) false [c_ 1959, l_ 122, b_ 0, c_ 31] (bF (dF c7)) ?_
            refine .reg' [1, 19, 20, 21] [] ⟨[(1, (I a1)), (19, (.sl true a0.f1.length 3 (a0.f1.flatMap e54))), (20, (I (a0.f1.length : Int))), (21, (I (wrap64 (x2 + 1))))], [(2051, [(I (at_ a0.f1 x2).f0), (I (at_ a0.f1 x2).f1), (I (at_ a0.f1 x2).f2)])], [], []⟩ [l_ 122, b_ 0, c_ 31] aln nocal ?_
            refine .wk' [] [] [(1, (I a1)), (19, (.sl true a0.f1.length 3 (a0.f1.flatMap e54))), (20, (I (a0.f1.length : Int))), (21, (I (wrap64 (x2 + 1))))] [] shn (enc_ (.z .s) (enc_ (.z (frz_sl e54_ok (fun h => h))) (enc_ (.z .s) (enc_ (.z .s) enn)))) ?_
            exact ih0 a0 a1 (wrap64 (x2 + 1)) _ h
      · rw [if_neg c5] at h
        cases h
    · rw [if_neg c4] at h
      refine .cond' (.tmp 22) false [c_ 62, c_ 63] (bF (dF c4)) ?_
      refine .reg' [4, 5] [] ⟨[(4, (I (-1))), (5, (I 1))], [], [], []⟩ [c_ 63] aln nocal ?_
      have h := Option.some.inj h
      subst h
      exact .fin0 [] (.tp [(I (-1)), (I 1)]) [] aln (cnv_tp (a2c (.z .s) (a2c (.z .s) a2n)))
theorem impl_Where.J (k : Nat) (a0 : S28) (a1 : Int) (r : (Int × Int)) (h : impl_Where.f k a0 a1 = some r) : J prog (.call 17 [(.ag [(S a0.f0), (.sl true a0.f1.length 3 (a0.f1.flatMap e54))]), (I a1)] [] (.tp [(I r.1), (I r.2)]) []) := by
  unfold impl_Where.f at h
  have ih0 := impl_Where.lab k
  refine .call' [c_ 2, c_ 3] ?_
  refine .reg' [1, 2] [] ⟨[(1, (I a1)), (2, (.pt 256 0 2))], [(256, [(S a0.f0), (.sl true a0.f1.length 3 (a0.f1.flatMap e54))])], [], []⟩ [c_ 12, c_ 13, c_ 7] aln nocal ?_
  obtain ⟨x1, hx1, h⟩ := Option.bind_eq_some_iff.mp h
  refine .reg' [1, 2, 10] [.no, .c ⟨14, [(.ag [(S a0.f0), (.sl true a0.f1.length 3 (a0.f1.flatMap e54))])], [], (B x1), [], [], [], [], (B x1), []⟩] ⟨[(1, (I a1)), (2, (.pt 256 0 2)), (10, (B (!x1)))], [(256, [(S a0.f0), (.sl true a0.f1.length 3 (a0.f1.flatMap e54))])], [2 = 2 ∧ 0 + 2 ≤ 2, COK (hget [(256, [(S a0.f0), (.sl true a0.f1.length 3 (a0.f1.flatMap e54))])]) [(.ag [(S a0.f0), (.sl true a0.f1.length 3 (a0.f1.flatMap e54))])] ⟨14, [(.ag [(S a0.f0), (.sl true a0.f1.length 3 (a0.f1.flatMap e54))])], [], (B x1), [], [], [], [], (B x1), []⟩], [⟨14, [(.ag [(S a0.f0), (.sl true a0.f1.length 3 (a0.f1.flatMap e54))])], [], (B x1), [], [], [], [], (B x1), []⟩]⟩ [c_ 13, c_ 7] (alc ⟨rfl, by decide⟩ (alc (cok0 false (a2c (.z (frz_ag (a2c .s (a2c (frz_sl e54_ok (fun h => h)) a2n)))) a2n) (.z .s) (fun h => absurd h (by decide))) aln)) (acal (impl_TripOk.J k a0 _ hx1) nocal) ?_
  by_cases c1 : x1 = true
  · rw [if_pos c1] at h
    refine .cond' (.tmp 10) false [c_ 28, c_ 29, c_ 15] (bF (nF c1)) ?_
    by_cases c2 : 0 < (a0.f1.length : Int)
    · rw [if_pos c2] at h
      refine .reg' [1, 2, 17] [.no, .no, .no, .no, .no, .v (I (at_ a0.f1 0).f1)] ⟨[(1, (I a1)), (2, (.pt 256 0 2)), (17, (B (decide (a1 < (at_ a0.f1 0).f1))))], [(256, [(S a0.f0), (.sl true a0.f1.length 3 (a0.f1.flatMap e54))])], [2 = 2 ∧ 1 + 1 ≤ 2, (0 : Int) ≤ 0 ∧ 0 < (a0.f1.length : Int), rdC prog 3 (((a0.f1.flatMap e54).drop ((0 : Int).toNat * 3)).drop 1) = (I (at_ a0.f1 0).f1), 1 ≤ (((a0.f1.flatMap e54).drop ((0 : Int).toNat * 3)).drop 1).length], []⟩ [c_ 29, c_ 15] (alc ⟨rfl, by decide⟩ (alc ⟨(by decide), c2⟩ (alc (ldC e54_ok 1 (by decide) rfl (by decide) c2) (alc (okIj e54_ok (by decide) c2 (by decide)) aln)))) nocal ?_
      by_cases c3 : a1 < (at_ a0.f1 0).f1
      · rw [if_pos c3] at h
        refine .cond' (.tmp 17) true [c_ 116, c_ 117, c_ 15] (bT (dT c3)) ?_
        refine .reg' [4, 5] [] ⟨[(4, (I (-1))), (5, (I 0))], [(256, [(S a0.f0), (.sl true a0.f1.length 3 (a0.f1.flatMap e54))])], [], []⟩ [c_ 117, c_ 15] aln nocal ?_
        have h := Option.some.inj h
        subst h
        exact .fin0 [] (.tp [(I (-1)), (I 0)]) [] aln (cnv_tp (a2c (.z .s) (a2c (.z .s) a2n)))
      · rw [if_neg c3] at h
        refine .cond' (.tmp 17) false [c_ 60, c_ 61, c_ 31] (bF (dF c3)) ?_
        refine .reg' [1, 19, 20, 21] [] ⟨[(1, (I a1)), (19, (.sl true a0.f1.length 3 (a0.f1.flatMap e54))), (20, (I (a0.f1.length : Int))), (21, (I 0))], [(256, [(S a0.f0), (.sl true a0.f1.length 3 (a0.f1.flatMap e54))])], [2 = 2 ∧ 1 + 1 ≤ 2], []⟩ [l_ 122, b_ 0, c_ 31] (alc ⟨rfl, by decide⟩ aln) nocal ?_
        refine .wk' [] [] [(1, (I a1)), (19, (.sl true a0.f1.length 3 (a0.f1.flatMap e54))), (20, (I (a0.f1.length : Int))), (21, (I 0))] [] shn (enc_ (.z .s) (enc_ (.z (frz_sl e54_ok (fun h => h))) (enc_ (.z .s) (enc_ (.z .s) enn)))) ?_
        exact ih0 a0 a1 0 _ h
    · rw [if_neg c2] at h
      cases h
  · rw [if_neg c1] at h
    refine .cond' (.tmp 10) true [c_ 52, c_ 53, c_ 7] (bT (nT (vF c1))) ?_
    refine .reg' [4, 5] [] ⟨[(4, (I (-1))), (5, (I 2))], [(256, [(S a0.f0), (.sl true a0.f1.length 3 (a0.f1.flatMap e54))])], [], []⟩ [c_ 53, c_ 7] aln nocal ?_
    have h := Option.some.inj h
    subst h
    exact .fin0 [] (.tp [(I (-1)), (I 2)]) [] aln (cnv_tp (a2c (.z .s) (a2c (.z .s) a2n)))
/-! laws_FnWhere: function 9 -/
mutual
def laws_FnWhere.l0 : Nat → S28 → Int → Option Bool
 | 0, _, _ => none
 | k + 1, x2, x3 => (if 0 ≤ (wrap64 ((x2.f1.length : Int) - 1)) then (if (wrap64 ((x2.f1.length : Int) - 1)) < (x2.f1.length : Int) then (if x3 ≤ (at_ x2.f1 (wrap64 ((x2.f1.length : Int) - 1))).f2 then ((impl_Where.f k x2 x3).bind fun x4 => (if x4.1 < 0 then (some false) else (if x4.1 > (wrap64 ((x2.f1.length : Int) - 1)) then (some false) else (if x4.2 = 0 then (laws_FnWhere.j1 k x2 x3 x4) else (if x4.2 = 1 then (laws_FnWhere.j1 k x2 x3 x4) else (some false)))))) else (if 0 < (x2.f1.length : Int) then ((impl_Where.f k x2 (wrap64 ((at_ x2.f1 0).f1 - 1))).bind fun x5 => ((impl_Where.f k x2 (wrap64 ((at_ x2.f1 (wrap64 ((x2.f1.length : Int) - 1))).f2 + 1))).bind fun x6 => (if x5.1 = (-1) then (if x5.2 = 0 then (if x6.1 = (-1) then (some (x6.2 == 1)) else (some false)) else (some false)) else (some false)))) else none)) else none) else none)
def laws_FnWhere.j1 : Nat → S28 → Int → (Int × Int) → Option Bool
 | 0, _, _, _ => none
 | k + 1, x2, x3, x4 => (if x4.2 = 0 then (if 0 ≤ x4.1 then (if x4.1 < (x2.f1.length : Int) then (if x3 < (at_ x2.f1 x4.1).f1 then (some false) else (if x3 > (at_ x2.f1 x4.1).f2 then (some false) else (if x4.2 = 1 then (if x4.1 = (wrap64 ((x2.f1.length : Int) - 1)) then (some false) else (if x3 ≤ (at_ x2.f1 x4.1).f2 then (some false) else (if 0 ≤ (wrap64 (x4.1 + 1)) then (if (wrap64 (x4.1 + 1)) < (x2.f1.length : Int) then (if x3 ≥ (at_ x2.f1 (wrap64 (x4.1 + 1))).f1 then (some false) else (laws_FnWhere.l0 k x2 (wrap64 (x3 + 1)))) else none) else none))) else (laws_FnWhere.l0 k x2 (wrap64 (x3 + 1)))))) else none) else none) else (if x4.2 = 1 then (if x4.1 = (wrap64 ((x2.f1.length : Int) - 1)) then (some false) else (if 0 ≤ x4.1 then (if x4.1 < (x2.f1.length : Int) then (if x3 ≤ (at_ x2.f1 x4.1).f2 then (some false) else (if 0 ≤ (wrap64 (x4.1 + 1)) then (if (wrap64 (x4.1 + 1)) < (x2.f1.length : Int) then (if x3 ≥ (at_ x2.f1 (wrap64 (x4.1 + 1))).f1 then (some false) else (laws_FnWhere.l0 k x2 (wrap64 (x3 + 1)))) else none) else none)) else none) else none)) else (laws_FnWhere.l0 k x2 (wrap64 (x3 + 1)))))
end
def laws_FnWhere.f (k : Nat) (a0 : (List Int)) : Option Bool := ((laws_big.f a0).bind fun x1 => (if x1 = true then (some true) else ((spec_DrawRightTrip.f k a0).bind fun x2 => (if 0 < (x2.f1.length : Int) then (laws_FnWhere.l0 k x2 ((at_ x2.f1 0).f1)) else none))))
theorem laws_FnWhere.lab : ∀ k, (∀ (x2 : S28) (x3 : Int) (r : Bool), laws_FnWhere.l0 k x2 x3 = some r → J prog (.run 9 [] [l_ 250, b_ 0, c_ 63] [(3, (.pt 1026 0 2)), (4, (I (wrap64 ((x2.f1.length : Int) - 1)))), (5, (I x3))] [(1001025, (x2.f1.flatMap e54)), (1026, [(S x2.f0), (.rf 1001025 0 x2.f1.length 3 (x2.f1.length * 3))])] (B r) [])) ∧ (∀ (x2 : S28) (x3 : Int) (x4 : (Int × Int)) (r : Bool), laws_FnWhere.j1 k x2 x3 x4 = some r → J prog (.run 9 [] [c_ 64076, c_ 64077, c_ 32039, b_ 1, c_ 2003, l_ 250, b_ 0, c_ 63] [(3, (.pt 1026 0 2)), (4, (I (wrap64 ((x2.f1.length : Int) - 1)))), (5, (I x3)), (6, (I x4.1)), (7, (I x4.2))] [(1001025, (x2.f1.flatMap e54)), (1026, [(S x2.f0), (.rf 1001025 0 x2.f1.length 3 (x2.f1.length * 3))])] (B r) []))
 | 0 => ⟨(by intro x2 x3 r h; unfold laws_FnWhere.l0 at h; cases h), (by intro x2 x3 x4 r h; unfold laws_FnWhere.j1 at h; cases h)⟩
 | k + 1 => by
  obtain ⟨ih0, ih1⟩ := laws_FnWhere.lab k
  refine ⟨?_, ?_⟩
  · intro x2 x3 r h
    unfold laws_FnWhere.l0 at h
    refine .loop' [c_ 2000, c_ 2001, c_ 1001, l_ 250, b_ 0, c_ 63] ?_
    by_cases c3 : 0 ≤ (wrap64 ((x2.f1.length : Int) - 1))
    · rw [if_pos c3] at h
      by_cases c4 : (wrap64 ((x2.f1.length : Int) - 1)) < (x2.f1.length : Int)
      · rw [if_pos c4] at h
        refine .reg' [3, 4, 5, 32] [.no, .no, .no, .no, .no, .no, .v (I (at_ x2.f1 (wrap64 ((x2.f1.length : Int) - 1))).f2)] ⟨[(3, (.pt 1026 0 2)), (4, (I (wrap64 ((x2.f1.length : Int) - 1)))), (5, (I x3)), (32, (B (decide (x3 ≤ (at_ x2.f1 (wrap64 ((x2.f1.length : Int) - 1))).f2))))], [(1001025, (x2.f1.flatMap e54)), (1026, [(S x2.f0), (.rf 1001025 0 x2.f1.length 3 (x2.f1.length * 3))])], [2 = 2 ∧ 1 + 1 ≤ 2, (0 : Int) ≤ (wrap64 ((x2.f1.length : Int) - 1)) ∧ (wrap64 ((x2.f1.length : Int) - 1)) < (x2.f1.length : Int), rdC prog 3 ((x2.f1.flatMap e54).drop (0 + (wrap64 ((x2.f1.length : Int) - 1)).toNat * 3 + 2)) = (I (at_ x2.f1 (wrap64 ((x2.f1.length : Int) - 1))).f2), x2.f1.length * 3 = (x2.f1.flatMap e54).length ∧ 0 + (wrap64 ((x2.f1.length : Int) - 1)).toNat * 3 + 2 + 1 ≤ (x2.f1.flatMap e54).length], []⟩ [c_ 2001, c_ 1001, l_ 250, b_ 0, c_ 63] (alc ⟨rfl, by decide⟩ (alc ⟨c3, c4⟩ (alc (ldC0 e54_ok 2 (by decide) rfl c3 c4) (alc (okA e54_ok c3 c4 (by decide)) aln)))) nocal ?_
        by_cases c5 : x3 ≤ (at_ x2.f1 (wrap64 ((x2.f1.length : Int) - 1))).f2
        · rw [if_pos c5] at h
          refine .cond' (.tmp 32) true [c_ 8008, c_ 8009, b_ 1, c_ 2003, l_ 250, b_ 0, c_ 63] (bT (dT c5)) ?_
          obtain ⟨x4, hx4, h⟩ := Option.bind_eq_some_iff.mp h
          refine .reg' [3, 4, 5, 6, 7] [.no, .no, .c ⟨17, [(.ag [(S x2.f0), (.sl true x2.f1.length 3 (x2.f1.flatMap e54))]), (I x3)], [], (.tp [(I x4.1), (I x4.2)]), [], [1001025], [], [], (.tp [(I x4.1), (I x4.2)]), []⟩] ⟨[(3, (.pt 1026 0 2)), (4, (I (wrap64 ((x2.f1.length : Int) - 1)))), (5, (I x3)), (6, (I x4.1)), (7, (I x4.2))], [(1001025, (x2.f1.flatMap e54)), (1026, [(S x2.f0), (.rf 1001025 0 x2.f1.length 3 (x2.f1.length * 3))])], [2 = 2 ∧ 0 + 2 ≤ 2, COK (hget [(1001025, (x2.f1.flatMap e54)), (1026, [(S x2.f0), (.rf 1001025 0 x2.f1.length 3 (x2.f1.length * 3))])]) [(.ag [(S x2.f0), (.rf 1001025 0 x2.f1.length 3 (x2.f1.length * 3))]), (I x3)] ⟨17, [(.ag [(S x2.f0), (.sl true x2.f1.length 3 (x2.f1.flatMap e54))]), (I x3)], [], (.tp [(I x4.1), (I x4.2)]), [], [1001025], [], [], (.tp [(I x4.1), (I x4.2)]), []⟩], [⟨17, [(.ag [(S x2.f0), (.sl true x2.f1.length 3 (x2.f1.flatMap e54))]), (I x3)], [], (.tp [(I x4.1), (I x4.2)]), [], [1001025], [], [], (.tp [(I x4.1), (I x4.2)]), []⟩]⟩ [c_ 32036, c_ 32037, c_ 16019, b_ 1, c_ 2003, l_ 250, b_ 0, c_ 63] (alc ⟨rfl, by decide⟩ (alc (cok0 false (a2c (cnv_ag (a2c (.z .s) (a2c (.z (frz_rf (k := 1001025) e54_ok (by simp) rfl rfl (row_len e54_ok _).symm)) a2n))) (a2c (.z .s) a2n)) (bck_tp (a2c (.z .s) (a2c (.z .s) a2n))) (fun h => absurd h (by decide))) aln)) (acal (impl_Where.J k x2 x3 _ hx4) nocal) ?_
          by_cases c6 : x4.1 < 0
          · rw [if_pos c6] at h
            refine .reg' [3, 4, 5, 6, 7, 55] [.no, .no, .v (B true)] ⟨[(3, (.pt 1026 0 2)), (4, (I (wrap64 ((x2.f1.length : Int) - 1)))), (5, (I x3)), (6, (I x4.1)), (7, (I x4.2)), (55, (B true))], [(1001025, (x2.f1.flatMap e54)), (1026, [(S x2.f0), (.rf 1001025 0 x2.f1.length 3 (x2.f1.length * 3))])], [(B (decide (x4.1 < 0)) : V) = B true], []⟩ [c_ 32037, c_ 16019, b_ 1, c_ 2003, l_ 250, b_ 0, c_ 63] (alc (bT (dT c6)) aln) nocal ?_
            refine .cond' (.tmp 55) true [c_ 128148, c_ 128149, c_ 16019, b_ 1, c_ 2003, l_ 250, b_ 0, c_ 63] (rfl) ?_
            refine .reg' [2] [] ⟨[(2, (B false))], [(1001025, (x2.f1.flatMap e54)), (1026, [(S x2.f0), (.rf 1001025 0 x2.f1.length 3 (x2.f1.length * 3))])], [], []⟩ [c_ 128149, c_ 16019, b_ 1, c_ 2003, l_ 250, b_ 0, c_ 63] aln nocal ?_
            have h := Option.some.inj h
            subst h
            exact .fin0 [] (B false) [] aln (.z .s)
          · rw [if_neg c6] at h
            by_cases c7 : x4.1 > (wrap64 ((x2.f1.length : Int) - 1))
            · rw [if_pos c7] at h
              refine .reg' [3, 4, 5, 6, 7, 55] [.no, .no, .v (B false), .no, .no, .no, .no, .v (B true)] ⟨[(3, (.pt 1026 0 2)), (4, (I (wrap64 ((x2.f1.length : Int) - 1)))), (5, (I x3)), (6, (I x4.1)), (7, (I x4.2)), (55, (B true))], [(1001025, (x2.f1.flatMap e54)), (1026, [(S x2.f0), (.rf 1001025 0 x2.f1.length 3 (x2.f1.length * 3))])], [(B (decide (x4.1 < 0)) : V) = B false, (B (decide (x4.1 > (wrap64 ((x2.f1.length : Int) - 1)))) : V) = B true], []⟩ [c_ 32037, c_ 16019, b_ 1, c_ 2003, l_ 250, b_ 0, c_ 63] (alc (bF (dF c6)) (alc (bT (dT c7)) aln)) nocal ?_
              refine .cond' (.tmp 55) true [c_ 128148, c_ 128149, c_ 16019, b_ 1, c_ 2003, l_ 250, b_ 0, c_ 63] (rfl) ?_
              refine .reg' [2] [] ⟨[(2, (B false))], [(1001025, (x2.f1.flatMap e54)), (1026, [(S x2.f0), (.rf 1001025 0 x2.f1.length 3 (x2.f1.length * 3))])], [], []⟩ [c_ 128149, c_ 16019, b_ 1, c_ 2003, l_ 250, b_ 0, c_ 63] aln nocal ?_
              have h := Option.some.inj h
              subst h
              exact .fin0 [] (B false) [] aln (.z .s)
            · rw [if_neg c7] at h
              by_cases c8 : x4.2 = 0
              · rw [if_pos c8] at h
                refine .reg' [3, 4, 5, 6, 7, 55] [.no, .no, .v (B false), .no, .no, .no, .no, .v (B false), .no, .no, .v (B false)] ⟨[(3, (.pt 1026 0 2)), (4, (I (wrap64 ((x2.f1.length : Int) - 1)))), (5, (I x3)), (6, (I x4.1)), (7, (I x4.2)), (55, (B false))], [(1001025, (x2.f1.flatMap e54)), (1026, [(S x2.f0), (.rf 1001025 0 x2.f1.length 3 (x2.f1.length * 3))])], [(B (decide (x4.1 < 0)) : V) = B false, (B (decide (x4.1 > (wrap64 ((x2.f1.length : Int) - 1)))) : V) = B false, (B (!(x4.2 == 0)) : V) = B false], []⟩ [c_ 32037, c_ 16019, b_ 1, c_ 2003, l_ 250, b_ 0, c_ 63] (alc (bF (dF c6)) (alc (bF (dF c7)) (alc (bF (nF (qT c8))) aln))) nocal ?_
                refine .cond' (.tmp 55) false [c_ 64076, c_ 64077, c_ 32039, b_ 1, c_ 2003, l_ 250, b_ 0, c_ 63] (rfl) ?_
                refine .wk' [] [(1001025, 1001025), (1026, 1026)] [(3, (.pt 1026 0 2)), (4, (I (wrap64 ((x2.f1.length : Int) - 1)))), (5, (I x3)), (6, (I x4.1)), (7, (I x4.2))] [(1001025, (x2.f1.flatMap e54)), (1026, [(S x2.f0), (.rf 1001025 0 x2.f1.length 3 (x2.f1.length * 3))])] (shc 1001025 (rowF e54_ok _) (shc 1026 (a2c (.z .s) (a2c (.rf (memP_mem (p := (1001025, 1001025)) rfl)) a2n)) shn)) (enc_ (.pt (memP_mem (p := (1026, 1026)) rfl)) (enc_ (.z .s) (enc_ (.z .s) (enc_ (.z .s) (enc_ (.z .s) enn))))) ?_
                exact ih1 x2 x3 x4 _ h
              · rw [if_neg c8] at h
                refine .reg' [3, 4, 5, 6, 7, 55] [.no, .no, .v (B false), .no, .no, .no, .no, .v (B false), .no, .no, .v (B true)] ⟨[(3, (.pt 1026 0 2)), (4, (I (wrap64 ((x2.f1.length : Int) - 1)))), (5, (I x3)), (6, (I x4.1)), (7, (I x4.2)), (55, (B (!(x4.2 == 1))))], [(1001025, (x2.f1.flatMap e54)), (1026, [(S x2.f0), (.rf 1001025 0 x2.f1.length 3 (x2.f1.length * 3))])], [(B (decide (x4.1 < 0)) : V) = B false, (B (decide (x4.1 > (wrap64 ((x2.f1.length : Int) - 1)))) : V) = B false, (B (!(x4.2 == 0)) : V) = B true], []⟩ [c_ 32037, c_ 16019, b_ 1, c_ 2003, l_ 250, b_ 0, c_ 63] (alc (bF (dF c6)) (alc (bF (dF c7)) (alc (bT (nT (qF c8))) aln))) nocal ?_
                by_cases c28 : x4.2 = 1
                · rw [if_pos c28] at h
                  refine .cond' (.tmp 55) false [c_ 64076, c_ 64077, c_ 32039, b_ 1, c_ 2003, l_ 250, b_ 0, c_ 63] (bF (nF (qT c28))) ?_
                  refine .wk' [] [(1001025, 1001025), (1026, 1026)] [(3, (.pt 1026 0 2)), (4, (I (wrap64 ((x2.f1.length : Int) - 1)))), (5, (I x3)), (6, (I x4.1)), (7, (I x4.2))] [(1001025, (x2.f1.flatMap e54)), (1026, [(S x2.f0), (.rf 1001025 0 x2.f1.length 3 (x2.f1.length * 3))])] (shc 1001025 (rowF e54_ok _) (shc 1026 (a2c (.z .s) (a2c (.rf (memP_mem (p := (1001025, 1001025)) rfl)) a2n)) shn)) (enc_ (.pt (memP_mem (p := (1026, 1026)) rfl)) (enc_ (.z .s) (enc_ (.z .s) (enc_ (.z .s) (enc_ (.z .s) enn))))) ?_
                  exact ih1 x2 x3 x4 _ h
                · rw [if_neg c28] at h
                  refine .cond' (.tmp 55) true [c_ 128148, c_ 128149, c_ 16019, b_ 1, c_ 2003, l_ 250, b_ 0, c_ 63] (bT (nT (qF c28))) ?_
                  refine .reg' [2] [] ⟨[(2, (B false))], [(1001025, (x2.f1.flatMap e54)), (1026, [(S x2.f0), (.rf 1001025 0 x2.f1.length 3 (x2.f1.length * 3))])], [], []⟩ [c_ 128149, c_ 16019, b_ 1, c_ 2003, l_ 250, b_ 0, c_ 63] aln nocal ?_
                  have h := Option.some.inj h
                  subst h
                  exact .fin0 [] (B false) [] aln (.z .s)
        · rw [if_neg c5] at h
          refine .cond' (.tmp 32) false [c_ 126, c_ 127] (bF (dF c5)) ?_
          by_cases c29 : 0 < (x2.f1.length : Int)
          · rw [if_pos c29] at h
            obtain ⟨x5, hx5, h⟩ := Option.bind_eq_some_iff.mp h
            refine .reg' [3, 4, 8, 9] [.no, .no, .no, .no, .no, .v (I (at_ x2.f1 0).f1), .no, .c ⟨17, [(.ag [(S x2.f0), (.sl true x2.f1.length 3 (x2.f1.flatMap e54))]), (I (wrap64 ((at_ x2.f1 0).f1 - 1)))], [], (.tp [(I x5.1), (I x5.2)]), [], [1001025], [], [], (.tp [(I x5.1), (I x5.2)]), []⟩] ⟨[(3, (.pt 1026 0 2)), (4, (I (wrap64 ((x2.f1.length : Int) - 1)))), (8, (I x5.1)), (9, (I x5.2))], [(1001025, (x2.f1.flatMap e54)), (1026, [(S x2.f0), (.rf 1001025 0 x2.f1.length 3 (x2.f1.length * 3))])], [2 = 2 ∧ 0 + 2 ≤ 2, 2 = 2 ∧ 1 + 1 ≤ 2, (0 : Int) ≤ 0 ∧ 0 < (x2.f1.length : Int), rdC prog 3 ((x2.f1.flatMap e54).drop (0 + (0 : Int).toNat * 3 + 1)) = (I (at_ x2.f1 0).f1), x2.f1.length * 3 = (x2.f1.flatMap e54).length ∧ 0 + (0 : Int).toNat * 3 + 1 + 1 ≤ (x2.f1.flatMap e54).length, COK (hget [(1001025, (x2.f1.flatMap e54)), (1026, [(S x2.f0), (.rf 1001025 0 x2.f1.length 3 (x2.f1.length * 3))])]) [(.ag [(S x2.f0), (.rf 1001025 0 x2.f1.length 3 (x2.f1.length * 3))]), (I (wrap64 ((at_ x2.f1 0).f1 - 1)))] ⟨17, [(.ag [(S x2.f0), (.sl true x2.f1.length 3 (x2.f1.flatMap e54))]), (I (wrap64 ((at_ x2.f1 0).f1 - 1)))], [], (.tp [(I x5.1), (I x5.2)]), [], [1001025], [], [], (.tp [(I x5.1), (I x5.2)]), []⟩], [⟨17, [(.ag [(S x2.f0), (.sl true x2.f1.length 3 (x2.f1.flatMap e54))]), (I (wrap64 ((at_ x2.f1 0).f1 - 1)))], [], (.tp [(I x5.1), (I x5.2)]), [], [1001025], [], [], (.tp [(I x5.1), (I x5.2)]), []⟩]⟩ [c_ 254, c_ 255] (alc ⟨rfl, by decide⟩ (alc ⟨rfl, by decide⟩ (alc ⟨(by decide), c29⟩ (alc (ldC0 e54_ok 1 (by decide) rfl (by decide) c29) (alc (okA e54_ok (by decide) c29 (by decide)) (alc (cok0 false (a2c (cnv_ag (a2c (.z .s) (a2c (.z (frz_rf (k := 1001025) e54_ok (by simp) rfl rfl (row_len e54_ok _).symm)) a2n))) (a2c (.z .s) a2n)) (bck_tp (a2c (.z .s) (a2c (.z .s) a2n))) (fun h => absurd h (by decide))) aln)))))) (acal (impl_Where.J k x2 (wrap64 ((at_ x2.f1 0).f1 - 1)) _ hx5) nocal) ?_
            obtain ⟨x6, hx6, h⟩ := Option.bind_eq_some_iff.mp h
            refine .reg' [8, 9, 10, 11] [.no, .no, .no, .no, .no, .no, .v (I (at_ x2.f1 (wrap64 ((x2.f1.length : Int) - 1))).f2), .no, .c ⟨17, [(.ag [(S x2.f0), (.sl true x2.f1.length 3 (x2.f1.flatMap e54))]), (I (wrap64 ((at_ x2.f1 (wrap64 ((x2.f1.length : Int) - 1))).f2 + 1)))], [], (.tp [(I x6.1), (I x6.2)]), [], [1001025], [], [], (.tp [(I x6.1), (I x6.2)]), []⟩] ⟨[(8, (I x5.1)), (9, (I x5.2)), (10, (I x6.1)), (11, (I x6.2))], [(1001025, (x2.f1.flatMap e54)), (1026, [(S x2.f0), (.rf 1001025 0 x2.f1.length 3 (x2.f1.length * 3))])], [2 = 2 ∧ 0 + 2 ≤ 2, 2 = 2 ∧ 1 + 1 ≤ 2, (0 : Int) ≤ (wrap64 ((x2.f1.length : Int) - 1)) ∧ (wrap64 ((x2.f1.length : Int) - 1)) < (x2.f1.length : Int), rdC prog 3 ((x2.f1.flatMap e54).drop (0 + (wrap64 ((x2.f1.length : Int) - 1)).toNat * 3 + 2)) = (I (at_ x2.f1 (wrap64 ((x2.f1.length : Int) - 1))).f2), x2.f1.length * 3 = (x2.f1.flatMap e54).length ∧ 0 + (wrap64 ((x2.f1.length : Int) - 1)).toNat * 3 + 2 + 1 ≤ (x2.f1.flatMap e54).length, COK (hget [(1001025, (x2.f1.flatMap e54)), (1026, [(S x2.f0), (.rf 1001025 0 x2.f1.length 3 (x2.f1.length * 3))])]) [(.ag [(S x2.f0), (.rf 1001025 0 x2.f1.length 3 (x2.f1.length * 3))]), (I (wrap64 ((at_ x2.f1 (wrap64 ((x2.f1.length : Int) - 1))).f2 + 1)))] ⟨17, [(.ag [(S x2.f0), (.sl true x2.f1.length 3 (x2.f1.flatMap e54))]), (I (wrap64 ((at_ x2.f1 (wrap64 ((x2.f1.length : Int) - 1))).f2 + 1)))], [], (.tp [(I x6.1), (I x6.2)]), [], [1001025], [], [], (.tp [(I x6.1), (I x6.2)]), []⟩], [⟨17, [(.ag [(S x2.f0), (.sl true x2.f1.length 3 (x2.f1.flatMap e54))]), (I (wrap64 ((at_ x2.f1 (wrap64 ((x2.f1.length : Int) - 1))).f2 + 1)))], [], (.tp [(I x6.1), (I x6.2)]), [], [1001025], [], [], (.tp [(I x6.1), (I x6.2)]), []⟩]⟩ [c_ 510, c_ 511] (alc ⟨rfl, by decide⟩ (alc ⟨rfl, by decide⟩ (alc ⟨c3, c4⟩ (alc (ldC0 e54_ok 2 (by decide) rfl c3 c4) (alc (okA e54_ok c3 c4 (by decide)) (alc (cok0 false (a2c (cnv_ag (a2c (.z .s) (a2c (.z (frz_rf (k := 1001025) e54_ok (by simp) rfl rfl (row_len e54_ok _).symm)) a2n))) (a2c (.z .s) a2n)) (bck_tp (a2c (.z .s) (a2c (.z .s) a2n))) (fun h => absurd h (by decide))) aln)))))) (acal (impl_Where.J k x2 (wrap64 ((at_ x2.f1 (wrap64 ((x2.f1.length : Int) - 1))).f2 + 1)) _ hx6) nocal) ?_
            by_cases c30 : x5.1 = (-1)
            · rw [if_pos c30] at h
              by_cases c31 : x5.2 = 0
              · rw [if_pos c31] at h
                by_cases c32 : x6.1 = (-1)
                · rw [if_pos c32] at h
                  refine .reg' [2] [.no, .no, .v (B true), .no, .no, .no, .v (B true), .no, .no, .no, .v (B true)] ⟨[(2, (B (x6.2 == 1)))], [(1001025, (x2.f1.flatMap e54)), (1026, [(S x2.f0), (.rf 1001025 0 x2.f1.length 3 (x2.f1.length * 3))])], [(B (x5.1 == (-1)) : V) = B true, (B (x5.2 == 0) : V) = B true, (B (x6.1 == (-1)) : V) = B true], []⟩ [c_ 511] (alc (bT (qT c30)) (alc (bT (qT c31)) (alc (bT (qT c32)) aln))) nocal ?_
                  have h := Option.some.inj h
                  subst h
                  exact .fin0 [] (B (x6.2 == 1)) [] aln (.z .s)
                · rw [if_neg c32] at h
                  refine .reg' [2] [.no, .no, .v (B true), .no, .no, .no, .v (B true), .no, .no, .no, .v (B false)] ⟨[(2, (B false))], [(1001025, (x2.f1.flatMap e54)), (1026, [(S x2.f0), (.rf 1001025 0 x2.f1.length 3 (x2.f1.length * 3))])], [(B (x5.1 == (-1)) : V) = B true, (B (x5.2 == 0) : V) = B true, (B (x6.1 == (-1)) : V) = B false], []⟩ [c_ 511] (alc (bT (qT c30)) (alc (bT (qT c31)) (alc (bF (qF c32)) aln))) nocal ?_
                  have h := Option.some.inj h
                  subst h
                  exact .fin0 [] (B false) [] aln (.z .s)
              · rw [if_neg c31] at h
                refine .reg' [2] [.no, .no, .v (B true), .no, .no, .no, .v (B false)] ⟨[(2, (B false))], [(1001025, (x2.f1.flatMap e54)), (1026, [(S x2.f0), (.rf 1001025 0 x2.f1.length 3 (x2.f1.length * 3))])], [(B (x5.1 == (-1)) : V) = B true, (B (x5.2 == 0) : V) = B false], []⟩ [c_ 511] (alc (bT (qT c30)) (alc (bF (qF c31)) aln)) nocal ?_
                have h := Option.some.inj h
                subst h
                exact .fin0 [] (B false) [] aln (.z .s)
            · rw [if_neg c30] at h
              refine .reg' [2] [.no, .no, .v (B false)] ⟨[(2, (B false))], [(1001025, (x2.f1.flatMap e54)), (1026, [(S x2.f0), (.rf 1001025 0 x2.f1.length 3 (x2.f1.length * 3))])], [(B (x5.1 == (-1)) : V) = B false], []⟩ [c_ 511] (alc (bF (qF c30)) aln) nocal ?_
              have h := Option.some.inj h
              subst h
              exact .fin0 [] (B false) [] aln (.z .s)
          · rw [if_neg c29] at h
            cases h
      · rw [if_neg c4] at h
        cases h
    · rw [if_neg c3] at h
      cases h
  · intro x2 x3 x4 r h
    unfold laws_FnWhere.j1 at h
    by_cases c9 : x4.2 = 0
    · rw [if_pos c9] at h
      by_cases c10 : 0 ≤ x4.1
      · rw [if_pos c10] at h
        by_cases c11 : x4.1 < (x2.f1.length : Int)
        · rw [if_pos c11] at h
          by_cases c12 : x3 < (at_ x2.f1 x4.1).f1
          · rw [if_pos c12] at h
            refine .reg' [3, 4, 5, 6, 7, 77] [.no, .no, .v (B true), .no, .no, .no, .no, .no, .no, .v (I (at_ x2.f1 x4.1).f1), .no, .v (B true)] ⟨[(3, (.pt 1026 0 2)), (4, (I (wrap64 ((x2.f1.length : Int) - 1)))), (5, (I x3)), (6, (I x4.1)), (7, (I x4.2)), (77, (B true))], [(1001025, (x2.f1.flatMap e54)), (1026, [(S x2.f0), (.rf 1001025 0 x2.f1.length 3 (x2.f1.length * 3))])], [(B (x4.2 == 0) : V) = B true, 2 = 2 ∧ 1 + 1 ≤ 2, (0 : Int) ≤ x4.1 ∧ x4.1 < (x2.f1.length : Int), rdC prog 3 ((x2.f1.flatMap e54).drop (0 + x4.1.toNat * 3 + 1)) = (I (at_ x2.f1 x4.1).f1), x2.f1.length * 3 = (x2.f1.flatMap e54).length ∧ 0 + x4.1.toNat * 3 + 1 + 1 ≤ (x2.f1.flatMap e54).length, (B (decide (x3 < (at_ x2.f1 x4.1).f1)) : V) = B true], []⟩ [c_ 64077, c_ 32039, b_ 1, c_ 2003, l_ 250, b_ 0, c_ 63] (alc (bT (qT c9)) (alc ⟨rfl, by decide⟩ (alc ⟨c10, c11⟩ (alc (ldC0 e54_ok 1 (by decide) rfl c10 c11) (alc (okA e54_ok c10 c11 (by decide)) (alc (bT (dT c12)) aln)))))) nocal ?_
            refine .cond' (.tmp 77) true [c_ 256308, c_ 256309, c_ 32039, b_ 1, c_ 2003, l_ 250, b_ 0, c_ 63] (rfl) ?_
            refine .reg' [2] [] ⟨[(2, (B false))], [(1001025, (x2.f1.flatMap e54)), (1026, [(S x2.f0), (.rf 1001025 0 x2.f1.length 3 (x2.f1.length * 3))])], [], []⟩ [c_ 256309, c_ 32039, b_ 1, c_ 2003, l_ 250, b_ 0, c_ 63] aln nocal ?_
            have h := Option.some.inj h
            subst h
            exact .fin0 [] (B false) [] aln (.z .s)
          · rw [if_neg c12] at h
            refine .reg' [3, 4, 5, 6, 7, 77] [.no, .no, .v (B true), .no, .no, .no, .no, .no, .no, .v (I (at_ x2.f1 x4.1).f1), .no, .v (B false), .no, .no, .no, .no, .no, .no, .v (I (at_ x2.f1 x4.1).f2)] ⟨[(3, (.pt 1026 0 2)), (4, (I (wrap64 ((x2.f1.length : Int) - 1)))), (5, (I x3)), (6, (I x4.1)), (7, (I x4.2)), (77, (B (decide (x3 > (at_ x2.f1 x4.1).f2))))], [(1001025, (x2.f1.flatMap e54)), (1026, [(S x2.f0), (.rf 1001025 0 x2.f1.length 3 (x2.f1.length * 3))])], [(B (x4.2 == 0) : V) = B true, 2 = 2 ∧ 1 + 1 ≤ 2, (0 : Int) ≤ x4.1 ∧ x4.1 < (x2.f1.length : Int), rdC prog 3 ((x2.f1.flatMap e54).drop (0 + x4.1.toNat * 3 + 1)) = (I (at_ x2.f1 x4.1).f1), x2.f1.length * 3 = (x2.f1.flatMap e54).length ∧ 0 + x4.1.toNat * 3 + 1 + 1 ≤ (x2.f1.flatMap e54).length, (B (decide (x3 < (at_ x2.f1 x4.1).f1)) : V) = B false, 2 = 2 ∧ 1 + 1 ≤ 2, (0 : Int) ≤ x4.1 ∧ x4.1 < (x2.f1.length : Int), rdC prog 3 ((x2.f1.flatMap e54).drop (0 + x4.1.toNat * 3 + 2)) = (I (at_ x2.f1 x4.1).f2), x2.f1.length * 3 = (x2.f1.flatMap e54).length ∧ 0 + x4.1.toNat * 3 + 2 + 1 ≤ (x2.f1.flatMap e54).length], []⟩ [c_ 64077, c_ 32039, b_ 1, c_ 2003, l_ 250, b_ 0, c_ 63] (alc (bT (qT c9)) (alc ⟨rfl, by decide⟩ (alc ⟨c10, c11⟩ (alc (ldC0 e54_ok 1 (by decide) rfl c10 c11) (alc (okA e54_ok c10 c11 (by decide)) (alc (bF (dF c12)) (alc ⟨rfl, by decide⟩ (alc ⟨c10, c11⟩ (alc (ldC0 e54_ok 2 (by decide) rfl c10 c11) (alc (okA e54_ok c10 c11 (by decide)) aln)))))))))) nocal ?_
            by_cases c13 : x3 > (at_ x2.f1 x4.1).f2
            · rw [if_pos c13] at h
              refine .cond' (.tmp 77) true [c_ 256308, c_ 256309, c_ 32039, b_ 1, c_ 2003, l_ 250, b_ 0, c_ 63] (bT (dT c13)) ?_
              refine .reg' [2] [] ⟨[(2, (B false))], [(1001025, (x2.f1.flatMap e54)), (1026, [(S x2.f0), (.rf 1001025 0 x2.f1.length 3 (x2.f1.length * 3))])], [], []⟩ [c_ 256309, c_ 32039, b_ 1, c_ 2003, l_ 250, b_ 0, c_ 63] aln nocal ?_
              have h := Option.some.inj h
              subst h
              exact .fin0 [] (B false) [] aln (.z .s)
            · rw [if_neg c13] at h
              refine .cond' (.tmp 77) false [c_ 64078, c_ 64079, b_ 1, c_ 2003, l_ 250, b_ 0, c_ 63] (bF (dF c13)) ?_
              by_cases c14 : x4.2 = 1
              · rw [if_pos c14] at h
                by_cases c15 : x4.1 = (wrap64 ((x2.f1.length : Int) - 1))
                · rw [if_pos c15] at h
                  refine .reg' [3, 4, 5, 105] [.no, .no, .v (B true), .no, .no, .no, .v (B true)] ⟨[(3, (.pt 1026 0 2)), (4, (I (wrap64 ((x2.f1.length : Int) - 1)))), (5, (I x3)), (105, (B true))], [(1001025, (x2.f1.flatMap e54)), (1026, [(S x2.f0), (.rf 1001025 0 x2.f1.length 3 (x2.f1.length * 3))])], [(B (x4.2 == 1) : V) = B true, (B (x4.1 == (wrap64 ((x2.f1.length : Int) - 1))) : V) = B true], []⟩ [c_ 64079, b_ 1, c_ 2003, l_ 250, b_ 0, c_ 63] (alc (bT (qT c14)) (alc (bT (qT c15)) aln)) nocal ?_
                  refine .cond' (.tmp 105) true [c_ 256316, c_ 256317, b_ 1, c_ 2003, l_ 250, b_ 0, c_ 63] (rfl) ?_
                  refine .reg' [2] [] ⟨[(2, (B false))], [(1001025, (x2.f1.flatMap e54)), (1026, [(S x2.f0), (.rf 1001025 0 x2.f1.length 3 (x2.f1.length * 3))])], [], []⟩ [c_ 256317, b_ 1, c_ 2003, l_ 250, b_ 0, c_ 63] aln nocal ?_
                  have h := Option.some.inj h
                  subst h
                  exact .fin0 [] (B false) [] aln (.z .s)
                · rw [if_neg c15] at h
                  by_cases c16 : x3 ≤ (at_ x2.f1 x4.1).f2
                  · rw [if_pos c16] at h
                    refine .reg' [3, 4, 5, 105] [.no, .no, .v (B true), .no, .no, .no, .v (B false), .no, .no, .no, .no, .no, .no, .v (I (at_ x2.f1 x4.1).f2), .no, .no, .v (B true)] ⟨[(3, (.pt 1026 0 2)), (4, (I (wrap64 ((x2.f1.length : Int) - 1)))), (5, (I x3)), (105, (B true))], [(1001025, (x2.f1.flatMap e54)), (1026, [(S x2.f0), (.rf 1001025 0 x2.f1.length 3 (x2.f1.length * 3))])], [(B (x4.2 == 1) : V) = B true, (B (x4.1 == (wrap64 ((x2.f1.length : Int) - 1))) : V) = B false, 2 = 2 ∧ 1 + 1 ≤ 2, (0 : Int) ≤ x4.1 ∧ x4.1 < (x2.f1.length : Int), rdC prog 3 ((x2.f1.flatMap e54).drop (0 + x4.1.toNat * 3 + 2)) = (I (at_ x2.f1 x4.1).f2), x2.f1.length * 3 = (x2.f1.flatMap e54).length ∧ 0 + x4.1.toNat * 3 + 2 + 1 ≤ (x2.f1.flatMap e54).length, (B (decide (x3 ≤ (at_ x2.f1 x4.1).f2)) : V) = B true], []⟩ [c_ 64079, b_ 1, c_ 2003, l_ 250, b_ 0, c_ 63] (alc (bT (qT c14)) (alc (bF (qF c15)) (alc ⟨rfl, by decide⟩ (alc ⟨c10, c11⟩ (alc (ldC0 e54_ok 2 (by decide) rfl c10 c11) (alc (okA e54_ok c10 c11 (by decide)) (alc (bT (dT c16)) aln))))))) nocal ?_
                    refine .cond' (.tmp 105) true [c_ 256316, c_ 256317, b_ 1, c_ 2003, l_ 250, b_ 0, c_ 63] (rfl) ?_
                    refine .reg' [2] [] ⟨[(2, (B false))], [(1001025, (x2.f1.flatMap e54)), (1026, [(S x2.f0), (.rf 1001025 0 x2.f1.length 3 (x2.f1.length * 3))])], [], []⟩ [c_ 256317, b_ 1, c_ 2003, l_ 250, b_ 0, c_ 63] aln nocal ?_
                    have h := Option.some.inj h
                    subst h
                    exact .fin0 [] (B false) [] aln (.z .s)
                  · rw [if_neg c16] at h
                    by_cases c17 : 0 ≤ (wrap64 (x4.1 + 1))
                    · rw [if_pos c17] at h
                      by_cases c18 : (wrap64 (x4.1 + 1)) < (x2.f1.length : Int)
                      · rw [if_pos c18] at h
                        refine .reg' [3, 4, 5, 105] [.no, .no, .v (B true), .no, .no, .no, .v (B false), .no, .no, .no, .no, .no, .no, .v (I (at_ x2.f1 x4.1).f2), .no, .no, .v (B false), .no, .no, .no, .no, .no, .no, .no, .v (I (at_ x2.f1 (wrap64 (x4.1 + 1))).f1)] ⟨[(3, (.pt 1026 0 2)), (4, (I (wrap64 ((x2.f1.length : Int) - 1)))), (5, (I x3)), (105, (B (decide (x3 ≥ (at_ x2.f1 (wrap64 (x4.1 + 1))).f1))))], [(1001025, (x2.f1.flatMap e54)), (1026, [(S x2.f0), (.rf 1001025 0 x2.f1.length 3 (x2.f1.length * 3))])], [(B (x4.2 == 1) : V) = B true, (B (x4.1 == (wrap64 ((x2.f1.length : Int) - 1))) : V) = B false, 2 = 2 ∧ 1 + 1 ≤ 2, (0 : Int) ≤ x4.1 ∧ x4.1 < (x2.f1.length : Int), rdC prog 3 ((x2.f1.flatMap e54).drop (0 + x4.1.toNat * 3 + 2)) = (I (at_ x2.f1 x4.1).f2), x2.f1.length * 3 = (x2.f1.flatMap e54).length ∧ 0 + x4.1.toNat * 3 + 2 + 1 ≤ (x2.f1.flatMap e54).length, (B (decide (x3 ≤ (at_ x2.f1 x4.1).f2)) : V) = B false, 2 = 2 ∧ 1 + 1 ≤ 2, (0 : Int) ≤ (wrap64 (x4.1 + 1)) ∧ (wrap64 (x4.1 + 1)) < (x2.f1.length : Int), rdC prog 3 ((x2.f1.flatMap e54).drop (0 + (wrap64 (x4.1 + 1)).toNat * 3 + 1)) = (I (at_ x2.f1 (wrap64 (x4.1 + 1))).f1), x2.f1.length * 3 = (x2.f1.flatMap e54).length ∧ 0 + (wrap64 (x4.1 + 1)).toNat * 3 + 1 + 1 ≤ (x2.f1.flatMap e54).length], []⟩ [c_ 64079, b_ 1, c_ 2003, l_ 250, b_ 0, c_ 63] (alc (bT (qT c14)) (alc (bF (qF c15)) (alc ⟨rfl, by decide⟩ (alc ⟨c10, c11⟩ (alc (ldC0 e54_ok 2 (by decide) rfl c10 c11) (alc (okA e54_ok c10 c11 (by decide)) (alc (bF (dF c16)) (alc ⟨rfl, by decide⟩ (alc ⟨c17, c18⟩ (alc (ldC0 e54_ok 1 (by decide) rfl c17 c18) (alc (okA e54_ok c17 c18 (by decide)) aln))))))))))) nocal ?_
                        by_cases c19 : x3 ≥ (at_ x2.f1 (wrap64 (x4.1 + 1))).f1
                        · rw [if_pos c19] at h
                          refine .cond' (.tmp 105) true [c_ 256316, c_ 256317, b_ 1, c_ 2003, l_ 250, b_ 0, c_ 63] (bT (dT c19)) ?_
                          refine .reg' [2] [] ⟨[(2, (B false))], [(1001025, (x2.f1.flatMap e54)), (1026, [(S x2.f0), (.rf 1001025 0 x2.f1.length 3 (x2.f1.length * 3))])], [], []⟩ [c_ 256317, b_ 1, c_ 2003, l_ 250, b_ 0, c_ 63] aln nocal ?_
                          have h := Option.some.inj h
                          subst h
                          exact .fin0 [] (B false) [] aln (.z .s)
                        · rw [if_neg c19] at h
                          refine .cond' (.tmp 105) false [c_ 2003, l_ 250, b_ 0, c_ 63] (bF (dF c19)) ?_
                          refine .reg' [3, 4, 5] [] ⟨[(3, (.pt 1026 0 2)), (4, (I (wrap64 ((x2.f1.length : Int) - 1)))), (5, (I (wrap64 (x3 + 1))))], [(1001025, (x2.f1.flatMap e54)), (1026, [(S x2.f0), (.rf 1001025 0 x2.f1.length 3 (x2.f1.length * 3))])], [], []⟩ [l_ 250, b_ 0, c_ 63] aln nocal ?_
                          exact ih0 x2 (wrap64 (x3 + 1)) _ h
                      · rw [if_neg c18] at h
                        cases h
                    · rw [if_neg c17] at h
                      cases h
              · rw [if_neg c14] at h
                refine .reg' [3, 4, 5, 105] [.no, .no, .v (B false)] ⟨[(3, (.pt 1026 0 2)), (4, (I (wrap64 ((x2.f1.length : Int) - 1)))), (5, (I x3)), (105, (B false))], [(1001025, (x2.f1.flatMap e54)), (1026, [(S x2.f0), (.rf 1001025 0 x2.f1.length 3 (x2.f1.length * 3))])], [(B (x4.2 == 1) : V) = B false], []⟩ [c_ 64079, b_ 1, c_ 2003, l_ 250, b_ 0, c_ 63] (alc (bF (qF c14)) aln) nocal ?_
                refine .cond' (.tmp 105) false [c_ 2003, l_ 250, b_ 0, c_ 63] (rfl) ?_
                refine .reg' [3, 4, 5] [] ⟨[(3, (.pt 1026 0 2)), (4, (I (wrap64 ((x2.f1.length : Int) - 1)))), (5, (I (wrap64 (x3 + 1))))], [(1001025, (x2.f1.flatMap e54)), (1026, [(S x2.f0), (.rf 1001025 0 x2.f1.length 3 (x2.f1.length * 3))])], [], []⟩ [l_ 250, b_ 0, c_ 63] aln nocal ?_
                exact ih0 x2 (wrap64 (x3 + 1)) _ h
        · rw [if_neg c11] at h
          cases h
      · rw [if_neg c10] at h
        cases h
    · rw [if_neg c9] at h
      refine .reg' [3, 4, 5, 6, 7, 77] [.no, .no, .v (B false)] ⟨[(3, (.pt 1026 0 2)), (4, (I (wrap64 ((x2.f1.length : Int) - 1)))), (5, (I x3)), (6, (I x4.1)), (7, (I x4.2)), (77, (B false))], [(1001025, (x2.f1.flatMap e54)), (1026, [(S x2.f0), (.rf 1001025 0 x2.f1.length 3 (x2.f1.length * 3))])], [(B (x4.2 == 0) : V) = B false], []⟩ [c_ 64077, c_ 32039, b_ 1, c_ 2003, l_ 250, b_ 0, c_ 63] (alc (bF (qF c9)) aln) nocal ?_
      refine .cond' (.tmp 77) false [c_ 64078, c_ 64079, b_ 1, c_ 2003, l_ 250, b_ 0, c_ 63] (rfl) ?_
      by_cases c20 : x4.2 = 1
      · rw [if_pos c20] at h
        by_cases c21 : x4.1 = (wrap64 ((x2.f1.length : Int) - 1))
        · rw [if_pos c21] at h
          refine .reg' [3, 4, 5, 105] [.no, .no, .v (B true), .no, .no, .no, .v (B true)] ⟨[(3, (.pt 1026 0 2)), (4, (I (wrap64 ((x2.f1.length : Int) - 1)))), (5, (I x3)), (105, (B true))], [(1001025, (x2.f1.flatMap e54)), (1026, [(S x2.f0), (.rf 1001025 0 x2.f1.length 3 (x2.f1.length * 3))])], [(B (x4.2 == 1) : V) = B true, (B (x4.1 == (wrap64 ((x2.f1.length : Int) - 1))) : V) = B true], []⟩ [c_ 64079, b_ 1, c_ 2003, l_ 250, b_ 0, c_ 63] (alc (bT (qT c20)) (alc (bT (qT c21)) aln)) nocal ?_
          refine .cond' (.tmp 105) true [c_ 256316, c_ 256317, b_ 1, c_ 2003, l_ 250, b_ 0, c_ 63] (rfl) ?_
          refine .reg' [2] [] ⟨[(2, (B false))], [(1001025, (x2.f1.flatMap e54)), (1026, [(S x2.f0), (.rf 1001025 0 x2.f1.length 3 (x2.f1.length * 3))])], [], []⟩ [c_ 256317, b_ 1, c_ 2003, l_ 250, b_ 0, c_ 63] aln nocal ?_
          have h := Option.some.inj h
          subst h
          exact .fin0 [] (B false) [] aln (.z .s)
        · rw [if_neg c21] at h
          by_cases c22 : 0 ≤ x4.1
          · rw [if_pos c22] at h
            by_cases c23 : x4.1 < (x2.f1.length : Int)
            · rw [if_pos c23] at h
              by_cases c24 : x3 ≤ (at_ x2.f1 x4.1).f2
              · rw [if_pos c24] at h
                refine .reg' [3, 4, 5, 105] [.no, .no, .v (B true), .no, .no, .no, .v (B false), .no, .no, .no, .no, .no, .no, .v (I (at_ x2.f1 x4.1).f2), .no, .no, .v (B true)] ⟨[(3, (.pt 1026 0 2)), (4, (I (wrap64 ((x2.f1.length : Int) - 1)))), (5, (I x3)), (105, (B true))], [(1001025, (x2.f1.flatMap e54)), (1026, [(S x2.f0), (.rf 1001025 0 x2.f1.length 3 (x2.f1.length * 3))])], [(B (x4.2 == 1) : V) = B true, (B (x4.1 == (wrap64 ((x2.f1.length : Int) - 1))) : V) = B false, 2 = 2 ∧ 1 + 1 ≤ 2, (0 : Int) ≤ x4.1 ∧ x4.1 < (x2.f1.length : Int), rdC prog 3 ((x2.f1.flatMap e54).drop (0 + x4.1.toNat * 3 + 2)) = (I (at_ x2.f1 x4.1).f2), x2.f1.length * 3 = (x2.f1.flatMap e54).length ∧ 0 + x4.1.toNat * 3 + 2 + 1 ≤ (x2.f1.flatMap e54).length, (B (decide (x3 ≤ (at_ x2.f1 x4.1).f2)) : V) = B true], []⟩ [c_ 64079, b_ 1, c_ 2003, l_ 250, b_ 0, c_ 63] (alc (bT (qT c20)) (alc (bF (qF c21)) (alc ⟨rfl, by decide⟩ (alc ⟨c22, c23⟩ (alc (ldC0 e54_ok 2 (by decide) rfl c22 c23) (alc (okA e54_ok c22 c23 (by decide)) (alc (bT (dT c24)) aln))))))) nocal ?_
                refine .cond' (.tmp 105) true [c_ 256316, c_ 256317, b_ 1, c_ 2003, l_ 250, b_ 0, c_ 63] (rfl) ?_
                refine .reg' [2] [] ⟨[(2, (B false))], [(1001025, (x2.f1.flatMap e54)), (1026, [(S x2.f0), (.rf 1001025 0 x2.f1.length 3 (x2.f1.length * 3))])], [], []⟩ [c_ 256317, b_ 1, c_ 2003, l_ 250, b_ 0, c_ 63] aln nocal ?_
                have h := Option.some.inj h
                subst h
                exact .fin0 [] (B false) [] aln (.z .s)
              · rw [if_neg c24] at h
                by_cases c25 : 0 ≤ (wrap64 (x4.1 + 1))
                · rw [if_pos c25] at h
                  by_cases c26 : (wrap64 (x4.1 + 1)) < (x2.f1.length : Int)
                  · rw [if_pos c26] at h
                    refine .reg' [3, 4, 5, 105] [.no, .no, .v (B true), .no, .no, .no, .v (B false), .no, .no, .no, .no, .no, .no, .v (I (at_ x2.f1 x4.1).f2), .no, .no, .v (B false), .no, .no, .no, .no, .no, .no, .no, .v (I (at_ x2.f1 (wrap64 (x4.1 + 1))).f1)] ⟨[(3, (.pt 1026 0 2)), (4, (I (wrap64 ((x2.f1.length : Int) - 1)))), (5, (I x3)), (105, (B (decide (x3 ≥ (at_ x2.f1 (wrap64 (x4.1 + 1))).f1))))], [(1001025, (x2.f1.flatMap e54)), (1026, [(S x2.f0), (.rf 1001025 0 x2.f1.length 3 (x2.f1.length * 3))])], [(B (x4.2 == 1) : V) = B true, (B (x4.1 == (wrap64 ((x2.f1.length : Int) - 1))) : V) = B false, 2 = 2 ∧ 1 + 1 ≤ 2, (0 : Int) ≤ x4.1 ∧ x4.1 < (x2.f1.length : Int), rdC prog 3 ((x2.f1.flatMap e54).drop (0 + x4.1.toNat * 3 + 2)) = (I (at_ x2.f1 x4.1).f2), x2.f1.length * 3 = (x2.f1.flatMap e54).length ∧ 0 + x4.1.toNat * 3 + 2 + 1 ≤ (x2.f1.flatMap e54).length, (B (decide (x3 ≤ (at_ x2.f1 x4.1).f2)) : V) = B false, 2 = 2 ∧ 1 + 1 ≤ 2, (0 : Int) ≤ (wrap64 (x4.1 + 1)) ∧ (wrap64 (x4.1 + 1)) < (x2.f1.length : Int), rdC prog 3 ((x2.f1.flatMap e54).drop (0 + (wrap64 (x4.1 + 1)).toNat * 3 + 1)) = (I (at_ x2.f1 (wrap64 (x4.1 + 1))).f1), x2.f1.length * 3 = (x2.f1.flatMap e54).length ∧ 0 + (wrap64 (x4.1 + 1)).toNat * 3 + 1 + 1 ≤ (x2.f1.flatMap e54).length], []⟩ [c_ 64079, b_ 1, c_ 2003, l_ 250, b_ 0, c_ 63] (alc (bT (qT c20)) (alc (bF (qF c21)) (alc ⟨rfl, by decide⟩ (alc ⟨c22, c23⟩ (alc (ldC0 e54_ok 2 (by decide) rfl c22 c23) (alc (okA e54_ok c22 c23 (by decide)) (alc (bF (dF c24)) (alc ⟨rfl, by decide⟩ (alc ⟨c25, c26⟩ (alc (ldC0 e54_ok 1 (by decide) rfl c25 c26) (alc (okA e54_ok c25 c26 (by decide)) aln))))))))))) nocal ?_
                    by_cases c27 : x3 ≥ (at_ x2.f1 (wrap64 (x4.1 + 1))).f1
                    · rw [if_pos c27] at h
                      refine .cond' (.tmp 105) true [c_ 256316, c_ 256317, b_ 1, c_ 2003, l_ 250, b_ 0, c_ 63] (bT (dT c27)) ?_
                      refine .reg' [2] [] ⟨[(2, (B false))], [(1001025, (x2.f1.flatMap e54)), (1026, [(S x2.f0), (.rf 1001025 0 x2.f1.length 3 (x2.f1.length * 3))])], [], []⟩ [c_ 256317, b_ 1, c_ 2003, l_ 250, b_ 0, c_ 63] aln nocal ?_
                      have h := Option.some.inj h
                      subst h
                      exact .fin0 [] (B false) [] aln (.z .s)
                    · rw [if_neg c27] at h
                      refine .cond' (.tmp 105) false [c_ 2003, l_ 250, b_ 0, c_ 63] (bF (dF c27)) ?_
                      refine .reg' [3, 4, 5] [] ⟨[(3, (.pt 1026 0 2)), (4, (I (wrap64 ((x2.f1.length : Int) - 1)))), (5, (I (wrap64 (x3 + 1))))], [(1001025, (x2.f1.flatMap e54)), (1026, [(S x2.f0), (.rf 1001025 0 x2.f1.length 3 (x2.f1.length * 3))])], [], []⟩ [l_ 250, b_ 0, c_ 63] aln nocal ?_
                      exact ih0 x2 (wrap64 (x3 + 1)) _ h
                  · rw [if_neg c26] at h
                    cases h
                · rw [if_neg c25] at h
                  cases h
            · rw [if_neg c23] at h
              cases h
          · rw [if_neg c22] at h
            cases h
      · rw [if_neg c20] at h
        refine .reg' [3, 4, 5, 105] [.no, .no, .v (B false)] ⟨[(3, (.pt 1026 0 2)), (4, (I (wrap64 ((x2.f1.length : Int) - 1)))), (5, (I x3)), (105, (B false))], [(1001025, (x2.f1.flatMap e54)), (1026, [(S x2.f0), (.rf 1001025 0 x2.f1.length 3 (x2.f1.length * 3))])], [(B (x4.2 == 1) : V) = B false], []⟩ [c_ 64079, b_ 1, c_ 2003, l_ 250, b_ 0, c_ 63] (alc (bF (qF c20)) aln) nocal ?_
        refine .cond' (.tmp 105) false [c_ 2003, l_ 250, b_ 0, c_ 63] (rfl) ?_
        refine .reg' [3, 4, 5] [] ⟨[(3, (.pt 1026 0 2)), (4, (I (wrap64 ((x2.f1.length : Int) - 1)))), (5, (I (wrap64 (x3 + 1))))], [(1001025, (x2.f1.flatMap e54)), (1026, [(S x2.f0), (.rf 1001025 0 x2.f1.length 3 (x2.f1.length * 3))])], [], []⟩ [l_ 250, b_ 0, c_ 63] aln nocal ?_
        exact ih0 x2 (wrap64 (x3 + 1)) _ h
theorem laws_FnWhere.J (k : Nat) (a0 : (List Int)) (r : Bool) (h : laws_FnWhere.f k a0 = some r) : J prog (.call 9 [(.sl false a0.length 1 (a0.flatMap encU))] [] (B r) []) := by
  unfold laws_FnWhere.f at h
  obtain ⟨ih0, ih1⟩ := laws_FnWhere.lab k
  refine .call' [c_ 2, c_ 3] ?_
  refine .reg' [0] [] ⟨[(0, (.sl false a0.length 1 (a0.flatMap encU)))], [], [], []⟩ [c_ 12, c_ 13, c_ 7] aln nocal ?_
  obtain ⟨x1, hx1, h⟩ := Option.bind_eq_some_iff.mp h
  refine .reg' [0, 13] [.no, .c ⟨35, [(.sl true a0.length 1 (a0.flatMap encU))], [], (B x1), [], [], [], [], (B x1), []⟩] ⟨[(0, (.sl false a0.length 1 (a0.flatMap encU))), (13, (B x1))], [], [COK (hget []) [(.sl false a0.length 1 (a0.flatMap encU))] ⟨35, [(.sl true a0.length 1 (a0.flatMap encU))], [], (B x1), [], [], [], [], (B x1), []⟩], [⟨35, [(.sl true a0.length 1 (a0.flatMap encU))], [], (B x1), [], [], [], [], (B x1), []⟩]⟩ [c_ 13, c_ 7] (alc (cok0 false (a2c (.z (frz_sl encU_ok (fun h => absurd h (by decide)))) a2n) (.z .s) (fun h => absurd h (by decide))) aln) (acal (laws_big.J a0 _ hx1) nocal) ?_
  by_cases c1 : x1 = true
  · rw [if_pos c1] at h
    refine .cond' (.tmp 13) true [c_ 52, c_ 53, c_ 7] (bT c1) ?_
    refine .reg' [2] [] ⟨[(2, (B true))], [], [], []⟩ [c_ 53, c_ 7] aln nocal ?_
    have h := Option.some.inj h
    subst h
    exact .fin0 [] (B true) [] aln (.z .s)
  · rw [if_neg c1] at h
    refine .cond' (.tmp 13) false [c_ 14, c_ 15] (bF (vF c1)) ?_
    obtain ⟨x2, hx2, h⟩ := Option.bind_eq_some_iff.mp h
    refine .reg' [3] [.no, .c ⟨36, [(.sl false a0.length 1 (a0.flatMap encU))], [], (.ag [(S x2.f0), (.rf 1000770 0 x2.f1.length 3 (x2.f1.length * 3))]), [(1000770, (x2.f1.flatMap e54))], [], [], [(1001025, 1000770)], (.ag [(S x2.f0), (.rf 1001025 0 x2.f1.length 3 (x2.f1.length * 3))]), [(1001025, (x2.f1.flatMap e54))]⟩] ⟨[(3, (.pt 1026 0 2))], [(1001025, (x2.f1.flatMap e54)), (1026, [(S x2.f0), (.rf 1001025 0 x2.f1.length 3 (x2.f1.length * 3))])], [COK (hget []) [(.sl false a0.length 1 (a0.flatMap encU))] ⟨36, [(.sl false a0.length 1 (a0.flatMap encU))], [], (.ag [(S x2.f0), (.rf 1000770 0 x2.f1.length 3 (x2.f1.length * 3))]), [(1000770, (x2.f1.flatMap e54))], [], [], [(1001025, 1000770)], (.ag [(S x2.f0), (.rf 1001025 0 x2.f1.length 3 (x2.f1.length * 3))]), [(1001025, (x2.f1.flatMap e54))]⟩, 2 = 2 ∧ 0 + 2 ≤ 2], [⟨36, [(.sl false a0.length 1 (a0.flatMap encU))], [], (.ag [(S x2.f0), (.rf 1000770 0 x2.f1.length 3 (x2.f1.length * 3))]), [(1000770, (x2.f1.flatMap e54))], [], [], [(1001025, 1000770)], (.ag [(S x2.f0), (.rf 1001025 0 x2.f1.length 3 (x2.f1.length * 3))]), [(1001025, (x2.f1.flatMap e54))]⟩]⟩ [c_ 30, c_ 31] (alc (cokW false (a2c (.z (frz_sl encU_ok (fun h => h))) a2n) akn (akc (.inr rfl) akn) (bck_ag (a2c (.z .s) (a2c (.rf (memP_mem (p := (1001025, 1000770)) rfl)) a2n))) (akc ⟨_, _, rfl, rfl, rowB e54_c _⟩ akn) (fun h => absurd h (by decide))) (alc ⟨rfl, by decide⟩ aln)) (acal (spec_DrawRightTrip.J k a0 _ hx2) nocal) ?_
    refine .reg' [3, 4] [] ⟨[(3, (.pt 1026 0 2)), (4, (I (wrap64 ((x2.f1.length : Int) - 1))))], [(1001025, (x2.f1.flatMap e54)), (1026, [(S x2.f0), (.rf 1001025 0 x2.f1.length 3 (x2.f1.length * 3))])], [2 = 2 ∧ 1 + 1 ≤ 2], []⟩ [c_ 124, c_ 125, c_ 63] (alc ⟨rfl, by decide⟩ aln) nocal ?_
    by_cases c2 : 0 < (x2.f1.length : Int)
    · rw [if_pos c2] at h
      refine .reg' [3, 4, 5] [.no, .no, .no, .no, .v (I (at_ x2.f1 0).f1)] ⟨[(3, (.pt 1026 0 2)), (4, (I (wrap64 ((x2.f1.length : Int) - 1)))), (5, (I (at_ x2.f1 0).f1))], [(1001025, (x2.f1.flatMap e54)), (1026, [(S x2.f0), (.rf 1001025 0 x2.f1.length 3 (x2.f1.length * 3))])], [2 = 2 ∧ 1 + 1 ≤ 2, (0 : Int) ≤ 0 ∧ 0 < (x2.f1.length : Int), rdC prog 3 ((x2.f1.flatMap e54).drop (0 + (0 : Int).toNat * 3 + 1)) = (I (at_ x2.f1 0).f1), x2.f1.length * 3 = (x2.f1.flatMap e54).length ∧ 0 + (0 : Int).toNat * 3 + 1 + 1 ≤ (x2.f1.flatMap e54).length], []⟩ [l_ 250, b_ 0, c_ 63] (alc ⟨rfl, by decide⟩ (alc ⟨(by decide), c2⟩ (alc (ldC0 e54_ok 1 (by decide) rfl (by decide) c2) (alc (okA e54_ok (by decide) c2 (by decide)) aln)))) nocal ?_
      exact ih0 x2 ((at_ x2.f1 0).f1) _ h
    · rw [if_neg c2] at h
      cases h
end Go.Proofs.Ytoeedickghjdbaa.Fns
