/- The functions that the law FnExactReadTrip reaches, by the engine. Printed by a program of this seat. -/
import Derived.Test.YtjlickinmkafbaaDoorE5
import Derived.Test.YtjlickinmkafbaaDoorProg
import Derived.Test.YtjlickinmkafbaaDoorFFnExactReadTripx2
namespace Go.Proofs.YtjlickinmkafbaaDoor.Fns
open Go.Proofs.Tryd Go.Proofs.YtjlickinmkafbaaDoor.Eng Go.RowKit
set_option maxRecDepth 100000
set_option linter.unusedVariables false
set_option linter.unusedSimpArgs false
theorem laws_markTrip.J (k : Nat) (a0 : S28) (a1 : Int) (r : (Int × (List S48))) (h : laws_markTrip.f k a0 a1 = some r) : J prog (.call 16 [(.ag [(S a0.f0), (.rf 1 0 a0.f1.length 3 (a0.f1.length * 3))]), (I a1)] [(1, (a0.f1.flatMap e48))] (I r.1) [(1, (r.2.flatMap e48))]) := by
  unfold laws_markTrip.f at h
  refine .call' [c_ 2, c_ 3] ?_
  refine .reg' [1, 2] [] ⟨[(1, (I a1)), (2, (.pt 256 0 2))], [(1, (a0.f1.flatMap e48)), (256, [(S a0.f0), (.rf 1 0 a0.f1.length 3 (a0.f1.length * 3))])], [], []⟩ [c_ 6, c_ 7] aln nocal ?_
  obtain ⟨x1, hx1, h⟩ := Option.bind_eq_some_iff.mp h
  refine .reg' [1] [.no, .no, .no, .c ⟨42, [(.rf 0 0 a0.f1.length 3 (a0.f1.length * 3)), (I a1)], [(0, (a0.f1.flatMap e48))], (I x1.1), [(0, (x1.2.flatMap e48))], [], [(1, 0)], [(1, 0)], (I x1.1), [(1, (x1.2.flatMap e48))]⟩] ⟨[(1, (I x1.1))], [(1, (x1.2.flatMap e48)), (256, [(S a0.f0), (.rf 1 0 a0.f1.length 3 (a0.f1.length * 3))])], [2 = 2 ∧ 1 + 1 ≤ 2, COK (hget [(1, (a0.f1.flatMap e48)), (256, [(S a0.f0), (.rf 1 0 a0.f1.length 3 (a0.f1.length * 3))])]) [(.rf 1 0 a0.f1.length 3 (a0.f1.length * 3)), (I a1)] ⟨42, [(.rf 0 0 a0.f1.length 3 (a0.f1.length * 3)), (I a1)], [(0, (a0.f1.flatMap e48))], (I x1.1), [(0, (x1.2.flatMap e48))], [], [(1, 0)], [(1, 0)], (I x1.1), [(1, (x1.2.flatMap e48))]⟩], [⟨42, [(.rf 0 0 a0.f1.length 3 (a0.f1.length * 3)), (I a1)], [(0, (a0.f1.flatMap e48))], (I x1.1), [(0, (x1.2.flatMap e48))], [], [(1, 0)], [(1, 0)], (I x1.1), [(1, (x1.2.flatMap e48))]⟩]⟩ [c_ 14, c_ 15] (alc ⟨rfl, by decide⟩ (alc (cokW false (a2c (.rf (memP_mem (p := (1, 0)) rfl)) (a2c (.z .s) a2n)) (akc ⟨_, _, rfl, rfl, (rowF e48_ok _)⟩ akn) (akc (.inl rfl) akn) (.z .s) (akc ⟨_, _, rfl, rfl, rowB e48_c _⟩ akn) (fun h => absurd h (by decide))) aln)) (acal (laws_markCallS.J k a0.f1 a1 _ hx1) nocal) ?_
  refine .eqs (env2 := [(1, (I x1.1))]) (H2 := [(1, (x1.2.flatMap e48)), (256, [(S a0.f0), (.rf 1 0 x1.2.length 3 (x1.2.length * 3))])]) (by first | (simp only [List.length_set, (laws_markCallS.len k a0.f1 a1 _ hx1)]; done) | simp) (by first | rfl | (simp only [List.length_set, (laws_markCallS.len k a0.f1 a1 _ hx1)]; done) | simp) ?_
  refine .reg' [4] [] ⟨[(4, (I x1.1))], [(1, (x1.2.flatMap e48)), (256, [(S a0.f0), (.rf 1 0 x1.2.length 3 (x1.2.length * 3))])], [], []⟩ [c_ 15] aln nocal ?_
  have h := Option.some.inj h
  subst h
  exact .fin' [] [(1, 1)] (I x1.1) [] aln (shc 1 (rowF e48_ok _) shn) (.z .s)
theorem laws_markTrip.len (k : Nat) (a0 : S28) (a1 : Int) (r : (Int × (List S48))) (h : laws_markTrip.f k a0 a1 = some r) : r.2.length = a0.f1.length := by
  unfold laws_markTrip.f at h
  obtain ⟨x1, hx1, h⟩ := Option.bind_eq_some_iff.mp h
  have lhx1 := laws_markCallS.len k a0.f1 a1 _ hx1
  have h := Option.some.inj h
  subst h
  first | rfl | (simp only [List.length_set, lhx1]; done) | exact ⟨by first | rfl | simp only [List.length_set, lhx1]⟩
/-! laws_heldCallS: function 44 -/
def laws_heldCallS.l0 : Nat → (List S48) → Int → Int → Option Int
 | 0, _, _, _ => none
 | k + 1, a0, x1, x2 => (if x2 < (a0.length : Int) then (if 0 ≤ x2 then (if (at_ a0 x2).f0 = x1 then (if (at_ a0 x2).f1 = (wrap64 (x1 + 1)) then (if (at_ a0 x2).f2 = (wrap64 ((wrap64 (x1 + 1)) + 1)) then (laws_heldCallS.l0 k a0 (wrap64 ((wrap64 ((wrap64 (x1 + 1)) + 1)) + 1)) (wrap64 (x2 + 1))) else (some (-1))) else (some (-1))) else (some (-1))) else none) else (some x1))
def laws_heldCallS.f (k : Nat) (a0 : (List S48)) (a1 : Int) : Option Int := (laws_heldCallS.l0 k a0 a1 0)
theorem laws_heldCallS.lab : ∀ k, (∀ (a0 : (List S48)) (x1 : Int) (x2 : Int) (r : Int), laws_heldCallS.l0 k a0 x1 x2 = some r → J prog (.run 44 [] [l_ 26, b_ 0, c_ 7] [(0, (.sl true a0.length 3 (a0.flatMap e48))), (1, (I x1)), (5, (I x2))] [] (I r) []))
 | 0 => (by intro a0 x1 x2 r h; unfold laws_heldCallS.l0 at h; cases h)
 | k + 1 => by
  have ih0 := laws_heldCallS.lab k
  · intro a0 x1 x2 r h
    unfold laws_heldCallS.l0 at h
    refine .loop' [c_ 208, c_ 209, c_ 105, l_ 26, b_ 0, c_ 7] ?_
    refine .reg' [0, 1, 5, 9] [] ⟨[(0, (.sl true a0.length 3 (a0.flatMap e48))), (1, (I x1)), (5, (I x2)), (9, (B (decide (x2 < (a0.length : Int)))))], [], [], []⟩ [c_ 209, c_ 105, l_ 26, b_ 0, c_ 7] aln nocal ?_
    by_cases c1 : x2 < (a0.length : Int)
    · rw [if_pos c1] at h
      refine .cond' (.tmp 9) true [c_ 1680, c_ 1681, c_ 841, b_ 1, c_ 211, l_ 26, b_ 0, c_ 7] (bT (dT c1)) ?_
      by_cases c2 : 0 ≤ x2
      · rw [if_pos c2] at h
        refine .reg' [0, 1, 5, 18] [.no, .no, .no, .no, .v (I (at_ a0 x2).f0)] ⟨[(0, (.sl true a0.length 3 (a0.flatMap e48))), (1, (I x1)), (5, (I x2)), (18, (B (!((at_ a0 x2).f0 == x1))))], [], [(0 : Int) ≤ x2 ∧ x2 < (a0.length : Int), rdC prog 3 (((a0.flatMap e48).drop (x2.toNat * 3)).drop 0) = (I (at_ a0 x2).f0), 1 ≤ (((a0.flatMap e48).drop (x2.toNat * 3)).drop 0).length], []⟩ [c_ 1681, c_ 841, b_ 1, c_ 211, l_ 26, b_ 0, c_ 7] (alc ⟨c2, c1⟩ (alc (ldC e48_ok 0 (by decide) rfl c2 c1) (alc (okIj e48_ok c2 c1 (by decide)) aln))) nocal ?_
        by_cases c3 : (at_ a0 x2).f0 = x1
        · rw [if_pos c3] at h
          refine .cond' (.tmp 18) false [c_ 1682, c_ 1683, b_ 1, c_ 211, l_ 26, b_ 0, c_ 7] (bF (nF (qT c3))) ?_
          refine .reg' [0, 1, 5] [] ⟨[(0, (.sl true a0.length 3 (a0.flatMap e48))), (1, (I (wrap64 (x1 + 1)))), (5, (I x2))], [], [], []⟩ [c_ 6732, c_ 6733, c_ 3367, b_ 1, c_ 211, l_ 26, b_ 0, c_ 7] aln nocal ?_
          refine .reg' [0, 1, 5, 27] [.no, .no, .no, .no, .v (I (at_ a0 x2).f1)] ⟨[(0, (.sl true a0.length 3 (a0.flatMap e48))), (1, (I (wrap64 (x1 + 1)))), (5, (I x2)), (27, (B (!((at_ a0 x2).f1 == (wrap64 (x1 + 1))))))], [], [(0 : Int) ≤ x2 ∧ x2 < (a0.length : Int), rdC prog 3 (((a0.flatMap e48).drop (x2.toNat * 3)).drop 1) = (I (at_ a0 x2).f1), 1 ≤ (((a0.flatMap e48).drop (x2.toNat * 3)).drop 1).length], []⟩ [c_ 6733, c_ 3367, b_ 1, c_ 211, l_ 26, b_ 0, c_ 7] (alc ⟨c2, c1⟩ (alc (ldC e48_ok 1 (by decide) rfl c2 c1) (alc (okIj e48_ok c2 c1 (by decide)) aln))) nocal ?_
          by_cases c4 : (at_ a0 x2).f1 = (wrap64 (x1 + 1))
          · rw [if_pos c4] at h
            refine .cond' (.tmp 27) false [c_ 6734, c_ 6735, b_ 1, c_ 211, l_ 26, b_ 0, c_ 7] (bF (nF (qT c4))) ?_
            refine .reg' [0, 1, 5] [] ⟨[(0, (.sl true a0.length 3 (a0.flatMap e48))), (1, (I (wrap64 ((wrap64 (x1 + 1)) + 1)))), (5, (I x2))], [], [], []⟩ [c_ 26940, c_ 26941, c_ 13471, b_ 1, c_ 211, l_ 26, b_ 0, c_ 7] aln nocal ?_
            refine .reg' [0, 1, 5, 36] [.no, .no, .no, .no, .v (I (at_ a0 x2).f2)] ⟨[(0, (.sl true a0.length 3 (a0.flatMap e48))), (1, (I (wrap64 ((wrap64 (x1 + 1)) + 1)))), (5, (I x2)), (36, (B (!((at_ a0 x2).f2 == (wrap64 ((wrap64 (x1 + 1)) + 1))))))], [], [(0 : Int) ≤ x2 ∧ x2 < (a0.length : Int), rdC prog 3 (((a0.flatMap e48).drop (x2.toNat * 3)).drop 2) = (I (at_ a0 x2).f2), 1 ≤ (((a0.flatMap e48).drop (x2.toNat * 3)).drop 2).length], []⟩ [c_ 26941, c_ 13471, b_ 1, c_ 211, l_ 26, b_ 0, c_ 7] (alc ⟨c2, c1⟩ (alc (ldC e48_ok 2 (by decide) rfl c2 c1) (alc (okIj e48_ok c2 c1 (by decide)) aln))) nocal ?_
            by_cases c5 : (at_ a0 x2).f2 = (wrap64 ((wrap64 (x1 + 1)) + 1))
            · rw [if_pos c5] at h
              refine .cond' (.tmp 36) false [c_ 13471, b_ 1, c_ 211, l_ 26, b_ 0, c_ 7] (bF (nF (qT c5))) ?_
              refine .reg' [0, 1, 5] [] ⟨[(0, (.sl true a0.length 3 (a0.flatMap e48))), (1, (I (wrap64 ((wrap64 ((wrap64 (x1 + 1)) + 1)) + 1)))), (5, (I x2))], [], [], []⟩ [c_ 211, l_ 26, b_ 0, c_ 7] aln nocal ?_
              refine .reg' [0, 1, 5] [] ⟨[(0, (.sl true a0.length 3 (a0.flatMap e48))), (1, (I (wrap64 ((wrap64 ((wrap64 (x1 + 1)) + 1)) + 1)))), (5, (I (wrap64 (x2 + 1))))], [], [], []⟩ [l_ 26, b_ 0, c_ 7] aln nocal ?_
              exact ih0 a0 (wrap64 ((wrap64 ((wrap64 (x1 + 1)) + 1)) + 1)) (wrap64 (x2 + 1)) _ h
            · rw [if_neg c5] at h
              refine .cond' (.tmp 36) true [c_ 107764, c_ 107765, c_ 13471, b_ 1, c_ 211, l_ 26, b_ 0, c_ 7] (bT (nT (qF c5))) ?_
              refine .reg' [4] [] ⟨[(4, (I (-1)))], [], [], []⟩ [c_ 107765, c_ 13471, b_ 1, c_ 211, l_ 26, b_ 0, c_ 7] aln nocal ?_
              have h := Option.some.inj h
              subst h
              exact .fin0 [] (I (-1)) [] aln (.z .s)
          · rw [if_neg c4] at h
            refine .cond' (.tmp 27) true [c_ 26932, c_ 26933, c_ 3367, b_ 1, c_ 211, l_ 26, b_ 0, c_ 7] (bT (nT (qF c4))) ?_
            refine .reg' [4] [] ⟨[(4, (I (-1)))], [], [], []⟩ [c_ 26933, c_ 3367, b_ 1, c_ 211, l_ 26, b_ 0, c_ 7] aln nocal ?_
            have h := Option.some.inj h
            subst h
            exact .fin0 [] (I (-1)) [] aln (.z .s)
        · rw [if_neg c3] at h
          refine .cond' (.tmp 18) true [c_ 6724, c_ 6725, c_ 841, b_ 1, c_ 211, l_ 26, b_ 0, c_ 7] (bT (nT (qF c3))) ?_
          refine .reg' [4] [] ⟨[(4, (I (-1)))], [], [], []⟩ [c_ 6725, c_ 841, b_ 1, c_ 211, l_ 26, b_ 0, c_ 7] aln nocal ?_
          have h := Option.some.inj h
          subst h
          exact .fin0 [] (I (-1)) [] aln (.z .s)
      · rw [if_neg c2] at h
        cases h
    · rw [if_neg c1] at h
      refine .cond' (.tmp 9) false [c_ 14, c_ 15] (bF (dF c1)) ?_
      refine .reg' [4] [] ⟨[(4, (I x1))], [], [], []⟩ [c_ 15] aln nocal ?_
      have h := Option.some.inj h
      subst h
      exact .fin0 [] (I x1) [] aln (.z .s)
theorem laws_heldCallS.J (k : Nat) (a0 : (List S48)) (a1 : Int) (r : Int) (h : laws_heldCallS.f k a0 a1 = some r) : J prog (.call 44 [(.sl true a0.length 3 (a0.flatMap e48)), (I a1)] [] (I r) []) := by
  unfold laws_heldCallS.f at h
  have ih0 := laws_heldCallS.lab k
  refine .call' [c_ 2, c_ 3] ?_
  refine .reg' [0, 1] [] ⟨[(0, (.sl true a0.length 3 (a0.flatMap e48))), (1, (I a1))], [], [], []⟩ [c_ 12, c_ 13, c_ 7] aln nocal ?_
  refine .reg' [0, 1, 5] [] ⟨[(0, (.sl true a0.length 3 (a0.flatMap e48))), (1, (I a1)), (5, (I 0))], [], [], []⟩ [l_ 26, b_ 0, c_ 7] aln nocal ?_
  exact ih0 a0 a1 0 _ h
/-! laws_heldTrip: function 21 -/
def laws_heldTrip.f (k : Nat) (a0 : S28) (a1 : Int) : Option Int := ((laws_heldCallS.f k a0.f1 a1).bind fun x1 => (if x1 < 0 then (some (-1)) else (some x1)))
theorem laws_heldTrip.J (k : Nat) (a0 : S28) (a1 : Int) (r : Int) (h : laws_heldTrip.f k a0 a1 = some r) : J prog (.call 21 [(.ag [(S a0.f0), (.sl true a0.f1.length 3 (a0.f1.flatMap e48))]), (I a1)] [] (I r) []) := by
  unfold laws_heldTrip.f at h
  refine .call' [c_ 2, c_ 3] ?_
  refine .reg' [1, 2] [] ⟨[(1, (I a1)), (2, (.pt 256 0 2))], [(256, [(S a0.f0), (.sl true a0.f1.length 3 (a0.f1.flatMap e48))])], [], []⟩ [c_ 6, c_ 7] aln nocal ?_
  obtain ⟨x1, hx1, h⟩ := Option.bind_eq_some_iff.mp h
  refine .reg' [1] [.no, .no, .no, .c ⟨44, [(.sl true a0.f1.length 3 (a0.f1.flatMap e48)), (I a1)], [], (I x1), [], [], [], [], (I x1), []⟩] ⟨[(1, (I x1))], [(256, [(S a0.f0), (.sl true a0.f1.length 3 (a0.f1.flatMap e48))])], [2 = 2 ∧ 1 + 1 ≤ 2, COK (hget [(256, [(S a0.f0), (.sl true a0.f1.length 3 (a0.f1.flatMap e48))])]) [(.sl true a0.f1.length 3 (a0.f1.flatMap e48)), (I a1)] ⟨44, [(.sl true a0.f1.length 3 (a0.f1.flatMap e48)), (I a1)], [], (I x1), [], [], [], [], (I x1), []⟩], [⟨44, [(.sl true a0.f1.length 3 (a0.f1.flatMap e48)), (I a1)], [], (I x1), [], [], [], [], (I x1), []⟩]⟩ [c_ 28, c_ 29, c_ 15] (alc ⟨rfl, by decide⟩ (alc (cok0 false (a2c (.z (frz_sl e48_ok (fun h => h))) (a2c (.z .s) a2n)) (.z .s) (fun h => absurd h (by decide))) aln)) (acal (laws_heldCallS.J k a0.f1 a1 _ hx1) nocal) ?_
  refine .reg' [1, 10] [] ⟨[(1, (I x1)), (10, (B (decide (x1 < 0))))], [(256, [(S a0.f0), (.sl true a0.f1.length 3 (a0.f1.flatMap e48))])], [], []⟩ [c_ 29, c_ 15] aln nocal ?_
  by_cases c1 : x1 < 0
  · rw [if_pos c1] at h
    refine .cond' (.tmp 10) true [c_ 116, c_ 117, c_ 15] (bT (dT c1)) ?_
    refine .reg' [4] [] ⟨[(4, (I (-1)))], [(256, [(S a0.f0), (.sl true a0.f1.length 3 (a0.f1.flatMap e48))])], [], []⟩ [c_ 117, c_ 15] aln nocal ?_
    have h := Option.some.inj h
    subst h
    exact .fin0 [] (I (-1)) [] aln (.z .s)
  · rw [if_neg c1] at h
    refine .cond' (.tmp 10) false [c_ 30, c_ 31] (bF (dF c1)) ?_
    refine .reg' [4] [] ⟨[(4, (I x1))], [(256, [(S a0.f0), (.sl true a0.f1.length 3 (a0.f1.flatMap e48))])], [], []⟩ [c_ 31] aln nocal ?_
    have h := Option.some.inj h
    subst h
    exact .fin0 [] (I x1) [] aln (.z .s)
/-! laws_FnExactReadTrip: function 5 -/
def laws_FnExactReadTrip.f (k : Nat) (a0 : ByteArray) : Option Bool := (if (a0.size : Int) > 1048576 then (some true) else ((spec_ReadTrip.f k a0).bind fun x1 => ((impl_ReadTrip.f k a0).bind fun x2 => ((laws_eqTrip.f k x2.1 x1.1).bind fun x3 => (if x3 = true then (if (x2.2 == x1.2) = true then ((laws_markTrip.f k x2.1 1).bind fun x4 => ((laws_heldTrip.f k (⟨x2.1.f0, x4.2⟩ : S28) 1).bind fun x5 => (if x5 < 0 then (some false) else (if x5 = x4.1 then ((impl_ReadTrip.f k a0).bind fun x6 => ((laws_eqTrip.f k x6.1 x1.1).bind fun x7 => (if x7 = true then (if (x6.2 == x1.2) = true then ((laws_heldTrip.f k (⟨x2.1.f0, x4.2⟩ : S28) 1).bind fun x8 => (if x8 < 0 then (some false) else (if x8 = x4.1 then (some true) else (some false)))) else (some false)) else (some false)))) else (some false))))) else (some false)) else (some false))))))
theorem laws_FnExactReadTrip.J (k : Nat) (a0 : ByteArray) (r : Bool) (h : laws_FnExactReadTrip.f k a0 = some r) : J prog (.call 5 [(S a0)] [] (B r) []) := by
  unfold laws_FnExactReadTrip.f at h
  refine .call' [c_ 2, c_ 3] ?_
  refine .reg' [0] [] ⟨[(0, (S a0))], [], [], []⟩ [c_ 12, c_ 13, c_ 7] aln nocal ?_
  refine .reg' [0, 13] [] ⟨[(0, (S a0)), (13, (B (decide ((a0.size : Int) > 1048576))))], [], [], []⟩ [c_ 13, c_ 7] aln nocal ?_
  by_cases c1 : (a0.size : Int) > 1048576
  · rw [if_pos c1] at h
    refine .cond' (.tmp 13) true [c_ 52, c_ 53, c_ 7] (bT (dT c1)) ?_
    refine .reg' [2] [] ⟨[(2, (B true))], [], [], []⟩ [c_ 53, c_ 7] aln nocal ?_
    have h := Option.some.inj h
    subst h
    exact .fin0 [] (B true) [] aln (.z .s)
  · rw [if_neg c1] at h
    refine .cond' (.tmp 13) false [c_ 14, c_ 15] (bF (dF c1)) ?_
    obtain ⟨x1, hx1, h⟩ := Option.bind_eq_some_iff.mp h
    refine .reg' [0, 3, 4] [.no, .c ⟨19, [(S a0)], [], (.tp [(.ag [(S x1.1.f0), (.rf 3020545 0 x1.1.f1.length 3 (x1.1.f1.length * 3))]), (B x1.2)]), [(3020545, (x1.1.f1.flatMap e48))], [], [], [(1001025, 3020545)], (.tp [(.ag [(S x1.1.f0), (.rf 1001025 0 x1.1.f1.length 3 (x1.1.f1.length * 3))]), (B x1.2)]), [(1001025, (x1.1.f1.flatMap e48))]⟩] ⟨[(0, (S a0)), (3, (.pt 1029 0 2)), (4, (B x1.2))], [(1001025, (x1.1.f1.flatMap e48)), (1029, [(S x1.1.f0), (.rf 1001025 0 x1.1.f1.length 3 (x1.1.f1.length * 3))])], [COK (hget []) [(S a0)] ⟨19, [(S a0)], [], (.tp [(.ag [(S x1.1.f0), (.rf 3020545 0 x1.1.f1.length 3 (x1.1.f1.length * 3))]), (B x1.2)]), [(3020545, (x1.1.f1.flatMap e48))], [], [], [(1001025, 3020545)], (.tp [(.ag [(S x1.1.f0), (.rf 1001025 0 x1.1.f1.length 3 (x1.1.f1.length * 3))]), (B x1.2)]), [(1001025, (x1.1.f1.flatMap e48))]⟩, 2 = 2 ∧ 0 + 2 ≤ 2], [⟨19, [(S a0)], [], (.tp [(.ag [(S x1.1.f0), (.rf 3020545 0 x1.1.f1.length 3 (x1.1.f1.length * 3))]), (B x1.2)]), [(3020545, (x1.1.f1.flatMap e48))], [], [], [(1001025, 3020545)], (.tp [(.ag [(S x1.1.f0), (.rf 1001025 0 x1.1.f1.length 3 (x1.1.f1.length * 3))]), (B x1.2)]), [(1001025, (x1.1.f1.flatMap e48))]⟩]⟩ [c_ 30, c_ 31] (alc (cokW false (a2c (.z .s) a2n) akn (akc (.inr rfl) akn) (bck_tp (a2c (bck_ag (a2c (.z .s) (a2c (.rf (memP_mem (p := (1001025, 3020545)) rfl)) a2n))) (a2c (.z .s) a2n))) (akc ⟨_, _, rfl, rfl, rowB e48_c _⟩ akn) (fun h => absurd h (by decide))) (alc ⟨rfl, by decide⟩ aln)) (acal (spec_ReadTrip.J k a0 _ hx1) nocal) ?_
    obtain ⟨x2, hx2, h⟩ := Option.bind_eq_some_iff.mp h
    refine .reg' [0, 3, 4, 5, 6] [.no, .c ⟨20, [(S a0)], [], (.tp [(.ag [(S x2.1.f0), (.rf 3020545 0 x2.1.f1.length 3 (x2.1.f1.length * 3))]), (B x2.2)]), [(3020545, (x2.1.f1.flatMap e48))], [], [], [(1001281, 3020545)], (.tp [(.ag [(S x2.1.f0), (.rf 1001281 0 x2.1.f1.length 3 (x2.1.f1.length * 3))]), (B x2.2)]), [(1001281, (x2.1.f1.flatMap e48))]⟩] ⟨[(0, (S a0)), (3, (.pt 1029 0 2)), (4, (B x1.2)), (5, (.pt 1285 0 2)), (6, (B x2.2))], [(1001025, (x1.1.f1.flatMap e48)), (1029, [(S x1.1.f0), (.rf 1001025 0 x1.1.f1.length 3 (x1.1.f1.length * 3))]), (1001281, (x2.1.f1.flatMap e48)), (1285, [(S x2.1.f0), (.rf 1001281 0 x2.1.f1.length 3 (x2.1.f1.length * 3))])], [COK (hget [(1001025, (x1.1.f1.flatMap e48)), (1029, [(S x1.1.f0), (.rf 1001025 0 x1.1.f1.length 3 (x1.1.f1.length * 3))])]) [(S a0)] ⟨20, [(S a0)], [], (.tp [(.ag [(S x2.1.f0), (.rf 3020545 0 x2.1.f1.length 3 (x2.1.f1.length * 3))]), (B x2.2)]), [(3020545, (x2.1.f1.flatMap e48))], [], [], [(1001281, 3020545)], (.tp [(.ag [(S x2.1.f0), (.rf 1001281 0 x2.1.f1.length 3 (x2.1.f1.length * 3))]), (B x2.2)]), [(1001281, (x2.1.f1.flatMap e48))]⟩, 2 = 2 ∧ 0 + 2 ≤ 2], [⟨20, [(S a0)], [], (.tp [(.ag [(S x2.1.f0), (.rf 3020545 0 x2.1.f1.length 3 (x2.1.f1.length * 3))]), (B x2.2)]), [(3020545, (x2.1.f1.flatMap e48))], [], [], [(1001281, 3020545)], (.tp [(.ag [(S x2.1.f0), (.rf 1001281 0 x2.1.f1.length 3 (x2.1.f1.length * 3))]), (B x2.2)]), [(1001281, (x2.1.f1.flatMap e48))]⟩]⟩ [c_ 124, c_ 125, c_ 63] (alc (cokW false (a2c (.z .s) a2n) akn (akc (.inr rfl) akn) (bck_tp (a2c (bck_ag (a2c (.z .s) (a2c (.rf (memP_mem (p := (1001281, 3020545)) rfl)) a2n))) (a2c (.z .s) a2n))) (akc ⟨_, _, rfl, rfl, rowB e48_c _⟩ akn) (fun h => absurd h (by decide))) (alc ⟨rfl, by decide⟩ aln)) (acal (impl_ReadTrip.J k a0 _ hx2) nocal) ?_
    obtain ⟨x3, hx3, h⟩ := Option.bind_eq_some_iff.mp h
    by_cases c2 : x3 = true
    · rw [if_pos c2] at h
      refine .reg' [0, 3, 4, 5, 32] [.no, .no, .c ⟨12, [(.ag [(S x2.1.f0), (.sl true x2.1.f1.length 3 (x2.1.f1.flatMap e48))]), (.ag [(S x1.1.f0), (.sl true x1.1.f1.length 3 (x1.1.f1.flatMap e48))])], [], (B x3), [], [1001025, 1001281], [], [], (B x3), []⟩, .no, .v (B false)] ⟨[(0, (S a0)), (3, (.pt 1029 0 2)), (4, (B x1.2)), (5, (.pt 1285 0 2)), (32, (B (!(x2.2 == x1.2))))], [(1001025, (x1.1.f1.flatMap e48)), (1029, [(S x1.1.f0), (.rf 1001025 0 x1.1.f1.length 3 (x1.1.f1.length * 3))]), (1001281, (x2.1.f1.flatMap e48)), (1285, [(S x2.1.f0), (.rf 1001281 0 x2.1.f1.length 3 (x2.1.f1.length * 3))])], [2 = 2 ∧ 0 + 2 ≤ 2, 2 = 2 ∧ 0 + 2 ≤ 2, COK (hget [(1001025, (x1.1.f1.flatMap e48)), (1029, [(S x1.1.f0), (.rf 1001025 0 x1.1.f1.length 3 (x1.1.f1.length * 3))]), (1001281, (x2.1.f1.flatMap e48)), (1285, [(S x2.1.f0), (.rf 1001281 0 x2.1.f1.length 3 (x2.1.f1.length * 3))])]) [(.ag [(S x2.1.f0), (.rf 1001281 0 x2.1.f1.length 3 (x2.1.f1.length * 3))]), (.ag [(S x1.1.f0), (.rf 1001025 0 x1.1.f1.length 3 (x1.1.f1.length * 3))])] ⟨12, [(.ag [(S x2.1.f0), (.sl true x2.1.f1.length 3 (x2.1.f1.flatMap e48))]), (.ag [(S x1.1.f0), (.sl true x1.1.f1.length 3 (x1.1.f1.flatMap e48))])], [], (B x3), [], [1001025, 1001281], [], [], (B x3), []⟩, (B (!x3) : V) = B false], [⟨12, [(.ag [(S x2.1.f0), (.sl true x2.1.f1.length 3 (x2.1.f1.flatMap e48))]), (.ag [(S x1.1.f0), (.sl true x1.1.f1.length 3 (x1.1.f1.flatMap e48))])], [], (B x3), [], [1001025, 1001281], [], [], (B x3), []⟩]⟩ [c_ 125, c_ 63] (alc ⟨rfl, by decide⟩ (alc ⟨rfl, by decide⟩ (alc (cok0 false (a2c (cnv_ag (a2c (.z .s) (a2c (.z (frz_rf (k := 1001281) e48_ok (by simp) rfl rfl (row_len e48_ok _).symm)) a2n))) (a2c (cnv_ag (a2c (.z .s) (a2c (.z (frz_rf (k := 1001025) e48_ok (by simp) rfl rfl (row_len e48_ok _).symm)) a2n))) a2n)) (.z .s) (fun h => absurd h (by decide))) (alc (bF (nF c2)) aln)))) (acal (laws_eqTrip.J k x2.1 x1.1 _ hx3) nocal) ?_
      by_cases c3 : (x2.2 == x1.2) = true
      · rw [if_pos c3] at h
        refine .cond' (.tmp 32) false [c_ 126, c_ 127] (bF (nF c3)) ?_
        refine .reg' [0, 3, 4, 5, 7] [] ⟨[(0, (S a0)), (3, (.pt 1029 0 2)), (4, (B x1.2)), (5, (.pt 1285 0 2)), (7, (I 1))], [(1001025, (x1.1.f1.flatMap e48)), (1029, [(S x1.1.f0), (.rf 1001025 0 x1.1.f1.length 3 (x1.1.f1.length * 3))]), (1001281, (x2.1.f1.flatMap e48)), (1285, [(S x2.1.f0), (.rf 1001281 0 x2.1.f1.length 3 (x2.1.f1.length * 3))])], [], []⟩ [c_ 254, c_ 255] aln nocal ?_
        obtain ⟨x4, hx4, h⟩ := Option.bind_eq_some_iff.mp h
        refine .reg' [0, 3, 4, 5, 7] [.no, .no, .c ⟨16, [(.ag [(S x2.1.f0), (.rf 1 0 x2.1.f1.length 3 (x2.1.f1.length * 3))]), (I 1)], [(1, (x2.1.f1.flatMap e48))], (I x4.1), [(1, (x4.2.flatMap e48))], [], [(1001281, 1)], [(1001281, 1)], (I x4.1), [(1001281, (x4.2.flatMap e48))]⟩] ⟨[(0, (S a0)), (3, (.pt 1029 0 2)), (4, (B x1.2)), (5, (.pt 1285 0 2)), (7, (I x4.1))], [(1001025, (x1.1.f1.flatMap e48)), (1029, [(S x1.1.f0), (.rf 1001025 0 x1.1.f1.length 3 (x1.1.f1.length * 3))]), (1001281, (x4.2.flatMap e48)), (1285, [(S x2.1.f0), (.rf 1001281 0 x2.1.f1.length 3 (x2.1.f1.length * 3))])], [2 = 2 ∧ 0 + 2 ≤ 2, COK (hget [(1001025, (x1.1.f1.flatMap e48)), (1029, [(S x1.1.f0), (.rf 1001025 0 x1.1.f1.length 3 (x1.1.f1.length * 3))]), (1001281, (x2.1.f1.flatMap e48)), (1285, [(S x2.1.f0), (.rf 1001281 0 x2.1.f1.length 3 (x2.1.f1.length * 3))])]) [(.ag [(S x2.1.f0), (.rf 1001281 0 x2.1.f1.length 3 (x2.1.f1.length * 3))]), (I 1)] ⟨16, [(.ag [(S x2.1.f0), (.rf 1 0 x2.1.f1.length 3 (x2.1.f1.length * 3))]), (I 1)], [(1, (x2.1.f1.flatMap e48))], (I x4.1), [(1, (x4.2.flatMap e48))], [], [(1001281, 1)], [(1001281, 1)], (I x4.1), [(1001281, (x4.2.flatMap e48))]⟩], [⟨16, [(.ag [(S x2.1.f0), (.rf 1 0 x2.1.f1.length 3 (x2.1.f1.length * 3))]), (I 1)], [(1, (x2.1.f1.flatMap e48))], (I x4.1), [(1, (x4.2.flatMap e48))], [], [(1001281, 1)], [(1001281, 1)], (I x4.1), [(1001281, (x4.2.flatMap e48))]⟩]⟩ [c_ 510, c_ 511] (alc ⟨rfl, by decide⟩ (alc (cokW false (a2c (cnv_ag (a2c (.z .s) (a2c (.rf (memP_mem (p := (1001281, 1)) rfl)) a2n))) (a2c (.z .s) a2n)) (akc ⟨_, _, rfl, rfl, (rowF e48_ok _)⟩ akn) (akc (.inl rfl) akn) (.z .s) (akc ⟨_, _, rfl, rfl, rowB e48_c _⟩ akn) (fun h => absurd h (by decide))) aln)) (acal (laws_markTrip.J k x2.1 1 _ hx4) nocal) ?_
        refine .eqs (env2 := [(0, (S a0)), (3, (.pt 1029 0 2)), (4, (B x1.2)), (5, (.pt 1285 0 2)), (7, (I x4.1))]) (H2 := [(1001025, (x1.1.f1.flatMap e48)), (1029, [(S x1.1.f0), (.rf 1001025 0 x1.1.f1.length 3 (x1.1.f1.length * 3))]), (1001281, (x4.2.flatMap e48)), (1285, [(S x2.1.f0), (.rf 1001281 0 x4.2.length 3 (x4.2.length * 3))])]) (by first | (simp only [List.length_set, (laws_markTrip.len k x2.1 1 _ hx4)]; done) | simp) (by first | rfl | (simp only [List.length_set, (laws_markTrip.len k x2.1 1 _ hx4)]; done) | simp) ?_
        refine .reg' [0, 3, 4, 5, 7, 8] [] ⟨[(0, (S a0)), (3, (.pt 1029 0 2)), (4, (B x1.2)), (5, (.pt 1285 0 2)), (7, (I x4.1)), (8, (I 1))], [(1001025, (x1.1.f1.flatMap e48)), (1029, [(S x1.1.f0), (.rf 1001025 0 x1.1.f1.length 3 (x1.1.f1.length * 3))]), (1001281, (x4.2.flatMap e48)), (1285, [(S x2.1.f0), (.rf 1001281 0 x4.2.length 3 (x4.2.length * 3))])], [], []⟩ [c_ 1022, c_ 1023] aln nocal ?_
        obtain ⟨x5, hx5, h⟩ := Option.bind_eq_some_iff.mp h
        refine .reg' [0, 3, 4, 5, 7, 8] [.no, .no, .c ⟨21, [(.ag [(S x2.1.f0), (.sl true x4.2.length 3 (x4.2.flatMap e48))]), (I 1)], [], (I x5), [], [1001281], [], [], (I x5), []⟩] ⟨[(0, (S a0)), (3, (.pt 1029 0 2)), (4, (B x1.2)), (5, (.pt 1285 0 2)), (7, (I x4.1)), (8, (I x5))], [(1001025, (x1.1.f1.flatMap e48)), (1029, [(S x1.1.f0), (.rf 1001025 0 x1.1.f1.length 3 (x1.1.f1.length * 3))]), (1001281, (x4.2.flatMap e48)), (1285, [(S x2.1.f0), (.rf 1001281 0 x4.2.length 3 (x4.2.length * 3))])], [2 = 2 ∧ 0 + 2 ≤ 2, COK (hget [(1001025, (x1.1.f1.flatMap e48)), (1029, [(S x1.1.f0), (.rf 1001025 0 x1.1.f1.length 3 (x1.1.f1.length * 3))]), (1001281, (x4.2.flatMap e48)), (1285, [(S x2.1.f0), (.rf 1001281 0 x4.2.length 3 (x4.2.length * 3))])]) [(.ag [(S x2.1.f0), (.rf 1001281 0 x4.2.length 3 (x4.2.length * 3))]), (I 1)] ⟨21, [(.ag [(S x2.1.f0), (.sl true x4.2.length 3 (x4.2.flatMap e48))]), (I 1)], [], (I x5), [], [1001281], [], [], (I x5), []⟩], [⟨21, [(.ag [(S x2.1.f0), (.sl true x4.2.length 3 (x4.2.flatMap e48))]), (I 1)], [], (I x5), [], [1001281], [], [], (I x5), []⟩]⟩ [c_ 4092, c_ 4093, c_ 2047] (alc ⟨rfl, by decide⟩ (alc (cok0 false (a2c (cnv_ag (a2c (.z .s) (a2c (.z (frz_rf (k := 1001281) e48_ok (by simp) rfl rfl (row_len e48_ok _).symm)) a2n))) (a2c (.z .s) a2n)) (.z .s) (fun h => absurd h (by decide))) aln)) (acal (laws_heldTrip.J k (⟨x2.1.f0, x4.2⟩ : S28) 1 _ hx5) nocal) ?_
        refine .reg' [0, 3, 4, 5, 7, 8, 40] [] ⟨[(0, (S a0)), (3, (.pt 1029 0 2)), (4, (B x1.2)), (5, (.pt 1285 0 2)), (7, (I x4.1)), (8, (I x5)), (40, (B (decide (x5 < 0))))], [(1001025, (x1.1.f1.flatMap e48)), (1029, [(S x1.1.f0), (.rf 1001025 0 x1.1.f1.length 3 (x1.1.f1.length * 3))]), (1001281, (x4.2.flatMap e48)), (1285, [(S x2.1.f0), (.rf 1001281 0 x4.2.length 3 (x4.2.length * 3))])], [], []⟩ [c_ 4093, c_ 2047] aln nocal ?_
        by_cases c4 : x5 < 0
        · rw [if_pos c4] at h
          refine .cond' (.tmp 40) true [c_ 16372, c_ 16373, c_ 2047] (bT (dT c4)) ?_
          refine .reg' [2] [] ⟨[(2, (B false))], [(1001025, (x1.1.f1.flatMap e48)), (1029, [(S x1.1.f0), (.rf 1001025 0 x1.1.f1.length 3 (x1.1.f1.length * 3))]), (1001281, (x4.2.flatMap e48)), (1285, [(S x2.1.f0), (.rf 1001281 0 x4.2.length 3 (x4.2.length * 3))])], [], []⟩ [c_ 16373, c_ 2047] aln nocal ?_
          have h := Option.some.inj h
          subst h
          exact .fin0 [] (B false) [] aln (.z .s)
        · rw [if_neg c4] at h
          refine .cond' (.tmp 40) false [c_ 8188, c_ 8189, c_ 4095] (bF (dF c4)) ?_
          refine .reg' [0, 3, 4, 5, 7, 43] [] ⟨[(0, (S a0)), (3, (.pt 1029 0 2)), (4, (B x1.2)), (5, (.pt 1285 0 2)), (7, (I x4.1)), (43, (B (!(x5 == x4.1))))], [(1001025, (x1.1.f1.flatMap e48)), (1029, [(S x1.1.f0), (.rf 1001025 0 x1.1.f1.length 3 (x1.1.f1.length * 3))]), (1001281, (x4.2.flatMap e48)), (1285, [(S x2.1.f0), (.rf 1001281 0 x4.2.length 3 (x4.2.length * 3))])], [], []⟩ [c_ 8189, c_ 4095] aln nocal ?_
          by_cases c5 : x5 = x4.1
          · rw [if_pos c5] at h
            refine .cond' (.tmp 43) false [c_ 8190, c_ 8191] (bF (nF (qT c5))) ?_
            obtain ⟨x6, hx6, h⟩ := Option.bind_eq_some_iff.mp h
            refine .reg' [3, 4, 5, 7, 9, 10] [.no, .c ⟨20, [(S a0)], [], (.tp [(.ag [(S x6.1.f0), (.rf 3020545 0 x6.1.f1.length 3 (x6.1.f1.length * 3))]), (B x6.2)]), [(3020545, (x6.1.f1.flatMap e48))], [], [], [(1004097, 3020545)], (.tp [(.ag [(S x6.1.f0), (.rf 1004097 0 x6.1.f1.length 3 (x6.1.f1.length * 3))]), (B x6.2)]), [(1004097, (x6.1.f1.flatMap e48))]⟩] ⟨[(3, (.pt 1029 0 2)), (4, (B x1.2)), (5, (.pt 1285 0 2)), (7, (I x4.1)), (9, (.pt 4101 0 2)), (10, (B x6.2))], [(1001025, (x1.1.f1.flatMap e48)), (1029, [(S x1.1.f0), (.rf 1001025 0 x1.1.f1.length 3 (x1.1.f1.length * 3))]), (1001281, (x4.2.flatMap e48)), (1285, [(S x2.1.f0), (.rf 1001281 0 x4.2.length 3 (x4.2.length * 3))]), (1004097, (x6.1.f1.flatMap e48)), (4101, [(S x6.1.f0), (.rf 1004097 0 x6.1.f1.length 3 (x6.1.f1.length * 3))])], [COK (hget [(1001025, (x1.1.f1.flatMap e48)), (1029, [(S x1.1.f0), (.rf 1001025 0 x1.1.f1.length 3 (x1.1.f1.length * 3))]), (1001281, (x4.2.flatMap e48)), (1285, [(S x2.1.f0), (.rf 1001281 0 x4.2.length 3 (x4.2.length * 3))])]) [(S a0)] ⟨20, [(S a0)], [], (.tp [(.ag [(S x6.1.f0), (.rf 3020545 0 x6.1.f1.length 3 (x6.1.f1.length * 3))]), (B x6.2)]), [(3020545, (x6.1.f1.flatMap e48))], [], [], [(1004097, 3020545)], (.tp [(.ag [(S x6.1.f0), (.rf 1004097 0 x6.1.f1.length 3 (x6.1.f1.length * 3))]), (B x6.2)]), [(1004097, (x6.1.f1.flatMap e48))]⟩, 2 = 2 ∧ 0 + 2 ≤ 2], [⟨20, [(S a0)], [], (.tp [(.ag [(S x6.1.f0), (.rf 3020545 0 x6.1.f1.length 3 (x6.1.f1.length * 3))]), (B x6.2)]), [(3020545, (x6.1.f1.flatMap e48))], [], [], [(1004097, 3020545)], (.tp [(.ag [(S x6.1.f0), (.rf 1004097 0 x6.1.f1.length 3 (x6.1.f1.length * 3))]), (B x6.2)]), [(1004097, (x6.1.f1.flatMap e48))]⟩]⟩ [c_ 32764, c_ 32765, c_ 16383] (alc (cokW false (a2c (.z .s) a2n) akn (akc (.inr rfl) akn) (bck_tp (a2c (bck_ag (a2c (.z .s) (a2c (.rf (memP_mem (p := (1004097, 3020545)) rfl)) a2n))) (a2c (.z .s) a2n))) (akc ⟨_, _, rfl, rfl, rowB e48_c _⟩ akn) (fun h => absurd h (by decide))) (alc ⟨rfl, by decide⟩ aln)) (acal (impl_ReadTrip.J k a0 _ hx6) nocal) ?_
            obtain ⟨x7, hx7, h⟩ := Option.bind_eq_some_iff.mp h
            by_cases c6 : x7 = true
            · rw [if_pos c6] at h
              refine .reg' [5, 7, 57] [.no, .no, .c ⟨12, [(.ag [(S x6.1.f0), (.sl true x6.1.f1.length 3 (x6.1.f1.flatMap e48))]), (.ag [(S x1.1.f0), (.sl true x1.1.f1.length 3 (x1.1.f1.flatMap e48))])], [], (B x7), [], [1001025, 1004097], [], [], (B x7), []⟩, .no, .v (B false)] ⟨[(5, (.pt 1285 0 2)), (7, (I x4.1)), (57, (B (!(x6.2 == x1.2))))], [(1001025, (x1.1.f1.flatMap e48)), (1029, [(S x1.1.f0), (.rf 1001025 0 x1.1.f1.length 3 (x1.1.f1.length * 3))]), (1001281, (x4.2.flatMap e48)), (1285, [(S x2.1.f0), (.rf 1001281 0 x4.2.length 3 (x4.2.length * 3))]), (1004097, (x6.1.f1.flatMap e48)), (4101, [(S x6.1.f0), (.rf 1004097 0 x6.1.f1.length 3 (x6.1.f1.length * 3))])], [2 = 2 ∧ 0 + 2 ≤ 2, 2 = 2 ∧ 0 + 2 ≤ 2, COK (hget [(1001025, (x1.1.f1.flatMap e48)), (1029, [(S x1.1.f0), (.rf 1001025 0 x1.1.f1.length 3 (x1.1.f1.length * 3))]), (1001281, (x4.2.flatMap e48)), (1285, [(S x2.1.f0), (.rf 1001281 0 x4.2.length 3 (x4.2.length * 3))]), (1004097, (x6.1.f1.flatMap e48)), (4101, [(S x6.1.f0), (.rf 1004097 0 x6.1.f1.length 3 (x6.1.f1.length * 3))])]) [(.ag [(S x6.1.f0), (.rf 1004097 0 x6.1.f1.length 3 (x6.1.f1.length * 3))]), (.ag [(S x1.1.f0), (.rf 1001025 0 x1.1.f1.length 3 (x1.1.f1.length * 3))])] ⟨12, [(.ag [(S x6.1.f0), (.sl true x6.1.f1.length 3 (x6.1.f1.flatMap e48))]), (.ag [(S x1.1.f0), (.sl true x1.1.f1.length 3 (x1.1.f1.flatMap e48))])], [], (B x7), [], [1001025, 1004097], [], [], (B x7), []⟩, (B (!x7) : V) = B false], [⟨12, [(.ag [(S x6.1.f0), (.sl true x6.1.f1.length 3 (x6.1.f1.flatMap e48))]), (.ag [(S x1.1.f0), (.sl true x1.1.f1.length 3 (x1.1.f1.flatMap e48))])], [], (B x7), [], [1001025, 1004097], [], [], (B x7), []⟩]⟩ [c_ 32765, c_ 16383] (alc ⟨rfl, by decide⟩ (alc ⟨rfl, by decide⟩ (alc (cok0 false (a2c (cnv_ag (a2c (.z .s) (a2c (.z (frz_rf (k := 1004097) e48_ok (by simp) rfl rfl (row_len e48_ok _).symm)) a2n))) (a2c (cnv_ag (a2c (.z .s) (a2c (.z (frz_rf (k := 1001025) e48_ok (by simp) rfl rfl (row_len e48_ok _).symm)) a2n))) a2n)) (.z .s) (fun h => absurd h (by decide))) (alc (bF (nF c6)) aln)))) (acal (laws_eqTrip.J k x6.1 x1.1 _ hx7) nocal) ?_
              by_cases c7 : (x6.2 == x1.2) = true
              · rw [if_pos c7] at h
                refine .cond' (.tmp 57) false [c_ 32766, c_ 32767] (bF (nF c7)) ?_
                refine .reg' [5, 7, 8] [] ⟨[(5, (.pt 1285 0 2)), (7, (I x4.1)), (8, (I 1))], [(1001025, (x1.1.f1.flatMap e48)), (1029, [(S x1.1.f0), (.rf 1001025 0 x1.1.f1.length 3 (x1.1.f1.length * 3))]), (1001281, (x4.2.flatMap e48)), (1285, [(S x2.1.f0), (.rf 1001281 0 x4.2.length 3 (x4.2.length * 3))]), (1004097, (x6.1.f1.flatMap e48)), (4101, [(S x6.1.f0), (.rf 1004097 0 x6.1.f1.length 3 (x6.1.f1.length * 3))])], [], []⟩ [c_ 65534, c_ 65535] aln nocal ?_
                obtain ⟨x8, hx8, h⟩ := Option.bind_eq_some_iff.mp h
                refine .reg' [7, 8] [.no, .no, .c ⟨21, [(.ag [(S x2.1.f0), (.sl true x4.2.length 3 (x4.2.flatMap e48))]), (I 1)], [], (I x8), [], [1001281], [], [], (I x8), []⟩] ⟨[(7, (I x4.1)), (8, (I x8))], [(1001025, (x1.1.f1.flatMap e48)), (1029, [(S x1.1.f0), (.rf 1001025 0 x1.1.f1.length 3 (x1.1.f1.length * 3))]), (1001281, (x4.2.flatMap e48)), (1285, [(S x2.1.f0), (.rf 1001281 0 x4.2.length 3 (x4.2.length * 3))]), (1004097, (x6.1.f1.flatMap e48)), (4101, [(S x6.1.f0), (.rf 1004097 0 x6.1.f1.length 3 (x6.1.f1.length * 3))])], [2 = 2 ∧ 0 + 2 ≤ 2, COK (hget [(1001025, (x1.1.f1.flatMap e48)), (1029, [(S x1.1.f0), (.rf 1001025 0 x1.1.f1.length 3 (x1.1.f1.length * 3))]), (1001281, (x4.2.flatMap e48)), (1285, [(S x2.1.f0), (.rf 1001281 0 x4.2.length 3 (x4.2.length * 3))]), (1004097, (x6.1.f1.flatMap e48)), (4101, [(S x6.1.f0), (.rf 1004097 0 x6.1.f1.length 3 (x6.1.f1.length * 3))])]) [(.ag [(S x2.1.f0), (.rf 1001281 0 x4.2.length 3 (x4.2.length * 3))]), (I 1)] ⟨21, [(.ag [(S x2.1.f0), (.sl true x4.2.length 3 (x4.2.flatMap e48))]), (I 1)], [], (I x8), [], [1001281], [], [], (I x8), []⟩], [⟨21, [(.ag [(S x2.1.f0), (.sl true x4.2.length 3 (x4.2.flatMap e48))]), (I 1)], [], (I x8), [], [1001281], [], [], (I x8), []⟩]⟩ [c_ 262140, c_ 262141, c_ 131071] (alc ⟨rfl, by decide⟩ (alc (cok0 false (a2c (cnv_ag (a2c (.z .s) (a2c (.z (frz_rf (k := 1001281) e48_ok (by simp) rfl rfl (row_len e48_ok _).symm)) a2n))) (a2c (.z .s) a2n)) (.z .s) (fun h => absurd h (by decide))) aln)) (acal (laws_heldTrip.J k (⟨x2.1.f0, x4.2⟩ : S28) 1 _ hx8) nocal) ?_
                refine .reg' [7, 8, 62] [] ⟨[(7, (I x4.1)), (8, (I x8)), (62, (B (decide (x8 < 0))))], [(1001025, (x1.1.f1.flatMap e48)), (1029, [(S x1.1.f0), (.rf 1001025 0 x1.1.f1.length 3 (x1.1.f1.length * 3))]), (1001281, (x4.2.flatMap e48)), (1285, [(S x2.1.f0), (.rf 1001281 0 x4.2.length 3 (x4.2.length * 3))]), (1004097, (x6.1.f1.flatMap e48)), (4101, [(S x6.1.f0), (.rf 1004097 0 x6.1.f1.length 3 (x6.1.f1.length * 3))])], [], []⟩ [c_ 262141, c_ 131071] aln nocal ?_
                by_cases c8 : x8 < 0
                · rw [if_pos c8] at h
                  refine .cond' (.tmp 62) true [c_ 1048564, c_ 1048565, c_ 131071] (bT (dT c8)) ?_
                  refine .reg' [2] [] ⟨[(2, (B false))], [(1001025, (x1.1.f1.flatMap e48)), (1029, [(S x1.1.f0), (.rf 1001025 0 x1.1.f1.length 3 (x1.1.f1.length * 3))]), (1001281, (x4.2.flatMap e48)), (1285, [(S x2.1.f0), (.rf 1001281 0 x4.2.length 3 (x4.2.length * 3))]), (1004097, (x6.1.f1.flatMap e48)), (4101, [(S x6.1.f0), (.rf 1004097 0 x6.1.f1.length 3 (x6.1.f1.length * 3))])], [], []⟩ [c_ 1048565, c_ 131071] aln nocal ?_
                  have h := Option.some.inj h
                  subst h
                  exact .fin0 [] (B false) [] aln (.z .s)
                · rw [if_neg c8] at h
                  refine .cond' (.tmp 62) false [c_ 524284, c_ 524285, c_ 262143] (bF (dF c8)) ?_
                  refine .reg' [65] [] ⟨[(65, (B (!(x8 == x4.1))))], [(1001025, (x1.1.f1.flatMap e48)), (1029, [(S x1.1.f0), (.rf 1001025 0 x1.1.f1.length 3 (x1.1.f1.length * 3))]), (1001281, (x4.2.flatMap e48)), (1285, [(S x2.1.f0), (.rf 1001281 0 x4.2.length 3 (x4.2.length * 3))]), (1004097, (x6.1.f1.flatMap e48)), (4101, [(S x6.1.f0), (.rf 1004097 0 x6.1.f1.length 3 (x6.1.f1.length * 3))])], [], []⟩ [c_ 524285, c_ 262143] aln nocal ?_
                  by_cases c9 : x8 = x4.1
                  · rw [if_pos c9] at h
                    refine .cond' (.tmp 65) false [c_ 524286, c_ 524287] (bF (nF (qT c9))) ?_
                    refine .reg' [2] [] ⟨[(2, (B true))], [(1001025, (x1.1.f1.flatMap e48)), (1029, [(S x1.1.f0), (.rf 1001025 0 x1.1.f1.length 3 (x1.1.f1.length * 3))]), (1001281, (x4.2.flatMap e48)), (1285, [(S x2.1.f0), (.rf 1001281 0 x4.2.length 3 (x4.2.length * 3))]), (1004097, (x6.1.f1.flatMap e48)), (4101, [(S x6.1.f0), (.rf 1004097 0 x6.1.f1.length 3 (x6.1.f1.length * 3))])], [], []⟩ [c_ 524287] aln nocal ?_
                    have h := Option.some.inj h
                    subst h
                    exact .fin0 [] (B true) [] aln (.z .s)
                  · rw [if_neg c9] at h
                    refine .cond' (.tmp 65) true [c_ 2097140, c_ 2097141, c_ 262143] (bT (nT (qF c9))) ?_
                    refine .reg' [2] [] ⟨[(2, (B false))], [(1001025, (x1.1.f1.flatMap e48)), (1029, [(S x1.1.f0), (.rf 1001025 0 x1.1.f1.length 3 (x1.1.f1.length * 3))]), (1001281, (x4.2.flatMap e48)), (1285, [(S x2.1.f0), (.rf 1001281 0 x4.2.length 3 (x4.2.length * 3))]), (1004097, (x6.1.f1.flatMap e48)), (4101, [(S x6.1.f0), (.rf 1004097 0 x6.1.f1.length 3 (x6.1.f1.length * 3))])], [], []⟩ [c_ 2097141, c_ 262143] aln nocal ?_
                    have h := Option.some.inj h
                    subst h
                    exact .fin0 [] (B false) [] aln (.z .s)
              · rw [if_neg c7] at h
                refine .cond' (.tmp 57) true [c_ 131060, c_ 131061, c_ 16383] (bT (nT (vF c7))) ?_
                refine .reg' [2] [] ⟨[(2, (B false))], [(1001025, (x1.1.f1.flatMap e48)), (1029, [(S x1.1.f0), (.rf 1001025 0 x1.1.f1.length 3 (x1.1.f1.length * 3))]), (1001281, (x4.2.flatMap e48)), (1285, [(S x2.1.f0), (.rf 1001281 0 x4.2.length 3 (x4.2.length * 3))]), (1004097, (x6.1.f1.flatMap e48)), (4101, [(S x6.1.f0), (.rf 1004097 0 x6.1.f1.length 3 (x6.1.f1.length * 3))])], [], []⟩ [c_ 131061, c_ 16383] aln nocal ?_
                have h := Option.some.inj h
                subst h
                exact .fin0 [] (B false) [] aln (.z .s)
            · rw [if_neg c6] at h
              refine .reg' [5, 7, 57] [.no, .no, .c ⟨12, [(.ag [(S x6.1.f0), (.sl true x6.1.f1.length 3 (x6.1.f1.flatMap e48))]), (.ag [(S x1.1.f0), (.sl true x1.1.f1.length 3 (x1.1.f1.flatMap e48))])], [], (B x7), [], [1001025, 1004097], [], [], (B x7), []⟩, .no, .v (B true)] ⟨[(5, (.pt 1285 0 2)), (7, (I x4.1)), (57, (B true))], [(1001025, (x1.1.f1.flatMap e48)), (1029, [(S x1.1.f0), (.rf 1001025 0 x1.1.f1.length 3 (x1.1.f1.length * 3))]), (1001281, (x4.2.flatMap e48)), (1285, [(S x2.1.f0), (.rf 1001281 0 x4.2.length 3 (x4.2.length * 3))]), (1004097, (x6.1.f1.flatMap e48)), (4101, [(S x6.1.f0), (.rf 1004097 0 x6.1.f1.length 3 (x6.1.f1.length * 3))])], [2 = 2 ∧ 0 + 2 ≤ 2, 2 = 2 ∧ 0 + 2 ≤ 2, COK (hget [(1001025, (x1.1.f1.flatMap e48)), (1029, [(S x1.1.f0), (.rf 1001025 0 x1.1.f1.length 3 (x1.1.f1.length * 3))]), (1001281, (x4.2.flatMap e48)), (1285, [(S x2.1.f0), (.rf 1001281 0 x4.2.length 3 (x4.2.length * 3))]), (1004097, (x6.1.f1.flatMap e48)), (4101, [(S x6.1.f0), (.rf 1004097 0 x6.1.f1.length 3 (x6.1.f1.length * 3))])]) [(.ag [(S x6.1.f0), (.rf 1004097 0 x6.1.f1.length 3 (x6.1.f1.length * 3))]), (.ag [(S x1.1.f0), (.rf 1001025 0 x1.1.f1.length 3 (x1.1.f1.length * 3))])] ⟨12, [(.ag [(S x6.1.f0), (.sl true x6.1.f1.length 3 (x6.1.f1.flatMap e48))]), (.ag [(S x1.1.f0), (.sl true x1.1.f1.length 3 (x1.1.f1.flatMap e48))])], [], (B x7), [], [1001025, 1004097], [], [], (B x7), []⟩, (B (!x7) : V) = B true], [⟨12, [(.ag [(S x6.1.f0), (.sl true x6.1.f1.length 3 (x6.1.f1.flatMap e48))]), (.ag [(S x1.1.f0), (.sl true x1.1.f1.length 3 (x1.1.f1.flatMap e48))])], [], (B x7), [], [1001025, 1004097], [], [], (B x7), []⟩]⟩ [c_ 32765, c_ 16383] (alc ⟨rfl, by decide⟩ (alc ⟨rfl, by decide⟩ (alc (cok0 false (a2c (cnv_ag (a2c (.z .s) (a2c (.z (frz_rf (k := 1004097) e48_ok (by simp) rfl rfl (row_len e48_ok _).symm)) a2n))) (a2c (cnv_ag (a2c (.z .s) (a2c (.z (frz_rf (k := 1001025) e48_ok (by simp) rfl rfl (row_len e48_ok _).symm)) a2n))) a2n)) (.z .s) (fun h => absurd h (by decide))) (alc (bT (nT (vF c6))) aln)))) (acal (laws_eqTrip.J k x6.1 x1.1 _ hx7) nocal) ?_
              refine .cond' (.tmp 57) true [c_ 131060, c_ 131061, c_ 16383] (rfl) ?_
              refine .reg' [2] [] ⟨[(2, (B false))], [(1001025, (x1.1.f1.flatMap e48)), (1029, [(S x1.1.f0), (.rf 1001025 0 x1.1.f1.length 3 (x1.1.f1.length * 3))]), (1001281, (x4.2.flatMap e48)), (1285, [(S x2.1.f0), (.rf 1001281 0 x4.2.length 3 (x4.2.length * 3))]), (1004097, (x6.1.f1.flatMap e48)), (4101, [(S x6.1.f0), (.rf 1004097 0 x6.1.f1.length 3 (x6.1.f1.length * 3))])], [], []⟩ [c_ 131061, c_ 16383] aln nocal ?_
              have h := Option.some.inj h
              subst h
              exact .fin0 [] (B false) [] aln (.z .s)
          · rw [if_neg c5] at h
            refine .cond' (.tmp 43) true [c_ 32756, c_ 32757, c_ 4095] (bT (nT (qF c5))) ?_
            refine .reg' [2] [] ⟨[(2, (B false))], [(1001025, (x1.1.f1.flatMap e48)), (1029, [(S x1.1.f0), (.rf 1001025 0 x1.1.f1.length 3 (x1.1.f1.length * 3))]), (1001281, (x4.2.flatMap e48)), (1285, [(S x2.1.f0), (.rf 1001281 0 x4.2.length 3 (x4.2.length * 3))])], [], []⟩ [c_ 32757, c_ 4095] aln nocal ?_
            have h := Option.some.inj h
            subst h
            exact .fin0 [] (B false) [] aln (.z .s)
      · rw [if_neg c3] at h
        refine .cond' (.tmp 32) true [c_ 500, c_ 501, c_ 63] (bT (nT (vF c3))) ?_
        refine .reg' [2] [] ⟨[(2, (B false))], [(1001025, (x1.1.f1.flatMap e48)), (1029, [(S x1.1.f0), (.rf 1001025 0 x1.1.f1.length 3 (x1.1.f1.length * 3))]), (1001281, (x2.1.f1.flatMap e48)), (1285, [(S x2.1.f0), (.rf 1001281 0 x2.1.f1.length 3 (x2.1.f1.length * 3))])], [], []⟩ [c_ 501, c_ 63] aln nocal ?_
        have h := Option.some.inj h
        subst h
        exact .fin0 [] (B false) [] aln (.z .s)
    · rw [if_neg c2] at h
      refine .reg' [0, 3, 4, 5, 32] [.no, .no, .c ⟨12, [(.ag [(S x2.1.f0), (.sl true x2.1.f1.length 3 (x2.1.f1.flatMap e48))]), (.ag [(S x1.1.f0), (.sl true x1.1.f1.length 3 (x1.1.f1.flatMap e48))])], [], (B x3), [], [1001025, 1001281], [], [], (B x3), []⟩, .no, .v (B true)] ⟨[(0, (S a0)), (3, (.pt 1029 0 2)), (4, (B x1.2)), (5, (.pt 1285 0 2)), (32, (B true))], [(1001025, (x1.1.f1.flatMap e48)), (1029, [(S x1.1.f0), (.rf 1001025 0 x1.1.f1.length 3 (x1.1.f1.length * 3))]), (1001281, (x2.1.f1.flatMap e48)), (1285, [(S x2.1.f0), (.rf 1001281 0 x2.1.f1.length 3 (x2.1.f1.length * 3))])], [2 = 2 ∧ 0 + 2 ≤ 2, 2 = 2 ∧ 0 + 2 ≤ 2, COK (hget [(1001025, (x1.1.f1.flatMap e48)), (1029, [(S x1.1.f0), (.rf 1001025 0 x1.1.f1.length 3 (x1.1.f1.length * 3))]), (1001281, (x2.1.f1.flatMap e48)), (1285, [(S x2.1.f0), (.rf 1001281 0 x2.1.f1.length 3 (x2.1.f1.length * 3))])]) [(.ag [(S x2.1.f0), (.rf 1001281 0 x2.1.f1.length 3 (x2.1.f1.length * 3))]), (.ag [(S x1.1.f0), (.rf 1001025 0 x1.1.f1.length 3 (x1.1.f1.length * 3))])] ⟨12, [(.ag [(S x2.1.f0), (.sl true x2.1.f1.length 3 (x2.1.f1.flatMap e48))]), (.ag [(S x1.1.f0), (.sl true x1.1.f1.length 3 (x1.1.f1.flatMap e48))])], [], (B x3), [], [1001025, 1001281], [], [], (B x3), []⟩, (B (!x3) : V) = B true], [⟨12, [(.ag [(S x2.1.f0), (.sl true x2.1.f1.length 3 (x2.1.f1.flatMap e48))]), (.ag [(S x1.1.f0), (.sl true x1.1.f1.length 3 (x1.1.f1.flatMap e48))])], [], (B x3), [], [1001025, 1001281], [], [], (B x3), []⟩]⟩ [c_ 125, c_ 63] (alc ⟨rfl, by decide⟩ (alc ⟨rfl, by decide⟩ (alc (cok0 false (a2c (cnv_ag (a2c (.z .s) (a2c (.z (frz_rf (k := 1001281) e48_ok (by simp) rfl rfl (row_len e48_ok _).symm)) a2n))) (a2c (cnv_ag (a2c (.z .s) (a2c (.z (frz_rf (k := 1001025) e48_ok (by simp) rfl rfl (row_len e48_ok _).symm)) a2n))) a2n)) (.z .s) (fun h => absurd h (by decide))) (alc (bT (nT (vF c2))) aln)))) (acal (laws_eqTrip.J k x2.1 x1.1 _ hx3) nocal) ?_
      refine .cond' (.tmp 32) true [c_ 500, c_ 501, c_ 63] (rfl) ?_
      refine .reg' [2] [] ⟨[(2, (B false))], [(1001025, (x1.1.f1.flatMap e48)), (1029, [(S x1.1.f0), (.rf 1001025 0 x1.1.f1.length 3 (x1.1.f1.length * 3))]), (1001281, (x2.1.f1.flatMap e48)), (1285, [(S x2.1.f0), (.rf 1001281 0 x2.1.f1.length 3 (x2.1.f1.length * 3))])], [], []⟩ [c_ 501, c_ 63] aln nocal ?_
      have h := Option.some.inj h
      subst h
      exact .fin0 [] (B false) [] aln (.z .s)
end Go.Proofs.YtjlickinmkafbaaDoor.Fns
