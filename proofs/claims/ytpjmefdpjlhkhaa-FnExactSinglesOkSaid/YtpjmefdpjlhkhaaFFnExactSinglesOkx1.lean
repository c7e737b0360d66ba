/- The functions that the law FnExactSinglesOk reaches, by the engine. Printed by a program of this seat. -/
import Derived.Test.YtpjmefdpjlhkhaaE5
import Derived.Test.YtpjmefdpjlhkhaaProg
import Derived.Test.YtpjmefdpjlhkhaaFFnExactSinglesOkx0
namespace Go.Proofs.Ytpjmefdpjlhkhaa.Fns
open Go.Proofs.Try Go.Proofs.Ytpjmefdpjlhkhaa.Eng Go.RowKit
set_option maxRecDepth 100000
set_option linter.unusedVariables false
set_option linter.unusedSimpArgs false
theorem laws_eqSingleS.lab : ∀ k, (∀ (a0 : (List S44)) (a1 : (List S44)) (x1 : Int) (r : Bool), laws_eqSingleS.l0 k a0 a1 x1 = some r → J prog (.run 18 [] [l_ 58, b_ 0, c_ 15] [(0, (.sl true a0.length 2 (a0.flatMap e44))), (1, (.sl true a1.length 2 (a1.flatMap e44))), (5, (I x1))] [] (B r) []))
 | 0 => (by intro a0 a1 x1 r h; unfold laws_eqSingleS.l0 at h; cases h)
 | k + 1 => by
  have ih := laws_eqSingleS.lab k
  have ih0 := ih
  · intro a0 a1 x1 r h
    unfold laws_eqSingleS.l0 at h
    refine .loop' [c_ 464, c_ 465, c_ 233, l_ 58, b_ 0, c_ 15] ?_
    refine .reg' [0, 1, 5, 14] [] ⟨[(0, (.sl true a0.length 2 (a0.flatMap e44))), (1, (.sl true a1.length 2 (a1.flatMap e44))), (5, (I x1)), (14, (B (decide (x1 < (a0.length : Int)))))], [], [], []⟩ [c_ 465, c_ 233, l_ 58, b_ 0, c_ 15] aln nocal ?_
    by_cases c2 : x1 < (a0.length : Int)
    · rw [if_pos c2] at h
      refine .cond' (.tmp 14) true [c_ 1864, c_ 1865, b_ 1, c_ 467, l_ 58, b_ 0, c_ 15] (bT (dT c2)) ?_
      by_cases c3 : 0 ≤ x1
      · rw [if_pos c3] at h
        by_cases c4 : x1 < (a1.length : Int)
        · rw [if_pos c4] at h
          obtain ⟨x2, hx2, h⟩ := Option.bind_eq_some_iff.mp h
          refine .reg' [0, 1, 5, 26] [.no, .no, .no, .v (.ag [(I (at_ a0 x1).f0), (I (at_ a0 x1).f1)]), .no, .no, .no, .v (.ag [(I (at_ a1 x1).f0), (I (at_ a1 x1).f1)]), .c ⟨44, [(.ag [(I (at_ a0 x1).f0), (I (at_ a0 x1).f1)]), (.ag [(I (at_ a1 x1).f0), (I (at_ a1 x1).f1)])], [], (B x2), [], [], [], [], (B x2), []⟩] ⟨[(0, (.sl true a0.length 2 (a0.flatMap e44))), (1, (.sl true a1.length 2 (a1.flatMap e44))), (5, (I x1)), (26, (B (!x2)))], [], [(0 : Int) ≤ x1 ∧ x1 < (a0.length : Int), rdC prog 45 ((a0.flatMap e44).drop (x1.toNat * 2)) = (.ag [(I (at_ a0 x1).f0), (I (at_ a0 x1).f1)]), 2 ≤ ((a0.flatMap e44).drop (x1.toNat * 2)).length, (0 : Int) ≤ x1 ∧ x1 < (a1.length : Int), rdC prog 45 ((a1.flatMap e44).drop (x1.toNat * 2)) = (.ag [(I (at_ a1 x1).f0), (I (at_ a1 x1).f1)]), 2 ≤ ((a1.flatMap e44).drop (x1.toNat * 2)).length, COK (hget []) [(.ag [(I (at_ a0 x1).f0), (I (at_ a0 x1).f1)]), (.ag [(I (at_ a1 x1).f0), (I (at_ a1 x1).f1)])] ⟨44, [(.ag [(I (at_ a0 x1).f0), (I (at_ a0 x1).f1)]), (.ag [(I (at_ a1 x1).f0), (I (at_ a1 x1).f1)])], [], (B x2), [], [], [], [], (B x2), []⟩], [⟨44, [(.ag [(I (at_ a0 x1).f0), (I (at_ a0 x1).f1)]), (.ag [(I (at_ a1 x1).f0), (I (at_ a1 x1).f1)])], [], (B x2), [], [], [], [], (B x2), []⟩]⟩ [c_ 1865, b_ 1, c_ 467, l_ 58, b_ 0, c_ 15] (alc ⟨c3, c2⟩ (alc (ldA e44_ok rfl rfl c3 c2) (alc (okI e44_ok c3 c2 (by decide)) (alc ⟨c3, c4⟩ (alc (ldA e44_ok rfl rfl c3 c4) (alc (okI e44_ok c3 c4 (by decide)) (alc (cok0 false (a2c (.z (frz_ag (a2c .s (a2c .s a2n)))) (a2c (.z (frz_ag (a2c .s (a2c .s a2n)))) a2n)) (.z .s) (fun h => absurd h (by decide))) aln))))))) (acal (laws_eqSingle.J (at_ a0 x1) (at_ a1 x1) _ hx2) nocal) ?_
          by_cases c5 : x2 = true
          · rw [if_pos c5] at h
            refine .cond' (.tmp 26) false [c_ 467, l_ 58, b_ 0, c_ 15] (bF (nF c5)) ?_
            refine .reg' [0, 1, 5] [] ⟨[(0, (.sl true a0.length 2 (a0.flatMap e44))), (1, (.sl true a1.length 2 (a1.flatMap e44))), (5, (I (wrap64 (x1 + 1))))], [], [], []⟩ [l_ 58, b_ 0, c_ 15] aln nocal ?_
            exact ih0 a0 a1 (wrap64 (x1 + 1)) _ h
          · rw [if_neg c5] at h
            refine .cond' (.tmp 26) true [c_ 7460, c_ 7461, b_ 1, c_ 467, l_ 58, b_ 0, c_ 15] (bT (nT (vF c5))) ?_
            refine .reg' [4] [] ⟨[(4, (B false))], [], [], []⟩ [c_ 7461, b_ 1, c_ 467, l_ 58, b_ 0, c_ 15] aln nocal ?_
            have h := Option.some.inj h
            subst h
            exact .fin0 [] (B false) [] aln (.z .s)
        · rw [if_neg c4] at h
          cases h
      · rw [if_neg c3] at h
        cases h
    · rw [if_neg c2] at h
      refine .cond' (.tmp 14) false [c_ 30, c_ 31] (bF (dF c2)) ?_
      refine .reg' [4] [] ⟨[(4, (B true))], [], [], []⟩ [c_ 31] aln nocal ?_
      have h := Option.some.inj h
      subst h
      exact .fin0 [] (B true) [] aln (.z .s)
theorem laws_eqSingleS.J (k : Nat) (a0 : (List S44)) (a1 : (List S44)) (r : Bool) (h : laws_eqSingleS.f k a0 a1 = some r) : J prog (.call 18 [(.sl true a0.length 2 (a0.flatMap e44)), (.sl true a1.length 2 (a1.flatMap e44))] [] (B r) []) := by
  unfold laws_eqSingleS.f at h
  have ih0 := laws_eqSingleS.lab k
  refine .call' [c_ 2, c_ 3] ?_
  refine .reg' [0, 1] [] ⟨[(0, (.sl true a0.length 2 (a0.flatMap e44))), (1, (.sl true a1.length 2 (a1.flatMap e44)))], [], [], []⟩ [c_ 12, c_ 13, c_ 7] aln nocal ?_
  refine .reg' [0, 1, 10] [] ⟨[(0, (.sl true a0.length 2 (a0.flatMap e44))), (1, (.sl true a1.length 2 (a1.flatMap e44))), (10, (B (!((a0.length : Int) == (a1.length : Int)))))], [], [], []⟩ [c_ 13, c_ 7] aln nocal ?_
  by_cases c1 : (a0.length : Int) = (a1.length : Int)
  · rw [if_pos c1] at h
    refine .cond' (.tmp 10) false [c_ 28, c_ 29, c_ 15] (bF (nF (qT c1))) ?_
    refine .reg' [0, 1, 5] [] ⟨[(0, (.sl true a0.length 2 (a0.flatMap e44))), (1, (.sl true a1.length 2 (a1.flatMap e44))), (5, (I 0))], [], [], []⟩ [l_ 58, b_ 0, c_ 15] aln nocal ?_
    exact ih0 a0 a1 0 _ h
  · rw [if_neg c1] at h
    refine .cond' (.tmp 10) true [c_ 52, c_ 53, c_ 7] (bT (nT (qF c1))) ?_
    refine .reg' [4] [] ⟨[(4, (B false))], [], [], []⟩ [c_ 53, c_ 7] aln nocal ?_
    have h := Option.some.inj h
    subst h
    exact .fin0 [] (B false) [] aln (.z .s)
/-! laws_FnExactSinglesOk: function 3 -/
def laws_FnExactSinglesOk.f (k : Nat) (a0 : (List Int)) (a1 : (List S44)) : Option Bool := (if (a0.length : Int) > 1048576 then (some true) else ((laws_szSingleS.f a1 1048576).bind fun x1 => (if x1 < 0 then (some true) else ((laws_toIntS.f k a0).bind fun x2 => ((laws_toSingleS.f k a1).bind fun x3 => ((spec_SinglesOk.f k x2 x3).bind fun x4 => ((laws_toIntS.f k a0).bind fun x5 => ((laws_toSingleS.f k a1).bind fun x6 => ((impl_SinglesOk.f k x5 x6).bind fun x7 => (if (x7 == x4) = true then ((laws_toIntS.f k a0).bind fun x8 => ((laws_eqIntS.f k x5 x8).bind fun x9 => (if x9 = true then ((laws_toSingleS.f k a1).bind fun x10 => ((laws_eqSingleS.f k x6 x10).bind fun x11 => (if x11 = true then (some true) else (some false)))) else (some false)))) else (some false)))))))))))
theorem laws_FnExactSinglesOk.J (k : Nat) (a0 : (List Int)) (a1 : (List S44)) (r : Bool) (h : laws_FnExactSinglesOk.f k a0 a1 = some r) : J prog (.call 3 [(.sl true a0.length 1 (a0.flatMap encI)), (.sl true a1.length 2 (a1.flatMap e44))] [] (B r) []) := by
  unfold laws_FnExactSinglesOk.f at h
  refine .call' [c_ 2, c_ 3] ?_
  refine .reg' [0, 1] [] ⟨[(0, (.sl true a0.length 1 (a0.flatMap encI))), (1, (.sl true a1.length 2 (a1.flatMap e44)))], [], [], []⟩ [c_ 12, c_ 13, c_ 7] aln nocal ?_
  refine .reg' [0, 1, 12] [] ⟨[(0, (.sl true a0.length 1 (a0.flatMap encI))), (1, (.sl true a1.length 2 (a1.flatMap e44))), (12, (B (decide ((a0.length : Int) > 1048576))))], [], [], []⟩ [c_ 13, c_ 7] aln nocal ?_
  by_cases c1 : (a0.length : Int) > 1048576
  · rw [if_pos c1] at h
    refine .cond' (.tmp 12) true [c_ 52, c_ 53, c_ 7] (bT (dT c1)) ?_
    refine .reg' [4] [] ⟨[(4, (B true))], [], [], []⟩ [c_ 53, c_ 7] aln nocal ?_
    have h := Option.some.inj h
    subst h
    exact .fin0 [] (B true) [] aln (.z .s)
  · rw [if_neg c1] at h
    refine .cond' (.tmp 12) false [c_ 14, c_ 15] (bF (dF c1)) ?_
    refine .reg' [0, 1, 5] [] ⟨[(0, (.sl true a0.length 1 (a0.flatMap encI))), (1, (.sl true a1.length 2 (a1.flatMap e44))), (5, (I 1048576))], [], [], []⟩ [c_ 30, c_ 31] aln nocal ?_
    obtain ⟨x1, hx1, h⟩ := Option.bind_eq_some_iff.mp h
    refine .reg' [0, 1, 5] [.no, .no, .c ⟨12, [(.sl true a1.length 2 (a1.flatMap e44)), (I 1048576)], [], (I x1), [], [], [], [], (I x1), []⟩] ⟨[(0, (.sl true a0.length 1 (a0.flatMap encI))), (1, (.sl true a1.length 2 (a1.flatMap e44))), (5, (I x1))], [], [COK (hget []) [(.sl true a1.length 2 (a1.flatMap e44)), (I 1048576)] ⟨12, [(.sl true a1.length 2 (a1.flatMap e44)), (I 1048576)], [], (I x1), [], [], [], [], (I x1), []⟩], [⟨12, [(.sl true a1.length 2 (a1.flatMap e44)), (I 1048576)], [], (I x1), [], [], [], [], (I x1), []⟩]⟩ [c_ 124, c_ 125, c_ 63] (alc (cok0 false (a2c (.z (frz_sl e44_ok (fun h => h))) (a2c (.z .s) a2n)) (.z .s) (fun h => absurd h (by decide))) aln) (acal (laws_szSingleS.J a1 1048576 _ hx1) nocal) ?_
    refine .reg' [0, 1, 17] [] ⟨[(0, (.sl true a0.length 1 (a0.flatMap encI))), (1, (.sl true a1.length 2 (a1.flatMap e44))), (17, (B (decide (x1 < 0))))], [], [], []⟩ [c_ 125, c_ 63] aln nocal ?_
    by_cases c2 : x1 < 0
    · rw [if_pos c2] at h
      refine .cond' (.tmp 17) true [c_ 500, c_ 501, c_ 63] (bT (dT c2)) ?_
      refine .reg' [4] [] ⟨[(4, (B true))], [], [], []⟩ [c_ 501, c_ 63] aln nocal ?_
      have h := Option.some.inj h
      subst h
      exact .fin0 [] (B true) [] aln (.z .s)
    · rw [if_neg c2] at h
      refine .cond' (.tmp 17) false [c_ 126, c_ 127] (bF (dF c2)) ?_
      obtain ⟨x2, hx2, h⟩ := Option.bind_eq_some_iff.mp h
      obtain ⟨x3, hx3, h⟩ := Option.bind_eq_some_iff.mp h
      obtain ⟨x4, hx4, h⟩ := Option.bind_eq_some_iff.mp h
      refine .reg' [0, 1, 6] [.no, .c ⟨14, [(.sl true a0.length 1 (a0.flatMap encI))], [], (.rf 514 0 x2.length 1 (x2.length * 1)), [(514, (x2.flatMap encI))], [], [], [(1002049, 514)], (.rf 1002049 0 x2.length 1 (x2.length * 1)), [(1002049, (x2.flatMap encI))]⟩, .no, .c ⟨15, [(.sl true a1.length 2 (a1.flatMap e44))], [], (.rf 514 0 x3.length 2 (x3.length * 2)), [(514, (x3.flatMap e44))], [], [], [(1002051, 514)], (.rf 1002051 0 x3.length 2 (x3.length * 2)), [(1002051, (x3.flatMap e44))]⟩, .c ⟨13, [(.sl true x2.length 1 (x2.flatMap encI)), (.sl true x3.length 2 (x3.flatMap e44))], [], (B x4), [], [1002049, 1002051], [], [], (B x4), []⟩] ⟨[(0, (.sl true a0.length 1 (a0.flatMap encI))), (1, (.sl true a1.length 2 (a1.flatMap e44))), (6, (B x4))], [(1002049, (x2.flatMap encI)), (1002051, (x3.flatMap e44))], [COK (hget []) [(.sl true a0.length 1 (a0.flatMap encI))] ⟨14, [(.sl true a0.length 1 (a0.flatMap encI))], [], (.rf 514 0 x2.length 1 (x2.length * 1)), [(514, (x2.flatMap encI))], [], [], [(1002049, 514)], (.rf 1002049 0 x2.length 1 (x2.length * 1)), [(1002049, (x2.flatMap encI))]⟩, COK (hget [(1002049, (x2.flatMap encI))]) [(.sl true a1.length 2 (a1.flatMap e44))] ⟨15, [(.sl true a1.length 2 (a1.flatMap e44))], [], (.rf 514 0 x3.length 2 (x3.length * 2)), [(514, (x3.flatMap e44))], [], [], [(1002051, 514)], (.rf 1002051 0 x3.length 2 (x3.length * 2)), [(1002051, (x3.flatMap e44))]⟩, COK (hget [(1002049, (x2.flatMap encI)), (1002051, (x3.flatMap e44))]) [(.rf 1002049 0 x2.length 1 (x2.length * 1)), (.rf 1002051 0 x3.length 2 (x3.length * 2))] ⟨13, [(.sl true x2.length 1 (x2.flatMap encI)), (.sl true x3.length 2 (x3.flatMap e44))], [], (B x4), [], [1002049, 1002051], [], [], (B x4), []⟩], [⟨14, [(.sl true a0.length 1 (a0.flatMap encI))], [], (.rf 514 0 x2.length 1 (x2.length * 1)), [(514, (x2.flatMap encI))], [], [], [(1002049, 514)], (.rf 1002049 0 x2.length 1 (x2.length * 1)), [(1002049, (x2.flatMap encI))]⟩, ⟨15, [(.sl true a1.length 2 (a1.flatMap e44))], [], (.rf 514 0 x3.length 2 (x3.length * 2)), [(514, (x3.flatMap e44))], [], [], [(1002051, 514)], (.rf 1002051 0 x3.length 2 (x3.length * 2)), [(1002051, (x3.flatMap e44))]⟩, ⟨13, [(.sl true x2.length 1 (x2.flatMap encI)), (.sl true x3.length 2 (x3.flatMap e44))], [], (B x4), [], [1002049, 1002051], [], [], (B x4), []⟩]⟩ [c_ 254, c_ 255] (alc (cokW false (a2c (.z (frz_sl encI_ok (fun h => h))) a2n) akn (akc (.inr rfl) akn) (.rf (memP_mem (p := (1002049, 514)) rfl)) (akc ⟨_, _, rfl, rfl, rowB encI_c _⟩ akn) (fun h => absurd h (by decide))) (alc (cokW false (a2c (.z (frz_sl e44_ok (fun h => h))) a2n) akn (akc (.inr rfl) akn) (.rf (memP_mem (p := (1002051, 514)) rfl)) (akc ⟨_, _, rfl, rfl, rowB e44_c _⟩ akn) (fun h => absurd h (by decide))) (alc (cok0 false (a2c (.z (frz_rf encI_ok (by simp) rfl rfl (row_len encI_ok _).symm)) (a2c (.z (frz_rf e44_ok (by simp) rfl rfl (row_len e44_ok _).symm)) a2n)) (.z .s) (fun h => absurd h (by decide))) aln))) (acal (laws_toIntS.J k a0 _ hx2) (acal (laws_toSingleS.J k a1 _ hx3) (acal (spec_SinglesOk.J k x2 x3 _ hx4) nocal))) ?_
      obtain ⟨x5, hx5, h⟩ := Option.bind_eq_some_iff.mp h
      refine .reg' [0, 1, 6, 7] [.no, .c ⟨14, [(.sl true a0.length 1 (a0.flatMap encI))], [], (.rf 514 0 x5.length 1 (x5.length * 1)), [(514, (x5.flatMap encI))], [], [], [(1002305, 514)], (.rf 1002305 0 x5.length 1 (x5.length * 1)), [(1002305, (x5.flatMap encI))]⟩] ⟨[(0, (.sl true a0.length 1 (a0.flatMap encI))), (1, (.sl true a1.length 2 (a1.flatMap e44))), (6, (B x4)), (7, (.rf 1002305 0 x5.length 1 (x5.length * 1)))], [(1002049, (x2.flatMap encI)), (1002051, (x3.flatMap e44)), (1002305, (x5.flatMap encI))], [COK (hget [(1002049, (x2.flatMap encI)), (1002051, (x3.flatMap e44))]) [(.sl true a0.length 1 (a0.flatMap encI))] ⟨14, [(.sl true a0.length 1 (a0.flatMap encI))], [], (.rf 514 0 x5.length 1 (x5.length * 1)), [(514, (x5.flatMap encI))], [], [], [(1002305, 514)], (.rf 1002305 0 x5.length 1 (x5.length * 1)), [(1002305, (x5.flatMap encI))]⟩], [⟨14, [(.sl true a0.length 1 (a0.flatMap encI))], [], (.rf 514 0 x5.length 1 (x5.length * 1)), [(514, (x5.flatMap encI))], [], [], [(1002305, 514)], (.rf 1002305 0 x5.length 1 (x5.length * 1)), [(1002305, (x5.flatMap encI))]⟩]⟩ [c_ 510, c_ 511] (alc (cokW false (a2c (.z (frz_sl encI_ok (fun h => h))) a2n) akn (akc (.inr rfl) akn) (.rf (memP_mem (p := (1002305, 514)) rfl)) (akc ⟨_, _, rfl, rfl, rowB encI_c _⟩ akn) (fun h => absurd h (by decide))) aln) (acal (laws_toIntS.J k a0 _ hx5) nocal) ?_
      obtain ⟨x6, hx6, h⟩ := Option.bind_eq_some_iff.mp h
      refine .reg' [0, 1, 6, 7, 8] [.no, .c ⟨15, [(.sl true a1.length 2 (a1.flatMap e44))], [], (.rf 514 0 x6.length 2 (x6.length * 2)), [(514, (x6.flatMap e44))], [], [], [(1002561, 514)], (.rf 1002561 0 x6.length 2 (x6.length * 2)), [(1002561, (x6.flatMap e44))]⟩] ⟨[(0, (.sl true a0.length 1 (a0.flatMap encI))), (1, (.sl true a1.length 2 (a1.flatMap e44))), (6, (B x4)), (7, (.rf 1002305 0 x5.length 1 (x5.length * 1))), (8, (.rf 1002561 0 x6.length 2 (x6.length * 2)))], [(1002049, (x2.flatMap encI)), (1002051, (x3.flatMap e44)), (1002305, (x5.flatMap encI)), (1002561, (x6.flatMap e44))], [COK (hget [(1002049, (x2.flatMap encI)), (1002051, (x3.flatMap e44)), (1002305, (x5.flatMap encI))]) [(.sl true a1.length 2 (a1.flatMap e44))] ⟨15, [(.sl true a1.length 2 (a1.flatMap e44))], [], (.rf 514 0 x6.length 2 (x6.length * 2)), [(514, (x6.flatMap e44))], [], [], [(1002561, 514)], (.rf 1002561 0 x6.length 2 (x6.length * 2)), [(1002561, (x6.flatMap e44))]⟩], [⟨15, [(.sl true a1.length 2 (a1.flatMap e44))], [], (.rf 514 0 x6.length 2 (x6.length * 2)), [(514, (x6.flatMap e44))], [], [], [(1002561, 514)], (.rf 1002561 0 x6.length 2 (x6.length * 2)), [(1002561, (x6.flatMap e44))]⟩]⟩ [c_ 1022, c_ 1023] (alc (cokW false (a2c (.z (frz_sl e44_ok (fun h => h))) a2n) akn (akc (.inr rfl) akn) (.rf (memP_mem (p := (1002561, 514)) rfl)) (akc ⟨_, _, rfl, rfl, rowB e44_c _⟩ akn) (fun h => absurd h (by decide))) aln) (acal (laws_toSingleS.J k a1 _ hx6) nocal) ?_
      obtain ⟨x7, hx7, h⟩ := Option.bind_eq_some_iff.mp h
      refine .reg' [0, 1, 6, 7, 8, 9] [.no, .no, .c ⟨16, [(.sl true x5.length 1 (x5.flatMap encI)), (.sl true x6.length 2 (x6.flatMap e44))], [], (B x7), [], [1002305, 1002561], [], [], (B x7), []⟩] ⟨[(0, (.sl true a0.length 1 (a0.flatMap encI))), (1, (.sl true a1.length 2 (a1.flatMap e44))), (6, (B x4)), (7, (.rf 1002305 0 x5.length 1 (x5.length * 1))), (8, (.rf 1002561 0 x6.length 2 (x6.length * 2))), (9, (B x7))], [(1002049, (x2.flatMap encI)), (1002051, (x3.flatMap e44)), (1002305, (x5.flatMap encI)), (1002561, (x6.flatMap e44))], [COK (hget [(1002049, (x2.flatMap encI)), (1002051, (x3.flatMap e44)), (1002305, (x5.flatMap encI)), (1002561, (x6.flatMap e44))]) [(.rf 1002305 0 x5.length 1 (x5.length * 1)), (.rf 1002561 0 x6.length 2 (x6.length * 2))] ⟨16, [(.sl true x5.length 1 (x5.flatMap encI)), (.sl true x6.length 2 (x6.flatMap e44))], [], (B x7), [], [1002305, 1002561], [], [], (B x7), []⟩], [⟨16, [(.sl true x5.length 1 (x5.flatMap encI)), (.sl true x6.length 2 (x6.flatMap e44))], [], (B x7), [], [1002305, 1002561], [], [], (B x7), []⟩]⟩ [c_ 4092, c_ 4093, c_ 2047] (alc (cok0 false (a2c (.z (frz_rf encI_ok (by simp) rfl rfl (row_len encI_ok _).symm)) (a2c (.z (frz_rf e44_ok (by simp) rfl rfl (row_len e44_ok _).symm)) a2n)) (.z .s) (fun h => absurd h (by decide))) aln) (acal (impl_SinglesOk.J k x5 x6 _ hx7) nocal) ?_
      refine .reg' [0, 1, 7, 8, 32] [] ⟨[(0, (.sl true a0.length 1 (a0.flatMap encI))), (1, (.sl true a1.length 2 (a1.flatMap e44))), (7, (.rf 1002305 0 x5.length 1 (x5.length * 1))), (8, (.rf 1002561 0 x6.length 2 (x6.length * 2))), (32, (B (!(x7 == x4))))], [(1002049, (x2.flatMap encI)), (1002051, (x3.flatMap e44)), (1002305, (x5.flatMap encI)), (1002561, (x6.flatMap e44))], [], []⟩ [c_ 4093, c_ 2047] aln nocal ?_
      by_cases c3 : (x7 == x4) = true
      · rw [if_pos c3] at h
        refine .cond' (.tmp 32) false [c_ 8188, c_ 8189, c_ 4095] (bF (nF c3)) ?_
        obtain ⟨x8, hx8, h⟩ := Option.bind_eq_some_iff.mp h
        obtain ⟨x9, hx9, h⟩ := Option.bind_eq_some_iff.mp h
        refine .reg' [1, 8, 37] [.no, .no, .c ⟨14, [(.sl true a0.length 1 (a0.flatMap encI))], [], (.rf 514 0 x8.length 1 (x8.length * 1)), [(514, (x8.flatMap encI))], [], [], [(1003586, 514)], (.rf 1003586 0 x8.length 1 (x8.length * 1)), [(1003586, (x8.flatMap encI))]⟩, .c ⟨17, [(.sl true x5.length 1 (x5.flatMap encI)), (.sl true x8.length 1 (x8.flatMap encI))], [], (B x9), [], [1002305, 1003586], [], [], (B x9), []⟩] ⟨[(1, (.sl true a1.length 2 (a1.flatMap e44))), (8, (.rf 1002561 0 x6.length 2 (x6.length * 2))), (37, (B (!x9)))], [(1002049, (x2.flatMap encI)), (1002051, (x3.flatMap e44)), (1002305, (x5.flatMap encI)), (1002561, (x6.flatMap e44)), (1003586, (x8.flatMap encI))], [COK (hget [(1002049, (x2.flatMap encI)), (1002051, (x3.flatMap e44)), (1002305, (x5.flatMap encI)), (1002561, (x6.flatMap e44))]) [(.sl true a0.length 1 (a0.flatMap encI))] ⟨14, [(.sl true a0.length 1 (a0.flatMap encI))], [], (.rf 514 0 x8.length 1 (x8.length * 1)), [(514, (x8.flatMap encI))], [], [], [(1003586, 514)], (.rf 1003586 0 x8.length 1 (x8.length * 1)), [(1003586, (x8.flatMap encI))]⟩, COK (hget [(1002049, (x2.flatMap encI)), (1002051, (x3.flatMap e44)), (1002305, (x5.flatMap encI)), (1002561, (x6.flatMap e44)), (1003586, (x8.flatMap encI))]) [(.rf 1002305 0 x5.length 1 (x5.length * 1)), (.rf 1003586 0 x8.length 1 (x8.length * 1))] ⟨17, [(.sl true x5.length 1 (x5.flatMap encI)), (.sl true x8.length 1 (x8.flatMap encI))], [], (B x9), [], [1002305, 1003586], [], [], (B x9), []⟩], [⟨14, [(.sl true a0.length 1 (a0.flatMap encI))], [], (.rf 514 0 x8.length 1 (x8.length * 1)), [(514, (x8.flatMap encI))], [], [], [(1003586, 514)], (.rf 1003586 0 x8.length 1 (x8.length * 1)), [(1003586, (x8.flatMap encI))]⟩, ⟨17, [(.sl true x5.length 1 (x5.flatMap encI)), (.sl true x8.length 1 (x8.flatMap encI))], [], (B x9), [], [1002305, 1003586], [], [], (B x9), []⟩]⟩ [c_ 8189, c_ 4095] (alc (cokW false (a2c (.z (frz_sl encI_ok (fun h => h))) a2n) akn (akc (.inr rfl) akn) (.rf (memP_mem (p := (1003586, 514)) rfl)) (akc ⟨_, _, rfl, rfl, rowB encI_c _⟩ akn) (fun h => absurd h (by decide))) (alc (cok0 false (a2c (.z (frz_rf encI_ok (by simp) rfl rfl (row_len encI_ok _).symm)) (a2c (.z (frz_rf encI_ok (by simp) rfl rfl (row_len encI_ok _).symm)) a2n)) (.z .s) (fun h => absurd h (by decide))) aln)) (acal (laws_toIntS.J k a0 _ hx8) (acal (laws_eqIntS.J k x5 x8 _ hx9) nocal)) ?_
        by_cases c4 : x9 = true
        · rw [if_pos c4] at h
          refine .cond' (.tmp 37) false [c_ 16380, c_ 16381, c_ 8191] (bF (nF c4)) ?_
          obtain ⟨x10, hx10, h⟩ := Option.bind_eq_some_iff.mp h
          obtain ⟨x11, hx11, h⟩ := Option.bind_eq_some_iff.mp h
          refine .reg' [42] [.no, .no, .c ⟨15, [(.sl true a1.length 2 (a1.flatMap e44))], [], (.rf 514 0 x10.length 2 (x10.length * 2)), [(514, (x10.flatMap e44))], [], [], [(1004098, 514)], (.rf 1004098 0 x10.length 2 (x10.length * 2)), [(1004098, (x10.flatMap e44))]⟩, .c ⟨18, [(.sl true x6.length 2 (x6.flatMap e44)), (.sl true x10.length 2 (x10.flatMap e44))], [], (B x11), [], [1002561, 1004098], [], [], (B x11), []⟩] ⟨[(42, (B (!x11)))], [(1002049, (x2.flatMap encI)), (1002051, (x3.flatMap e44)), (1002305, (x5.flatMap encI)), (1002561, (x6.flatMap e44)), (1003586, (x8.flatMap encI)), (1004098, (x10.flatMap e44))], [COK (hget [(1002049, (x2.flatMap encI)), (1002051, (x3.flatMap e44)), (1002305, (x5.flatMap encI)), (1002561, (x6.flatMap e44)), (1003586, (x8.flatMap encI))]) [(.sl true a1.length 2 (a1.flatMap e44))] ⟨15, [(.sl true a1.length 2 (a1.flatMap e44))], [], (.rf 514 0 x10.length 2 (x10.length * 2)), [(514, (x10.flatMap e44))], [], [], [(1004098, 514)], (.rf 1004098 0 x10.length 2 (x10.length * 2)), [(1004098, (x10.flatMap e44))]⟩, COK (hget [(1002049, (x2.flatMap encI)), (1002051, (x3.flatMap e44)), (1002305, (x5.flatMap encI)), (1002561, (x6.flatMap e44)), (1003586, (x8.flatMap encI)), (1004098, (x10.flatMap e44))]) [(.rf 1002561 0 x6.length 2 (x6.length * 2)), (.rf 1004098 0 x10.length 2 (x10.length * 2))] ⟨18, [(.sl true x6.length 2 (x6.flatMap e44)), (.sl true x10.length 2 (x10.flatMap e44))], [], (B x11), [], [1002561, 1004098], [], [], (B x11), []⟩], [⟨15, [(.sl true a1.length 2 (a1.flatMap e44))], [], (.rf 514 0 x10.length 2 (x10.length * 2)), [(514, (x10.flatMap e44))], [], [], [(1004098, 514)], (.rf 1004098 0 x10.length 2 (x10.length * 2)), [(1004098, (x10.flatMap e44))]⟩, ⟨18, [(.sl true x6.length 2 (x6.flatMap e44)), (.sl true x10.length 2 (x10.flatMap e44))], [], (B x11), [], [1002561, 1004098], [], [], (B x11), []⟩]⟩ [c_ 16381, c_ 8191] (alc (cokW false (a2c (.z (frz_sl e44_ok (fun h => h))) a2n) akn (akc (.inr rfl) akn) (.rf (memP_mem (p := (1004098, 514)) rfl)) (akc ⟨_, _, rfl, rfl, rowB e44_c _⟩ akn) (fun h => absurd h (by decide))) (alc (cok0 false (a2c (.z (frz_rf e44_ok (by simp) rfl rfl (row_len e44_ok _).symm)) (a2c (.z (frz_rf e44_ok (by simp) rfl rfl (row_len e44_ok _).symm)) a2n)) (.z .s) (fun h => absurd h (by decide))) aln)) (acal (laws_toSingleS.J k a1 _ hx10) (acal (laws_eqSingleS.J k x6 x10 _ hx11) nocal)) ?_
          by_cases c5 : x11 = true
          · rw [if_pos c5] at h
            refine .cond' (.tmp 42) false [c_ 16382, c_ 16383] (bF (nF c5)) ?_
            refine .reg' [4] [] ⟨[(4, (B true))], [(1002049, (x2.flatMap encI)), (1002051, (x3.flatMap e44)), (1002305, (x5.flatMap encI)), (1002561, (x6.flatMap e44)), (1003586, (x8.flatMap encI)), (1004098, (x10.flatMap e44))], [], []⟩ [c_ 16383] aln nocal ?_
            have h := Option.some.inj h
            subst h
            exact .fin0 [] (B true) [] aln (.z .s)
          · rw [if_neg c5] at h
            refine .cond' (.tmp 42) true [c_ 65524, c_ 65525, c_ 8191] (bT (nT (vF c5))) ?_
            refine .reg' [4] [] ⟨[(4, (B false))], [(1002049, (x2.flatMap encI)), (1002051, (x3.flatMap e44)), (1002305, (x5.flatMap encI)), (1002561, (x6.flatMap e44)), (1003586, (x8.flatMap encI)), (1004098, (x10.flatMap e44))], [], []⟩ [c_ 65525, c_ 8191] aln nocal ?_
            have h := Option.some.inj h
            subst h
            exact .fin0 [] (B false) [] aln (.z .s)
        · rw [if_neg c4] at h
          refine .cond' (.tmp 37) true [c_ 32756, c_ 32757, c_ 4095] (bT (nT (vF c4))) ?_
          refine .reg' [4] [] ⟨[(4, (B false))], [(1002049, (x2.flatMap encI)), (1002051, (x3.flatMap e44)), (1002305, (x5.flatMap encI)), (1002561, (x6.flatMap e44)), (1003586, (x8.flatMap encI))], [], []⟩ [c_ 32757, c_ 4095] aln nocal ?_
          have h := Option.some.inj h
          subst h
          exact .fin0 [] (B false) [] aln (.z .s)
      · rw [if_neg c3] at h
        refine .cond' (.tmp 32) true [c_ 16372, c_ 16373, c_ 2047] (bT (nT (vF c3))) ?_
        refine .reg' [4] [] ⟨[(4, (B false))], [(1002049, (x2.flatMap encI)), (1002051, (x3.flatMap e44)), (1002305, (x5.flatMap encI)), (1002561, (x6.flatMap e44))], [], []⟩ [c_ 16373, c_ 2047] aln nocal ?_
        have h := Option.some.inj h
        subst h
        exact .fin0 [] (B false) [] aln (.z .s)
end Go.Proofs.Ytpjmefdpjlhkhaa.Fns
