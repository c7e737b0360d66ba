/- The functions that the law FnExactBoard reaches, by the engine. Printed by a program of this seat. -/
import Derived.Test.YtoeedickghjdbaaE5
import Derived.Test.YtoeedickghjdbaaProg
import Derived.Test.YtoeedickghjdbaaFFnExactBoardx4
namespace Go.Proofs.Ytoeedickghjdbaa.Fns
open Go.Proofs.Try Go.Proofs.Ytoeedickghjdbaa.Eng Go.RowKit
set_option maxRecDepth 100000
set_option linter.unusedVariables false
set_option linter.unusedSimpArgs false
theorem laws_eqTrip.J (k : Nat) (a0 : S28) (a1 : S28) (r : Bool) (h : laws_eqTrip.f k a0 a1 = some r) : J prog (.call 15 [(.ag [(S a0.f0), (.sl true a0.f1.length 3 (a0.f1.flatMap e54))]), (.ag [(S a1.f0), (.sl true a1.f1.length 3 (a1.f1.flatMap e54))])] [] (B r) []) := by
  unfold laws_eqTrip.f at h
  refine .call' [c_ 2, c_ 3] ?_
  refine .reg' [2, 3] [] ⟨[(2, (.pt 256 0 2)), (3, (.pt 257 0 2))], [(256, [(S a0.f0), (.sl true a0.f1.length 3 (a0.f1.flatMap e54))]), (257, [(S a1.f0), (.sl true a1.f1.length 3 (a1.f1.flatMap e54))])], [], []⟩ [c_ 12, c_ 13, c_ 7] aln nocal ?_
  refine .reg' [2, 3, 9] [] ⟨[(2, (.pt 256 0 2)), (3, (.pt 257 0 2)), (9, (B (!(sEq a0.f0 a1.f0))))], [(256, [(S a0.f0), (.sl true a0.f1.length 3 (a0.f1.flatMap e54))]), (257, [(S a1.f0), (.sl true a1.f1.length 3 (a1.f1.flatMap e54))])], [2 = 2 ∧ 0 + 1 ≤ 2, 2 = 2 ∧ 0 + 1 ≤ 2], []⟩ [c_ 13, c_ 7] (alc ⟨rfl, by decide⟩ (alc ⟨rfl, by decide⟩ aln)) nocal ?_
  by_cases c1 : (sEq a0.f0 a1.f0) = true
  · rw [if_pos c1] at h
    refine .cond' (.tmp 9) false [c_ 28, c_ 29, c_ 15] (bF (nF c1)) ?_
    obtain ⟨x1, hx1, h⟩ := Option.bind_eq_some_iff.mp h
    refine .reg' [15] [.no, .no, .no, .no, .c ⟨46, [(.sl true a0.f1.length 3 (a0.f1.flatMap e54)), (.sl true a1.f1.length 3 (a1.f1.flatMap e54))], [], (B x1), [], [], [], [], (B x1), []⟩] ⟨[(15, (B (!x1)))], [(256, [(S a0.f0), (.sl true a0.f1.length 3 (a0.f1.flatMap e54))]), (257, [(S a1.f0), (.sl true a1.f1.length 3 (a1.f1.flatMap e54))])], [2 = 2 ∧ 1 + 1 ≤ 2, 2 = 2 ∧ 1 + 1 ≤ 2, COK (hget [(256, [(S a0.f0), (.sl true a0.f1.length 3 (a0.f1.flatMap e54))]), (257, [(S a1.f0), (.sl true a1.f1.length 3 (a1.f1.flatMap e54))])]) [(.sl true a0.f1.length 3 (a0.f1.flatMap e54)), (.sl true a1.f1.length 3 (a1.f1.flatMap e54))] ⟨46, [(.sl true a0.f1.length 3 (a0.f1.flatMap e54)), (.sl true a1.f1.length 3 (a1.f1.flatMap e54))], [], (B x1), [], [], [], [], (B x1), []⟩], [⟨46, [(.sl true a0.f1.length 3 (a0.f1.flatMap e54)), (.sl true a1.f1.length 3 (a1.f1.flatMap e54))], [], (B x1), [], [], [], [], (B x1), []⟩]⟩ [c_ 29, c_ 15] (alc ⟨rfl, by decide⟩ (alc ⟨rfl, by decide⟩ (alc (cok0 false (a2c (.z (frz_sl e54_ok (fun h => h))) (a2c (.z (frz_sl e54_ok (fun h => h))) a2n)) (.z .s) (fun h => absurd h (by decide))) aln))) (acal (laws_eqCallS.J k a0.f1 a1.f1 _ hx1) nocal) ?_
    by_cases c2 : x1 = true
    · rw [if_pos c2] at h
      refine .cond' (.tmp 15) false [c_ 30, c_ 31] (bF (nF c2)) ?_
      refine .reg' [4] [] ⟨[(4, (B true))], [(256, [(S a0.f0), (.sl true a0.f1.length 3 (a0.f1.flatMap e54))]), (257, [(S a1.f0), (.sl true a1.f1.length 3 (a1.f1.flatMap e54))])], [], []⟩ [c_ 31] aln nocal ?_
      have h := Option.some.inj h
      subst h
      exact .fin0 [] (B true) [] aln (.z .s)
    · rw [if_neg c2] at h
      refine .cond' (.tmp 15) true [c_ 116, c_ 117, c_ 15] (bT (nT (vF c2))) ?_
      refine .reg' [4] [] ⟨[(4, (B false))], [(256, [(S a0.f0), (.sl true a0.f1.length 3 (a0.f1.flatMap e54))]), (257, [(S a1.f0), (.sl true a1.f1.length 3 (a1.f1.flatMap e54))])], [], []⟩ [c_ 117, c_ 15] aln nocal ?_
      have h := Option.some.inj h
      subst h
      exact .fin0 [] (B false) [] aln (.z .s)
  · rw [if_neg c1] at h
    refine .cond' (.tmp 9) true [c_ 52, c_ 53, c_ 7] (bT (nT (vF c1))) ?_
    refine .reg' [4] [] ⟨[(4, (B false))], [(256, [(S a0.f0), (.sl true a0.f1.length 3 (a0.f1.flatMap e54))]), (257, [(S a1.f0), (.sl true a1.f1.length 3 (a1.f1.flatMap e54))])], [], []⟩ [c_ 53, c_ 7] aln nocal ?_
    have h := Option.some.inj h
    subst h
    exact .fin0 [] (B false) [] aln (.z .s)
/-! laws_eqTripS: function 22 -/
def laws_eqTripS.l0 : Nat → (List S28) → (List S28) → Int → Option Bool
 | 0, _, _, _ => none
 | k + 1, a0, a1, x1 => (if x1 < (a0.length : Int) then (if 0 ≤ x1 then (if x1 < (a1.length : Int) then ((laws_eqTrip.f k (at_ a0 x1) (at_ a1 x1)).bind fun x2 => (if x2 = true then (laws_eqTripS.l0 k a0 a1 (wrap64 (x1 + 1))) else (some false))) else none) else none) else (some true))
def laws_eqTripS.f (k : Nat) (a0 : (List S28)) (a1 : (List S28)) : Option Bool := (if (a0.length : Int) = (a1.length : Int) then (laws_eqTripS.l0 k a0 a1 0) else (some false))
theorem laws_eqTripS.lab : ∀ k, (∀ (a0 : (List S28)) (a1 : (List S28)) (x1 : Int) (r : Bool), laws_eqTripS.l0 k a0 a1 x1 = some r → J prog (.run 22 [] [l_ 58, b_ 0, c_ 15] [(0, (.sl true a0.length 2 (a0.flatMap (e28 true)))), (1, (.sl true a1.length 2 (a1.flatMap (e28 true)))), (5, (I x1))] [] (B r) []))
 | 0 => (by intro a0 a1 x1 r h; unfold laws_eqTripS.l0 at h; cases h)
 | k + 1 => by
  have ih0 := laws_eqTripS.lab k
  · intro a0 a1 x1 r h
    unfold laws_eqTripS.l0 at h
    refine .loop' [c_ 464, c_ 465, c_ 233, l_ 58, b_ 0, c_ 15] ?_
    refine .reg' [0, 1, 5, 14] [] ⟨[(0, (.sl true a0.length 2 (a0.flatMap (e28 true)))), (1, (.sl true a1.length 2 (a1.flatMap (e28 true)))), (5, (I x1)), (14, (B (decide (x1 < (a0.length : Int)))))], [], [], []⟩ [c_ 465, c_ 233, l_ 58, b_ 0, c_ 15] aln nocal ?_
    by_cases c2 : x1 < (a0.length : Int)
    · rw [if_pos c2] at h
      refine .cond' (.tmp 14) true [c_ 1864, c_ 1865, b_ 1, c_ 467, l_ 58, b_ 0, c_ 15] (bT (dT c2)) ?_
      by_cases c3 : 0 ≤ x1
      · rw [if_pos c3] at h
        by_cases c4 : x1 < (a1.length : Int)
        · rw [if_pos c4] at h
          obtain ⟨x2, hx2, h⟩ := Option.bind_eq_some_iff.mp h
          refine .reg' [0, 1, 5, 26] [.no, .no, .no, .v (.ag [(S (at_ a0 x1).f0), (.sl true (at_ a0 x1).f1.length 3 ((at_ a0 x1).f1.flatMap e54))]), .no, .no, .no, .v (.ag [(S (at_ a1 x1).f0), (.sl true (at_ a1 x1).f1.length 3 ((at_ a1 x1).f1.flatMap e54))]), .c ⟨15, [(.ag [(S (at_ a0 x1).f0), (.sl true (at_ a0 x1).f1.length 3 ((at_ a0 x1).f1.flatMap e54))]), (.ag [(S (at_ a1 x1).f0), (.sl true (at_ a1 x1).f1.length 3 ((at_ a1 x1).f1.flatMap e54))])], [], (B x2), [], [], [], [], (B x2), []⟩] ⟨[(0, (.sl true a0.length 2 (a0.flatMap (e28 true)))), (1, (.sl true a1.length 2 (a1.flatMap (e28 true)))), (5, (I x1)), (26, (B (!x2)))], [], [(0 : Int) ≤ x1 ∧ x1 < (a0.length : Int), rdC prog 29 ((a0.flatMap (e28 true)).drop (x1.toNat * 2)) = (.ag [(S (at_ a0 x1).f0), (.sl true (at_ a0 x1).f1.length 3 ((at_ a0 x1).f1.flatMap e54))]), 2 ≤ ((a0.flatMap (e28 true)).drop (x1.toNat * 2)).length, (0 : Int) ≤ x1 ∧ x1 < (a1.length : Int), rdC prog 29 ((a1.flatMap (e28 true)).drop (x1.toNat * 2)) = (.ag [(S (at_ a1 x1).f0), (.sl true (at_ a1 x1).f1.length 3 ((at_ a1 x1).f1.flatMap e54))]), 2 ≤ ((a1.flatMap (e28 true)).drop (x1.toNat * 2)).length, COK (hget []) [(.ag [(S (at_ a0 x1).f0), (.sl true (at_ a0 x1).f1.length 3 ((at_ a0 x1).f1.flatMap e54))]), (.ag [(S (at_ a1 x1).f0), (.sl true (at_ a1 x1).f1.length 3 ((at_ a1 x1).f1.flatMap e54))])] ⟨15, [(.ag [(S (at_ a0 x1).f0), (.sl true (at_ a0 x1).f1.length 3 ((at_ a0 x1).f1.flatMap e54))]), (.ag [(S (at_ a1 x1).f0), (.sl true (at_ a1 x1).f1.length 3 ((at_ a1 x1).f1.flatMap e54))])], [], (B x2), [], [], [], [], (B x2), []⟩], [⟨15, [(.ag [(S (at_ a0 x1).f0), (.sl true (at_ a0 x1).f1.length 3 ((at_ a0 x1).f1.flatMap e54))]), (.ag [(S (at_ a1 x1).f0), (.sl true (at_ a1 x1).f1.length 3 ((at_ a1 x1).f1.flatMap e54))])], [], (B x2), [], [], [], [], (B x2), []⟩]⟩ [c_ 1865, b_ 1, c_ 467, l_ 58, b_ 0, c_ 15] (alc ⟨c3, c2⟩ (alc (ldA (e28_ok true) rfl rfl c3 c2) (alc (okI (e28_ok true) c3 c2 (by decide)) (alc ⟨c3, c4⟩ (alc (ldA (e28_ok true) rfl rfl c3 c4) (alc (okI (e28_ok true) c3 c4 (by decide)) (alc (cok0 false (a2c (.z (frz_ag (a2c .s (a2c (frz_sl e54_ok (fun h => h)) a2n)))) (a2c (.z (frz_ag (a2c .s (a2c (frz_sl e54_ok (fun h => h)) a2n)))) a2n)) (.z .s) (fun h => absurd h (by decide))) aln))))))) (acal (laws_eqTrip.J k (at_ a0 x1) (at_ a1 x1) _ hx2) nocal) ?_
          by_cases c5 : x2 = true
          · rw [if_pos c5] at h
            refine .cond' (.tmp 26) false [c_ 467, l_ 58, b_ 0, c_ 15] (bF (nF c5)) ?_
            refine .reg' [0, 1, 5] [] ⟨[(0, (.sl true a0.length 2 (a0.flatMap (e28 true)))), (1, (.sl true a1.length 2 (a1.flatMap (e28 true)))), (5, (I (wrap64 (x1 + 1))))], [], [], []⟩ [l_ 58, b_ 0, c_ 15] aln nocal ?_
            exact ih0 a0 a1 (wrap64 (x1 + 1)) _ h
          · rw [if_neg c5] at h
            refine .cond' (.tmp 26) true [c_ 7460, c_ 7461, b_ 1, c_ 467, l_ 58, b_ 0, c_ 15] (bT (nT (vF c5))) ?_
            refine .reg' [4] [] ⟨[(4, (B false))], [], [], []⟩ [c_ 7461, b_ 1, c_ 467, l_ 58, b_ 0, c_ 15] aln nocal ?_
            have h := Option.some.inj h
            subst h
            exact .fin0 [] (B false) [] aln (.z .s)
        · rw [if_neg c4] at h
          cases h
      · rw [if_neg c3] at h
        cases h
    · rw [if_neg c2] at h
      refine .cond' (.tmp 14) false [c_ 30, c_ 31] (bF (dF c2)) ?_
      refine .reg' [4] [] ⟨[(4, (B true))], [], [], []⟩ [c_ 31] aln nocal ?_
      have h := Option.some.inj h
      subst h
      exact .fin0 [] (B true) [] aln (.z .s)
theorem laws_eqTripS.J (k : Nat) (a0 : (List S28)) (a1 : (List S28)) (r : Bool) (h : laws_eqTripS.f k a0 a1 = some r) : J prog (.call 22 [(.sl true a0.length 2 (a0.flatMap (e28 true))), (.sl true a1.length 2 (a1.flatMap (e28 true)))] [] (B r) []) := by
  unfold laws_eqTripS.f at h
  have ih0 := laws_eqTripS.lab k
  refine .call' [c_ 2, c_ 3] ?_
  refine .reg' [0, 1] [] ⟨[(0, (.sl true a0.length 2 (a0.flatMap (e28 true)))), (1, (.sl true a1.length 2 (a1.flatMap (e28 true))))], [], [], []⟩ [c_ 12, c_ 13, c_ 7] aln nocal ?_
  refine .reg' [0, 1, 10] [] ⟨[(0, (.sl true a0.length 2 (a0.flatMap (e28 true)))), (1, (.sl true a1.length 2 (a1.flatMap (e28 true)))), (10, (B (!((a0.length : Int) == (a1.length : Int)))))], [], [], []⟩ [c_ 13, c_ 7] aln nocal ?_
  by_cases c1 : (a0.length : Int) = (a1.length : Int)
  · rw [if_pos c1] at h
    refine .cond' (.tmp 10) false [c_ 28, c_ 29, c_ 15] (bF (nF (qT c1))) ?_
    refine .reg' [0, 1, 5] [] ⟨[(0, (.sl true a0.length 2 (a0.flatMap (e28 true)))), (1, (.sl true a1.length 2 (a1.flatMap (e28 true)))), (5, (I 0))], [], [], []⟩ [l_ 58, b_ 0, c_ 15] aln nocal ?_
    exact ih0 a0 a1 0 _ h
  · rw [if_neg c1] at h
    refine .cond' (.tmp 10) true [c_ 52, c_ 53, c_ 7] (bT (nT (qF c1))) ?_
    refine .reg' [4] [] ⟨[(4, (B false))], [], [], []⟩ [c_ 53, c_ 7] aln nocal ?_
    have h := Option.some.inj h
    subst h
    exact .fin0 [] (B false) [] aln (.z .s)
/-! laws_markText: function 56 -/
def laws_markText.l0 : Nat → Int → ByteArray → Option ByteArray
 | 0, _, _ => none
 | k + 1, x1, x2 => (if x1 > 0 then (if (⟨#[UInt8.ofNat (IntKind.u8.wrap (wrap64 (48 + (x1.tmod (10 : Int))))).toNat]⟩ : ByteArray).size + x2.size ≤ 9223372036854775807 then (laws_markText.l0 k (wrap64 (x1.tdiv (10 : Int))) ((⟨#[UInt8.ofNat (IntKind.u8.wrap (wrap64 (48 + (x1.tmod (10 : Int))))).toNat]⟩ : ByteArray) ++ x2)) else none) else (if (⟨#[109]⟩ : ByteArray).size + x2.size ≤ 9223372036854775807 then (some ((⟨#[109]⟩ : ByteArray) ++ x2)) else none))
def laws_markText.f (k : Nat) (a0 : Int) : Option ByteArray := (if a0 ≤ 0 then (some (⟨#[109, 48]⟩ : ByteArray)) else (laws_markText.l0 k a0 (⟨#[]⟩ : ByteArray)))
theorem laws_markText.lab : ∀ k, (∀ (x1 : Int) (x2 : ByteArray) (r : ByteArray), laws_markText.l0 k x1 x2 = some r → J prog (.run 56 [] [l_ 60, b_ 0, c_ 31] [(0, (I x1)), (3, (S x2))] [] (S r) []))
 | 0 => (by intro x1 x2 r h; unfold laws_markText.l0 at h; cases h)
 | k + 1 => by
  have ih0 := laws_markText.lab k
  · intro x1 x2 r h
    unfold laws_markText.l0 at h
    refine .loop' [c_ 480, c_ 481, c_ 241, l_ 60, b_ 0, c_ 31] ?_
    refine .reg' [0, 3, 7] [] ⟨[(0, (I x1)), (3, (S x2)), (7, (B (decide (x1 > 0))))], [], [], []⟩ [c_ 481, c_ 241, l_ 60, b_ 0, c_ 31] aln nocal ?_
    by_cases c2 : x1 > 0
    · rw [if_pos c2] at h
      refine .cond' (.tmp 7) true [c_ 964, c_ 965, b_ 1, l_ 60, b_ 0, c_ 31] (bT (dT c2)) ?_
      by_cases c3 : (⟨#[UInt8.ofNat (IntKind.u8.wrap (wrap64 (48 + (x1.tmod (10 : Int))))).toNat]⟩ : ByteArray).size + x2.size ≤ 9223372036854775807
      · rw [if_pos c3] at h
        refine .reg' [0, 3] [] ⟨[(0, (I x1)), (3, (S ((⟨#[UInt8.ofNat (IntKind.u8.wrap (wrap64 (48 + (x1.tmod (10 : Int))))).toNat]⟩ : ByteArray) ++ x2)))], [(1540, (([(IntKind.u8.wrap (wrap64 (48 + (x1.tmod (10 : Int)))))] : List Int).flatMap encU))], [(10 : Int) ≠ 0, ([(IntKind.u8.wrap (wrap64 (48 + (x1.tmod (10 : Int)))))] : List Int).length * 1 = (([(IntKind.u8.wrap (wrap64 (48 + (x1.tmod (10 : Int)))))] : List Int).flatMap encU).length ∧ 0 + ([(IntKind.u8.wrap (wrap64 (48 + (x1.tmod (10 : Int)))))] : List Int).length ≤ (([(IntKind.u8.wrap (wrap64 (48 + (x1.tmod (10 : Int)))))] : List Int).flatMap encU).length, (⟨#[UInt8.ofNat (IntKind.u8.wrap (wrap64 (48 + (x1.tmod (10 : Int))))).toNat]⟩ : ByteArray).size + x2.size ≤ 9223372036854775807], []⟩ [c_ 965, b_ 1, l_ 60, b_ 0, c_ 31] (alc (by decide) (alc ⟨rfl, Nat.le_of_ble_eq_true rfl⟩ (alc c3 aln))) nocal ?_
        refine .reg' [0, 3] [] ⟨[(0, (I (wrap64 (x1.tdiv (10 : Int))))), (3, (S ((⟨#[UInt8.ofNat (IntKind.u8.wrap (wrap64 (48 + (x1.tmod (10 : Int))))).toNat]⟩ : ByteArray) ++ x2)))], [(1540, (([(IntKind.u8.wrap (wrap64 (48 + (x1.tmod (10 : Int)))))] : List Int).flatMap encU))], [(10 : Int) ≠ 0], []⟩ [l_ 60, b_ 0, c_ 31] (alc (by decide) aln) nocal ?_
        refine .wk' [] [] [(0, (I (wrap64 (x1.tdiv (10 : Int))))), (3, (S ((⟨#[UInt8.ofNat (IntKind.u8.wrap (wrap64 (48 + (x1.tmod (10 : Int))))).toNat]⟩ : ByteArray) ++ x2)))] [] shn (enc_ (.z .s) (enc_ (.z .s) enn)) ?_
        exact ih0 (wrap64 (x1.tdiv (10 : Int))) ((⟨#[UInt8.ofNat (IntKind.u8.wrap (wrap64 (48 + (x1.tmod (10 : Int))))).toNat]⟩ : ByteArray) ++ x2) _ h
      · rw [if_neg c3] at h
        cases h
    · rw [if_neg c2] at h
      refine .cond' (.tmp 7) false [c_ 62, c_ 63] (bF (dF c2)) ?_
      by_cases c4 : (⟨#[109]⟩ : ByteArray).size + x2.size ≤ 9223372036854775807
      · rw [if_pos c4] at h
        refine .reg' [2] [] ⟨[(2, (S ((⟨#[109]⟩ : ByteArray) ++ x2)))], [], [(⟨#[109]⟩ : ByteArray).size + x2.size ≤ 9223372036854775807], []⟩ [c_ 63] (alc c4 aln) nocal ?_
        have h := Option.some.inj h
        subst h
        exact .fin0 [] (S ((⟨#[109]⟩ : ByteArray) ++ x2)) [] aln (.z .s)
      · rw [if_neg c4] at h
        cases h
theorem laws_markText.J (k : Nat) (a0 : Int) (r : ByteArray) (h : laws_markText.f k a0 = some r) : J prog (.call 56 [(I a0)] [] (S r) []) := by
  unfold laws_markText.f at h
  have ih0 := laws_markText.lab k
  refine .call' [c_ 2, c_ 3] ?_
  refine .reg' [0] [] ⟨[(0, (I a0))], [], [], []⟩ [c_ 12, c_ 13, c_ 7] aln nocal ?_
  refine .reg' [0, 5] [] ⟨[(0, (I a0)), (5, (B (decide (a0 ≤ 0))))], [], [], []⟩ [c_ 13, c_ 7] aln nocal ?_
  by_cases c1 : a0 ≤ 0
  · rw [if_pos c1] at h
    refine .cond' (.tmp 5) true [c_ 52, c_ 53, c_ 7] (bT (dT c1)) ?_
    refine .reg' [2] [] ⟨[(2, (S (⟨#[109, 48]⟩ : ByteArray)))], [], [], []⟩ [c_ 53, c_ 7] aln nocal ?_
    have h := Option.some.inj h
    subst h
    exact .fin0 [] (S (⟨#[109, 48]⟩ : ByteArray)) [] aln (.z .s)
  · rw [if_neg c1] at h
    refine .cond' (.tmp 5) false [c_ 14, c_ 15] (bF (dF c1)) ?_
    refine .reg' [0, 3] [] ⟨[(0, (I a0)), (3, (S (⟨#[]⟩ : ByteArray)))], [], [], []⟩ [l_ 60, b_ 0, c_ 31] aln nocal ?_
    exact ih0 a0 (⟨#[]⟩ : ByteArray) _ h
/-! laws_markCallS: function 49 -/
def laws_markCallS.l0 : Nat → (List S54) → Int → Int → Option (Int × (List S54))
 | 0, _, _, _ => none
 | k + 1, x1, x2, x3 => (if x3 < (x1.length : Int) then (if 0 ≤ x3 then (laws_markCallS.l0 k (x1.set x3.toNat (⟨x2, (wrap64 (x2 + 1)), (wrap64 ((wrap64 (x2 + 1)) + 1))⟩ : S54)) (wrap64 ((wrap64 ((wrap64 (x2 + 1)) + 1)) + 1)) (wrap64 (x3 + 1))) else none) else (some (x2, x1)))
def laws_markCallS.f (k : Nat) (a0 : (List S54)) (a1 : Int) : Option (Int × (List S54)) := (laws_markCallS.l0 k a0 a1 0)
theorem laws_markCallS.lab : ∀ k, (∀ (x1 : (List S54)) (x2 : Int) (x3 : Int) (r : (Int × (List S54))), laws_markCallS.l0 k x1 x2 x3 = some r → J prog (.run 49 [0] [l_ 26, b_ 0, c_ 7] [(0, (.rf 0 0 x1.length 3 (x1.length * 3))), (1, (I x2)), (5, (I x3))] [(0, (x1.flatMap e54))] (I r.1) [(0, (r.2.flatMap e54))]))
 | 0 => (by intro x1 x2 x3 r h; unfold laws_markCallS.l0 at h; cases h)
 | k + 1 => by
  have ih0 := laws_markCallS.lab k
  · intro x1 x2 x3 r h
    unfold laws_markCallS.l0 at h
    refine .loop' [c_ 208, c_ 209, c_ 105, l_ 26, b_ 0, c_ 7] ?_
    refine .reg' [0, 1, 5, 9] [] ⟨[(0, (.rf 0 0 x1.length 3 (x1.length * 3))), (1, (I x2)), (5, (I x3)), (9, (B (decide (x3 < (x1.length : Int)))))], [(0, (x1.flatMap e54))], [], []⟩ [c_ 209, c_ 105, l_ 26, b_ 0, c_ 7] aln nocal ?_
    by_cases c1 : x3 < (x1.length : Int)
    · rw [if_pos c1] at h
      refine .cond' (.tmp 9) true [c_ 840, c_ 841, b_ 1, c_ 211, l_ 26, b_ 0, c_ 7] (bT (dT c1)) ?_
      by_cases c2 : 0 ≤ x3
      · rw [if_pos c2] at h
        refine .reg' [0, 1, 5] [.no, .no, .no, .no, .no, .w .un ((x1.set x3.toNat (⟨x2, (at_ x1 x3).f1, (at_ x1 x3).f2⟩ : S54)).flatMap e54)] ⟨[(0, (.rf 0 0 x1.length 3 (x1.length * 3))), (1, (I x2)), (5, (I x3))], [(0, ((x1.set x3.toNat (⟨x2, (at_ x1 x3).f1, (at_ x1 x3).f2⟩ : S54)).flatMap e54))], [(0 : Int) ≤ x3 ∧ x3 < (x1.length : Int), V.un = V.un, spl (x1.flatMap e54) (0 + x3.toNat * 3 + 0) [(I x2)] = ((x1.set x3.toNat (⟨x2, (at_ x1 x3).f1, (at_ x1 x3).f2⟩ : S54)).flatMap e54), x1.length * 3 = (x1.flatMap e54).length ∧ 0 + x3.toNat * 3 + 0 + 1 ≤ (x1.flatMap e54).length], []⟩ [c_ 1682, c_ 1683, b_ 1, c_ 211, l_ 26, b_ 0, c_ 7] (alc ⟨c2, c1⟩ (alc rfl (alc (st_row e54_ok 0 c2 c1 (Nat.le_of_ble_eq_true rfl) rfl) (alc (okA e54_ok c2 c1 (by decide)) aln)))) nocal ?_
        refine .eqs (env2 := [(0, (.rf 0 0 ((x1.set x3.toNat (⟨x2, (at_ x1 x3).f1, (at_ x1 x3).f2⟩ : S54)).length) 3 ((x1.set x3.toNat (⟨x2, (at_ x1 x3).f1, (at_ x1 x3).f2⟩ : S54)).length * 3))), (1, (I x2)), (5, (I x3))]) (H2 := [(0, ((x1.set x3.toNat (⟨x2, (at_ x1 x3).f1, (at_ x1 x3).f2⟩ : S54)).flatMap e54))]) (by first | (simp only [List.length_set]; done) | simp) (by first | rfl | (simp only [List.length_set]; done) | simp) ?_
        refine .reg' [0, 1, 5] [] ⟨[(0, (.rf 0 0 ((x1.set x3.toNat (⟨x2, (at_ x1 x3).f1, (at_ x1 x3).f2⟩ : S54)).length) 3 ((x1.set x3.toNat (⟨x2, (at_ x1 x3).f1, (at_ x1 x3).f2⟩ : S54)).length * 3))), (1, (I (wrap64 (x2 + 1)))), (5, (I x3))], [(0, ((x1.set x3.toNat (⟨x2, (at_ x1 x3).f1, (at_ x1 x3).f2⟩ : S54)).flatMap e54))], [], []⟩ [c_ 3366, c_ 3367, b_ 1, c_ 211, l_ 26, b_ 0, c_ 7] aln nocal ?_
        refine .reg' [0, 1, 5] [.no, .no, .no, .no, .no, .w .un ((x1.set x3.toNat (⟨x2, (wrap64 (x2 + 1)), (at_ x1 x3).f2⟩ : S54)).flatMap e54)] ⟨[(0, (.rf 0 0 ((x1.set x3.toNat (⟨x2, (at_ x1 x3).f1, (at_ x1 x3).f2⟩ : S54)).length) 3 ((x1.set x3.toNat (⟨x2, (at_ x1 x3).f1, (at_ x1 x3).f2⟩ : S54)).length * 3))), (1, (I (wrap64 (x2 + 1)))), (5, (I x3))], [(0, ((x1.set x3.toNat (⟨x2, (wrap64 (x2 + 1)), (at_ x1 x3).f2⟩ : S54)).flatMap e54))], [(0 : Int) ≤ x3 ∧ x3 < ((x1.set x3.toNat (⟨x2, (at_ x1 x3).f1, (at_ x1 x3).f2⟩ : S54)).length : Int), V.un = V.un, spl ((x1.set x3.toNat (⟨x2, (at_ x1 x3).f1, (at_ x1 x3).f2⟩ : S54)).flatMap e54) (0 + x3.toNat * 3 + 1) [(I (wrap64 (x2 + 1)))] = ((x1.set x3.toNat (⟨x2, (wrap64 (x2 + 1)), (at_ x1 x3).f2⟩ : S54)).flatMap e54), (x1.set x3.toNat (⟨x2, (at_ x1 x3).f1, (at_ x1 x3).f2⟩ : S54)).length * 3 = ((x1.set x3.toNat (⟨x2, (at_ x1 x3).f1, (at_ x1 x3).f2⟩ : S54)).flatMap e54).length ∧ 0 + x3.toNat * 3 + 1 + 1 ≤ ((x1.set x3.toNat (⟨x2, (at_ x1 x3).f1, (at_ x1 x3).f2⟩ : S54)).flatMap e54).length], []⟩ [c_ 6734, c_ 6735, b_ 1, c_ 211, l_ 26, b_ 0, c_ 7] (alc ⟨c2, (ls c1)⟩ (alc rfl (alc (st_row2 e54_ok 1 c2 c1 (Nat.le_of_ble_eq_true rfl) rfl) (alc (okA e54_ok c2 (ls c1) (by decide)) aln)))) nocal ?_
        refine .eqs (env2 := [(0, (.rf 0 0 ((x1.set x3.toNat (⟨x2, (wrap64 (x2 + 1)), (at_ x1 x3).f2⟩ : S54)).length) 3 ((x1.set x3.toNat (⟨x2, (wrap64 (x2 + 1)), (at_ x1 x3).f2⟩ : S54)).length * 3))), (1, (I (wrap64 (x2 + 1)))), (5, (I x3))]) (H2 := [(0, ((x1.set x3.toNat (⟨x2, (wrap64 (x2 + 1)), (at_ x1 x3).f2⟩ : S54)).flatMap e54))]) (by first | (simp only [List.length_set]; done) | simp) (by first | rfl | (simp only [List.length_set]; done) | simp) ?_
        refine .reg' [0, 1, 5] [] ⟨[(0, (.rf 0 0 ((x1.set x3.toNat (⟨x2, (wrap64 (x2 + 1)), (at_ x1 x3).f2⟩ : S54)).length) 3 ((x1.set x3.toNat (⟨x2, (wrap64 (x2 + 1)), (at_ x1 x3).f2⟩ : S54)).length * 3))), (1, (I (wrap64 ((wrap64 (x2 + 1)) + 1)))), (5, (I x3))], [(0, ((x1.set x3.toNat (⟨x2, (wrap64 (x2 + 1)), (at_ x1 x3).f2⟩ : S54)).flatMap e54))], [], []⟩ [c_ 13470, c_ 13471, b_ 1, c_ 211, l_ 26, b_ 0, c_ 7] aln nocal ?_
        refine .reg' [0, 1, 5] [.no, .no, .no, .no, .no, .w .un ((x1.set x3.toNat (⟨x2, (wrap64 (x2 + 1)), (wrap64 ((wrap64 (x2 + 1)) + 1))⟩ : S54)).flatMap e54)] ⟨[(0, (.rf 0 0 ((x1.set x3.toNat (⟨x2, (wrap64 (x2 + 1)), (at_ x1 x3).f2⟩ : S54)).length) 3 ((x1.set x3.toNat (⟨x2, (wrap64 (x2 + 1)), (at_ x1 x3).f2⟩ : S54)).length * 3))), (1, (I (wrap64 ((wrap64 (x2 + 1)) + 1)))), (5, (I x3))], [(0, ((x1.set x3.toNat (⟨x2, (wrap64 (x2 + 1)), (wrap64 ((wrap64 (x2 + 1)) + 1))⟩ : S54)).flatMap e54))], [(0 : Int) ≤ x3 ∧ x3 < ((x1.set x3.toNat (⟨x2, (wrap64 (x2 + 1)), (at_ x1 x3).f2⟩ : S54)).length : Int), V.un = V.un, spl ((x1.set x3.toNat (⟨x2, (wrap64 (x2 + 1)), (at_ x1 x3).f2⟩ : S54)).flatMap e54) (0 + x3.toNat * 3 + 2) [(I (wrap64 ((wrap64 (x2 + 1)) + 1)))] = ((x1.set x3.toNat (⟨x2, (wrap64 (x2 + 1)), (wrap64 ((wrap64 (x2 + 1)) + 1))⟩ : S54)).flatMap e54), (x1.set x3.toNat (⟨x2, (wrap64 (x2 + 1)), (at_ x1 x3).f2⟩ : S54)).length * 3 = ((x1.set x3.toNat (⟨x2, (wrap64 (x2 + 1)), (at_ x1 x3).f2⟩ : S54)).flatMap e54).length ∧ 0 + x3.toNat * 3 + 2 + 1 ≤ ((x1.set x3.toNat (⟨x2, (wrap64 (x2 + 1)), (at_ x1 x3).f2⟩ : S54)).flatMap e54).length], []⟩ [c_ 13471, b_ 1, c_ 211, l_ 26, b_ 0, c_ 7] (alc ⟨c2, (ls c1)⟩ (alc rfl (alc (st_row2 e54_ok 2 c2 c1 (Nat.le_of_ble_eq_true rfl) rfl) (alc (okA e54_ok c2 (ls c1) (by decide)) aln)))) nocal ?_
        refine .eqs (env2 := [(0, (.rf 0 0 ((x1.set x3.toNat (⟨x2, (wrap64 (x2 + 1)), (wrap64 ((wrap64 (x2 + 1)) + 1))⟩ : S54)).length) 3 ((x1.set x3.toNat (⟨x2, (wrap64 (x2 + 1)), (wrap64 ((wrap64 (x2 + 1)) + 1))⟩ : S54)).length * 3))), (1, (I (wrap64 ((wrap64 (x2 + 1)) + 1)))), (5, (I x3))]) (H2 := [(0, ((x1.set x3.toNat (⟨x2, (wrap64 (x2 + 1)), (wrap64 ((wrap64 (x2 + 1)) + 1))⟩ : S54)).flatMap e54))]) (by first | (simp only [List.length_set]; done) | simp) (by first | rfl | (simp only [List.length_set]; done) | simp) ?_
        refine .reg' [0, 1, 5] [] ⟨[(0, (.rf 0 0 ((x1.set x3.toNat (⟨x2, (wrap64 (x2 + 1)), (wrap64 ((wrap64 (x2 + 1)) + 1))⟩ : S54)).length) 3 ((x1.set x3.toNat (⟨x2, (wrap64 (x2 + 1)), (wrap64 ((wrap64 (x2 + 1)) + 1))⟩ : S54)).length * 3))), (1, (I (wrap64 ((wrap64 ((wrap64 (x2 + 1)) + 1)) + 1)))), (5, (I x3))], [(0, ((x1.set x3.toNat (⟨x2, (wrap64 (x2 + 1)), (wrap64 ((wrap64 (x2 + 1)) + 1))⟩ : S54)).flatMap e54))], [], []⟩ [c_ 211, l_ 26, b_ 0, c_ 7] aln nocal ?_
        refine .reg' [0, 1, 5] [] ⟨[(0, (.rf 0 0 ((x1.set x3.toNat (⟨x2, (wrap64 (x2 + 1)), (wrap64 ((wrap64 (x2 + 1)) + 1))⟩ : S54)).length) 3 ((x1.set x3.toNat (⟨x2, (wrap64 (x2 + 1)), (wrap64 ((wrap64 (x2 + 1)) + 1))⟩ : S54)).length * 3))), (1, (I (wrap64 ((wrap64 ((wrap64 (x2 + 1)) + 1)) + 1)))), (5, (I (wrap64 (x3 + 1))))], [(0, ((x1.set x3.toNat (⟨x2, (wrap64 (x2 + 1)), (wrap64 ((wrap64 (x2 + 1)) + 1))⟩ : S54)).flatMap e54))], [], []⟩ [l_ 26, b_ 0, c_ 7] aln nocal ?_
        exact ih0 (x1.set x3.toNat (⟨x2, (wrap64 (x2 + 1)), (wrap64 ((wrap64 (x2 + 1)) + 1))⟩ : S54)) (wrap64 ((wrap64 ((wrap64 (x2 + 1)) + 1)) + 1)) (wrap64 (x3 + 1)) _ h
      · rw [if_neg c2] at h
        cases h
    · rw [if_neg c1] at h
      refine .cond' (.tmp 9) false [c_ 14, c_ 15] (bF (dF c1)) ?_
      refine .reg' [4] [] ⟨[(4, (I x2))], [(0, (x1.flatMap e54))], [], []⟩ [c_ 15] aln nocal ?_
      have h := Option.some.inj h
      subst h
      exact .fin' [] [(0, 0)] (I x2) [] aln (shc 0 (rowF e54_ok _) shn) (.z .s)
theorem laws_markCallS.J (k : Nat) (a0 : (List S54)) (a1 : Int) (r : (Int × (List S54))) (h : laws_markCallS.f k a0 a1 = some r) : J prog (.call 49 [(.rf 0 0 a0.length 3 (a0.length * 3)), (I a1)] [(0, (a0.flatMap e54))] (I r.1) [(0, (r.2.flatMap e54))]) := by
  unfold laws_markCallS.f at h
  have ih0 := laws_markCallS.lab k
  refine .call' [c_ 2, c_ 3] ?_
  refine .reg' [0, 1] [] ⟨[(0, (.rf 0 0 a0.length 3 (a0.length * 3))), (1, (I a1))], [(0, (a0.flatMap e54))], [], []⟩ [c_ 12, c_ 13, c_ 7] aln nocal ?_
  refine .reg' [0, 1, 5] [] ⟨[(0, (.rf 0 0 a0.length 3 (a0.length * 3))), (1, (I a1)), (5, (I 0))], [(0, (a0.flatMap e54))], [], []⟩ [l_ 26, b_ 0, c_ 7] aln nocal ?_
  exact ih0 a0 a1 0 _ h
theorem laws_markCallS.lenl : ∀ k, (∀ (x1 : (List S54)) (x2 : Int) (x3 : Int) (r : (Int × (List S54))), laws_markCallS.l0 k x1 x2 x3 = some r → r.2.length = x1.length)
 | 0 => (by intro x1 x2 x3 r h; unfold laws_markCallS.l0 at h; cases h)
 | k + 1 => by
  have ih0 := laws_markCallS.lenl k
  · intro x1 x2 x3 r h
    unfold laws_markCallS.l0 at h
    by_cases c1 : x3 < (x1.length : Int)
    · rw [if_pos c1] at h
      by_cases c2 : 0 ≤ x3
      · rw [if_pos c2] at h
        have q := ih0 (x1.set x3.toNat (⟨x2, (wrap64 (x2 + 1)), (wrap64 ((wrap64 (x2 + 1)) + 1))⟩ : S54)) (wrap64 ((wrap64 ((wrap64 (x2 + 1)) + 1)) + 1)) (wrap64 (x3 + 1)) _ h
        first | exact q | (simp only [List.length_set] at q; exact q)
      · rw [if_neg c2] at h
        cases h
    · rw [if_neg c1] at h
      have h := Option.some.inj h
      subst h
      first | rfl | (simp only [List.length_set]; done) | exact ⟨by first | rfl | simp only [List.length_set]⟩
theorem laws_markCallS.len (k : Nat) (a0 : (List S54)) (a1 : Int) (r : (Int × (List S54))) (h : laws_markCallS.f k a0 a1 = some r) : r.2.length = a0.length := by
  unfold laws_markCallS.f at h
  have ih0 := laws_markCallS.lenl k
  have q := ih0 a0 a1 0 _ h
  first | exact q | (simp only [List.length_set] at q; exact q)
/-! laws_markTripS: function 32 -/
def laws_markTripS.l0 : Nat → (List S28) → Int → Int → Option (Int × (List S28))
 | 0, _, _, _ => none
 | k + 1, x1, x2, x3 => (if x3 < (x1.length : Int) then ((laws_markText.f k x2).bind fun x4 => (if 0 ≤ x3 then ((laws_markCallS.f k ((at_ (x1.set x3.toNat (⟨x4, (at_ x1 x3).f1⟩ : S28)) x3).f1) (wrap64 (x2 + 1))).bind fun x5 => (laws_markTripS.l0 k ((x1.set x3.toNat (⟨x4, (at_ x1 x3).f1⟩ : S28)).set x3.toNat (⟨(at_ (x1.set x3.toNat (⟨x4, (at_ x1 x3).f1⟩ : S28)) x3).f0, x5.2⟩ : S28)) x5.1 (wrap64 (x3 + 1)))) else none)) else (some (x2, x1)))
def laws_markTripS.f (k : Nat) (a0 : (List S28)) (a1 : Int) : Option (Int × (List S28)) := (laws_markTripS.l0 k a0 a1 0)
theorem laws_markTripS.lab : ∀ k, (∀ (x1 : (List S28)) (x2 : Int) (x3 : Int) (r : (Int × (List S28))), laws_markTripS.l0 k x1 x2 x3 = some r → J prog (.run 32 [4000000000] [l_ 26, b_ 0, c_ 7] [(0, (.rf 4000000000 0 x1.length 2 (x1.length * 2))), (1, (I x2)), (5, (I x3))] [(4000000000, (x1.flatMap o28))] (I r.1) [(4000000000, (r.2.flatMap o28))]))
 | 0 => (by intro x1 x2 x3 r h; unfold laws_markTripS.l0 at h; cases h)
 | k + 1 => by
  have ih0 := laws_markTripS.lab k
  · intro x1 x2 x3 r h
    unfold laws_markTripS.l0 at h
    refine .loop' [c_ 208, c_ 209, c_ 105, l_ 26, b_ 0, c_ 7] ?_
    refine .reg' [0, 1, 5, 9] [] ⟨[(0, (.rf 4000000000 0 x1.length 2 (x1.length * 2))), (1, (I x2)), (5, (I x3)), (9, (B (decide (x3 < (x1.length : Int)))))], [(4000000000, (x1.flatMap o28))], [], []⟩ [c_ 209, c_ 105, l_ 26, b_ 0, c_ 7] aln nocal ?_
    by_cases c1 : x3 < (x1.length : Int)
    · rw [if_pos c1] at h
      refine .cond' (.tmp 9) true [c_ 840, c_ 841, b_ 1, c_ 211, l_ 26, b_ 0, c_ 7] (bT (dT c1)) ?_
      obtain ⟨x4, hx4, h⟩ := Option.bind_eq_some_iff.mp h
      by_cases c2 : 0 ≤ x3
      · rw [if_pos c2] at h
        refine .reg' [0, 1, 5] [.no, .no, .no, .c ⟨56, [(I x2)], [], (S x4), [], [], [], [], (S x4), []⟩, .no, .no, .w .un ((x1.set x3.toNat (⟨x4, (at_ x1 x3).f1⟩ : S28)).flatMap o28)] ⟨[(0, (.rf 4000000000 0 x1.length 2 (x1.length * 2))), (1, (I x2)), (5, (I x3))], [(4000000000, ((x1.set x3.toNat (⟨x4, (at_ x1 x3).f1⟩ : S28)).flatMap o28))], [COK (hget [(4000000000, (x1.flatMap o28))]) [(I x2)] ⟨56, [(I x2)], [], (S x4), [], [], [], [], (S x4), []⟩, (0 : Int) ≤ x3 ∧ x3 < (x1.length : Int), V.un = V.un, spl (x1.flatMap o28) (0 + x3.toNat * 2 + 0) [(S x4)] = ((x1.set x3.toNat (⟨x4, (at_ x1 x3).f1⟩ : S28)).flatMap o28), x1.length * 2 = (x1.flatMap o28).length ∧ 0 + x3.toNat * 2 + 0 + 1 ≤ (x1.flatMap o28).length], [⟨56, [(I x2)], [], (S x4), [], [], [], [], (S x4), []⟩]⟩ [c_ 1682, c_ 1683, b_ 1, c_ 211, l_ 26, b_ 0, c_ 7] (alc (cok0 false (a2c (.z .s) a2n) (.z .s) (fun h => absurd h (by decide))) (alc ⟨c2, c1⟩ (alc rfl (alc (st_row o28_ok 0 c2 c1 (Nat.le_of_ble_eq_true rfl) rfl) (alc (okA o28_ok c2 c1 (by decide)) aln))))) (acal (laws_markText.J k x2 _ hx4) nocal) ?_
        refine .eqs (env2 := [(0, (.rf 4000000000 0 ((x1.set x3.toNat (⟨x4, (at_ x1 x3).f1⟩ : S28)).length) 2 ((x1.set x3.toNat (⟨x4, (at_ x1 x3).f1⟩ : S28)).length * 2))), (1, (I x2)), (5, (I x3))]) (H2 := [(4000000000, ((x1.set x3.toNat (⟨x4, (at_ x1 x3).f1⟩ : S28)).flatMap o28))]) (by first | (simp only [List.length_set]; done) | simp) (by first | rfl | (simp only [List.length_set]; done) | simp) ?_
        refine .reg' [0, 1, 5] [] ⟨[(0, (.rf 4000000000 0 ((x1.set x3.toNat (⟨x4, (at_ x1 x3).f1⟩ : S28)).length) 2 ((x1.set x3.toNat (⟨x4, (at_ x1 x3).f1⟩ : S28)).length * 2))), (1, (I (wrap64 (x2 + 1)))), (5, (I x3))], [(4000000000, ((x1.set x3.toNat (⟨x4, (at_ x1 x3).f1⟩ : S28)).flatMap o28))], [], []⟩ [c_ 1683, b_ 1, c_ 211, l_ 26, b_ 0, c_ 7] aln nocal ?_
        refine .opX 1000000001 4000000000 (x3.toNat * 2 + 1) (at_ (x1.set x3.toNat (⟨x4, (at_ x1 x3).f1⟩ : S28)) x3).f1.length 3 (cs' := (foc o28 (x1.set x3.toNat (⟨x4, (at_ x1 x3).f1⟩ : S28)) x3.toNat [(S (at_ (x1.set x3.toNat (⟨x4, (at_ x1 x3).f1⟩ : S28)) x3).f0), (.rf 1000000001 0 ((at_ (x1.set x3.toNat (⟨x4, (at_ x1 x3).f1⟩ : S28)) x3).f1.length) 3 ((at_ (x1.set x3.toNat (⟨x4, (at_ x1 x3).f1⟩ : S28)) x3).f1.length * 3))])) (ds := ((at_ (x1.set x3.toNat (⟨x4, (at_ x1 x3).f1⟩ : S28)) x3).f1.flatMap e54)) (H2 := []) ((foc_op o28_ok c2 (ls c1) 1 (by decide)).trans rfl) (foc_ops o28_ok c2 (ls c1) 1 (by decide) _) ?_
        obtain ⟨x5, hx5, h⟩ := Option.bind_eq_some_iff.mp h
        refine .reg' [0, 1, 5] [.no, .no, .no, .no, .v (.rf 1000000001 0 ((at_ (x1.set x3.toNat (⟨x4, (at_ x1 x3).f1⟩ : S28)) x3).f1.length) 3 ((at_ (x1.set x3.toNat (⟨x4, (at_ x1 x3).f1⟩ : S28)) x3).f1.length * 3)), .no, .c ⟨49, [(.rf 0 0 ((at_ (x1.set x3.toNat (⟨x4, (at_ x1 x3).f1⟩ : S28)) x3).f1.length) 3 ((at_ (x1.set x3.toNat (⟨x4, (at_ x1 x3).f1⟩ : S28)) x3).f1.length * 3)), (I (wrap64 (x2 + 1)))], [(0, ((at_ (x1.set x3.toNat (⟨x4, (at_ x1 x3).f1⟩ : S28)) x3).f1.flatMap e54))], (I x5.1), [(0, (x5.2.flatMap e54))], [], [(1000000001, 0)], [(1000000001, 0)], (I x5.1), [(1000000001, (x5.2.flatMap e54))]⟩] ⟨[(0, (.rf 4000000000 0 ((x1.set x3.toNat (⟨x4, (at_ x1 x3).f1⟩ : S28)).length) 2 ((x1.set x3.toNat (⟨x4, (at_ x1 x3).f1⟩ : S28)).length * 2))), (1, (I x5.1)), (5, (I x3))], [(4000000000, (foc o28 (x1.set x3.toNat (⟨x4, (at_ x1 x3).f1⟩ : S28)) x3.toNat [(S (at_ (x1.set x3.toNat (⟨x4, (at_ x1 x3).f1⟩ : S28)) x3).f0), (.rf 1000000001 0 ((at_ (x1.set x3.toNat (⟨x4, (at_ x1 x3).f1⟩ : S28)) x3).f1.length) 3 ((at_ (x1.set x3.toNat (⟨x4, (at_ x1 x3).f1⟩ : S28)) x3).f1.length * 3))])), (1000000001, (x5.2.flatMap e54))], [(0 : Int) ≤ x3 ∧ x3 < ((x1.set x3.toNat (⟨x4, (at_ x1 x3).f1⟩ : S28)).length : Int), rdC prog 27 ((foc o28 (x1.set x3.toNat (⟨x4, (at_ x1 x3).f1⟩ : S28)) x3.toNat [(S (at_ (x1.set x3.toNat (⟨x4, (at_ x1 x3).f1⟩ : S28)) x3).f0), (.rf 1000000001 0 ((at_ (x1.set x3.toNat (⟨x4, (at_ x1 x3).f1⟩ : S28)) x3).f1.length) 3 ((at_ (x1.set x3.toNat (⟨x4, (at_ x1 x3).f1⟩ : S28)) x3).f1.length * 3))]).drop (0 + x3.toNat * 2 + 1)) = (.rf 1000000001 0 ((at_ (x1.set x3.toNat (⟨x4, (at_ x1 x3).f1⟩ : S28)) x3).f1.length) 3 ((at_ (x1.set x3.toNat (⟨x4, (at_ x1 x3).f1⟩ : S28)) x3).f1.length * 3)), (x1.set x3.toNat (⟨x4, (at_ x1 x3).f1⟩ : S28)).length * 2 = (foc o28 (x1.set x3.toNat (⟨x4, (at_ x1 x3).f1⟩ : S28)) x3.toNat [(S (at_ (x1.set x3.toNat (⟨x4, (at_ x1 x3).f1⟩ : S28)) x3).f0), (.rf 1000000001 0 ((at_ (x1.set x3.toNat (⟨x4, (at_ x1 x3).f1⟩ : S28)) x3).f1.length) 3 ((at_ (x1.set x3.toNat (⟨x4, (at_ x1 x3).f1⟩ : S28)) x3).f1.length * 3))]).length ∧ 0 + x3.toNat * 2 + 1 + 1 ≤ (foc o28 (x1.set x3.toNat (⟨x4, (at_ x1 x3).f1⟩ : S28)) x3.toNat [(S (at_ (x1.set x3.toNat (⟨x4, (at_ x1 x3).f1⟩ : S28)) x3).f0), (.rf 1000000001 0 ((at_ (x1.set x3.toNat (⟨x4, (at_ x1 x3).f1⟩ : S28)) x3).f1.length) 3 ((at_ (x1.set x3.toNat (⟨x4, (at_ x1 x3).f1⟩ : S28)) x3).f1.length * 3))]).length, COK (hget [(4000000000, (foc o28 (x1.set x3.toNat (⟨x4, (at_ x1 x3).f1⟩ : S28)) x3.toNat [(S (at_ (x1.set x3.toNat (⟨x4, (at_ x1 x3).f1⟩ : S28)) x3).f0), (.rf 1000000001 0 ((at_ (x1.set x3.toNat (⟨x4, (at_ x1 x3).f1⟩ : S28)) x3).f1.length) 3 ((at_ (x1.set x3.toNat (⟨x4, (at_ x1 x3).f1⟩ : S28)) x3).f1.length * 3))])), (1000000001, ((at_ (x1.set x3.toNat (⟨x4, (at_ x1 x3).f1⟩ : S28)) x3).f1.flatMap e54))]) [(.rf 1000000001 0 ((at_ (x1.set x3.toNat (⟨x4, (at_ x1 x3).f1⟩ : S28)) x3).f1.length) 3 ((at_ (x1.set x3.toNat (⟨x4, (at_ x1 x3).f1⟩ : S28)) x3).f1.length * 3)), (I (wrap64 (x2 + 1)))] ⟨49, [(.rf 0 0 ((at_ (x1.set x3.toNat (⟨x4, (at_ x1 x3).f1⟩ : S28)) x3).f1.length) 3 ((at_ (x1.set x3.toNat (⟨x4, (at_ x1 x3).f1⟩ : S28)) x3).f1.length * 3)), (I (wrap64 (x2 + 1)))], [(0, ((at_ (x1.set x3.toNat (⟨x4, (at_ x1 x3).f1⟩ : S28)) x3).f1.flatMap e54))], (I x5.1), [(0, (x5.2.flatMap e54))], [], [(1000000001, 0)], [(1000000001, 0)], (I x5.1), [(1000000001, (x5.2.flatMap e54))]⟩], [⟨49, [(.rf 0 0 ((at_ (x1.set x3.toNat (⟨x4, (at_ x1 x3).f1⟩ : S28)) x3).f1.length) 3 ((at_ (x1.set x3.toNat (⟨x4, (at_ x1 x3).f1⟩ : S28)) x3).f1.length * 3)), (I (wrap64 (x2 + 1)))], [(0, ((at_ (x1.set x3.toNat (⟨x4, (at_ x1 x3).f1⟩ : S28)) x3).f1.flatMap e54))], (I x5.1), [(0, (x5.2.flatMap e54))], [], [(1000000001, 0)], [(1000000001, 0)], (I x5.1), [(1000000001, (x5.2.flatMap e54))]⟩]⟩ [c_ 211, l_ 26, b_ 0, c_ 7] (alc ⟨c2, (ls c1)⟩ (alc ((foc_ld o28_ok c2 (ls c1) rfl 1 (by decide) rfl).trans rfl) (alc (foc_ok o28_ok c2 (ls c1) rfl (by decide)) (alc (cokW false (a2c (.rf (memP_mem (p := (1000000001, 0)) rfl)) (a2c (.z .s) a2n)) (akc ⟨_, _, rfl, rfl, (rowF e54_ok _)⟩ akn) (akc (.inl rfl) akn) (.z .s) (akc ⟨_, _, rfl, rfl, rowB e54_c _⟩ akn) (fun h => absurd h (by decide))) aln)))) (acal (laws_markCallS.J k ((at_ (x1.set x3.toNat (⟨x4, (at_ x1 x3).f1⟩ : S28)) x3).f1) (wrap64 (x2 + 1)) _ hx5) nocal) ?_
        refine .eqs (env2 := [(0, (.rf 4000000000 0 ((x1.set x3.toNat (⟨x4, (at_ x1 x3).f1⟩ : S28)).length) 2 ((x1.set x3.toNat (⟨x4, (at_ x1 x3).f1⟩ : S28)).length * 2))), (1, (I x5.1)), (5, (I x3))]) (H2 := [(4000000000, (foc o28 (x1.set x3.toNat (⟨x4, (at_ x1 x3).f1⟩ : S28)) x3.toNat [(S (at_ (x1.set x3.toNat (⟨x4, (at_ x1 x3).f1⟩ : S28)) x3).f0), (.rf 1000000001 0 x5.2.length 3 (x5.2.length * 3))])), (1000000001, (x5.2.flatMap e54))]) (by first | (simp only [List.length_set, (laws_markCallS.len k ((at_ (x1.set x3.toNat (⟨x4, (at_ x1 x3).f1⟩ : S28)) x3).f1) (wrap64 (x2 + 1)) _ hx5)]; done) | simp) (by first | rfl | (simp only [List.length_set, (laws_markCallS.len k ((at_ (x1.set x3.toNat (⟨x4, (at_ x1 x3).f1⟩ : S28)) x3).f1) (wrap64 (x2 + 1)) _ hx5)]; done) | simp) ?_
        refine .clX [1000000001] 1000000001 4000000000 (x3.toNat * 2 + 1) x5.2.length 3 (cs' := (((x1.set x3.toNat (⟨x4, (at_ x1 x3).f1⟩ : S28)).set x3.toNat (⟨(at_ (x1.set x3.toNat (⟨x4, (at_ x1 x3).f1⟩ : S28)) x3).f0, x5.2⟩ : S28)).flatMap o28)) (ds := (x5.2.flatMap e54)) (H2 := []) ((foc_get (vs := [(S (at_ (x1.set x3.toNat (⟨x4, (at_ x1 x3).f1⟩ : S28)) x3).f0), (.rf 1000000001 0 x5.2.length 3 (x5.2.length * 3))]) o28_ok c2 (ls c1) rfl 1 (by decide)).trans rfl) ((foc_set (vs := [(S (at_ (x1.set x3.toNat (⟨x4, (at_ x1 x3).f1⟩ : S28)) x3).f0), (.rf 1000000001 0 x5.2.length 3 (x5.2.length * 3))]) o28_ok c2 (ls c1) rfl 1 (by decide) _).trans (foc_end o28_ok c2 (ls c1) (⟨(at_ (x1.set x3.toNat (⟨x4, (at_ x1 x3).f1⟩ : S28)) x3).f0, x5.2⟩ : S28))) (row_len e54_ok _) (rowS e54_s _) (rsc (rqE o28_ok _) rsn) ?_
        refine .reg' [0, 1, 5] [] ⟨[(0, (.rf 4000000000 0 ((x1.set x3.toNat (⟨x4, (at_ x1 x3).f1⟩ : S28)).length) 2 ((x1.set x3.toNat (⟨x4, (at_ x1 x3).f1⟩ : S28)).length * 2))), (1, (I x5.1)), (5, (I (wrap64 (x3 + 1))))], [(4000000000, (((x1.set x3.toNat (⟨x4, (at_ x1 x3).f1⟩ : S28)).set x3.toNat (⟨(at_ (x1.set x3.toNat (⟨x4, (at_ x1 x3).f1⟩ : S28)) x3).f0, x5.2⟩ : S28)).flatMap o28))], [], []⟩ [l_ 26, b_ 0, c_ 7] aln nocal ?_
        refine .eqs (env2 := [(0, (.rf 4000000000 0 (((x1.set x3.toNat (⟨x4, (at_ x1 x3).f1⟩ : S28)).set x3.toNat (⟨(at_ (x1.set x3.toNat (⟨x4, (at_ x1 x3).f1⟩ : S28)) x3).f0, x5.2⟩ : S28)).length) 2 (((x1.set x3.toNat (⟨x4, (at_ x1 x3).f1⟩ : S28)).set x3.toNat (⟨(at_ (x1.set x3.toNat (⟨x4, (at_ x1 x3).f1⟩ : S28)) x3).f0, x5.2⟩ : S28)).length * 2))), (1, (I x5.1)), (5, (I (wrap64 (x3 + 1))))]) (H2 := [(4000000000, (((x1.set x3.toNat (⟨x4, (at_ x1 x3).f1⟩ : S28)).set x3.toNat (⟨(at_ (x1.set x3.toNat (⟨x4, (at_ x1 x3).f1⟩ : S28)) x3).f0, x5.2⟩ : S28)).flatMap o28))]) (by first | (simp only [List.length_set]; done) | simp) (by first | rfl | (simp only [List.length_set]; done) | simp) ?_
        exact ih0 ((x1.set x3.toNat (⟨x4, (at_ x1 x3).f1⟩ : S28)).set x3.toNat (⟨(at_ (x1.set x3.toNat (⟨x4, (at_ x1 x3).f1⟩ : S28)) x3).f0, x5.2⟩ : S28)) x5.1 (wrap64 (x3 + 1)) _ h
      · rw [if_neg c2] at h
        cases h
    · rw [if_neg c1] at h
      refine .cond' (.tmp 9) false [c_ 14, c_ 15] (bF (dF c1)) ?_
      refine .reg' [4] [] ⟨[(4, (I x2))], [(4000000000, (x1.flatMap o28))], [], []⟩ [c_ 15] aln nocal ?_
      have h := Option.some.inj h
      subst h
      exact .fin' [] [(4000000000, 4000000000)] (I x2) [] aln (shc 4000000000 (rowF o28_ok _) shn) (.z .s)
theorem laws_markTripS.J (k : Nat) (a0 : (List S28)) (a1 : Int) (r : (Int × (List S28))) (h : laws_markTripS.f k a0 a1 = some r) : J prog (.call 32 [(.rf 4000000000 0 a0.length 2 (a0.length * 2)), (I a1)] [(4000000000, (a0.flatMap o28))] (I r.1) [(4000000000, (r.2.flatMap o28))]) := by
  unfold laws_markTripS.f at h
  have ih0 := laws_markTripS.lab k
  refine .call' [c_ 2, c_ 3] ?_
  refine .reg' [0, 1] [] ⟨[(0, (.rf 4000000000 0 a0.length 2 (a0.length * 2))), (1, (I a1))], [(4000000000, (a0.flatMap o28))], [], []⟩ [c_ 12, c_ 13, c_ 7] aln nocal ?_
  refine .reg' [0, 1, 5] [] ⟨[(0, (.rf 4000000000 0 a0.length 2 (a0.length * 2))), (1, (I a1)), (5, (I 0))], [(4000000000, (a0.flatMap o28))], [], []⟩ [l_ 26, b_ 0, c_ 7] aln nocal ?_
  exact ih0 a0 a1 0 _ h
theorem laws_markTripS.lenl : ∀ k, (∀ (x1 : (List S28)) (x2 : Int) (x3 : Int) (r : (Int × (List S28))), laws_markTripS.l0 k x1 x2 x3 = some r → r.2.length = x1.length)
 | 0 => (by intro x1 x2 x3 r h; unfold laws_markTripS.l0 at h; cases h)
 | k + 1 => by
  have ih0 := laws_markTripS.lenl k
  · intro x1 x2 x3 r h
    unfold laws_markTripS.l0 at h
    by_cases c1 : x3 < (x1.length : Int)
    · rw [if_pos c1] at h
      obtain ⟨x4, hx4, h⟩ := Option.bind_eq_some_iff.mp h
      by_cases c2 : 0 ≤ x3
      · rw [if_pos c2] at h
        obtain ⟨x5, hx5, h⟩ := Option.bind_eq_some_iff.mp h
        have lhx5 := laws_markCallS.len k ((at_ (x1.set x3.toNat (⟨x4, (at_ x1 x3).f1⟩ : S28)) x3).f1) (wrap64 (x2 + 1)) _ hx5
        have q := ih0 ((x1.set x3.toNat (⟨x4, (at_ x1 x3).f1⟩ : S28)).set x3.toNat (⟨(at_ (x1.set x3.toNat (⟨x4, (at_ x1 x3).f1⟩ : S28)) x3).f0, x5.2⟩ : S28)) x5.1 (wrap64 (x3 + 1)) _ h
        first | exact q | (simp only [List.length_set, lhx5] at q; exact q)
      · rw [if_neg c2] at h
        cases h
    · rw [if_neg c1] at h
      have h := Option.some.inj h
      subst h
      first | rfl | (simp only [List.length_set]; done) | exact ⟨by first | rfl | simp only [List.length_set]⟩
theorem laws_markTripS.len (k : Nat) (a0 : (List S28)) (a1 : Int) (r : (Int × (List S28))) (h : laws_markTripS.f k a0 a1 = some r) : r.2.length = a0.length := by
  unfold laws_markTripS.f at h
  have ih0 := laws_markTripS.lenl k
  have q := ih0 a0 a1 0 _ h
  first | exact q | (simp only [List.length_set] at q; exact q)
/-! laws_markEntryS: function 33 -/
def laws_markEntryS.l0 : Nat → (List S58) → Int → Int → Option (Int × (List S58))
 | 0, _, _, _ => none
 | k + 1, x1, x2, x3 => (if x3 < (x1.length : Int) then (if 0 ≤ x3 then (laws_markEntryS.l0 k (x1.set x3.toNat (⟨x2, (wrap64 (x2 + 1))⟩ : S58)) (wrap64 ((wrap64 (x2 + 1)) + 1)) (wrap64 (x3 + 1))) else none) else (some (x2, x1)))
def laws_markEntryS.f (k : Nat) (a0 : (List S58)) (a1 : Int) : Option (Int × (List S58)) := (laws_markEntryS.l0 k a0 a1 0)
theorem laws_markEntryS.lab : ∀ k, (∀ (x1 : (List S58)) (x2 : Int) (x3 : Int) (r : (Int × (List S58))), laws_markEntryS.l0 k x1 x2 x3 = some r → J prog (.run 33 [0] [l_ 26, b_ 0, c_ 7] [(0, (.rf 0 0 x1.length 2 (x1.length * 2))), (1, (I x2)), (5, (I x3))] [(0, (x1.flatMap e58))] (I r.1) [(0, (r.2.flatMap e58))]))
 | 0 => (by intro x1 x2 x3 r h; unfold laws_markEntryS.l0 at h; cases h)
 | k + 1 => by
  have ih0 := laws_markEntryS.lab k
  · intro x1 x2 x3 r h
    unfold laws_markEntryS.l0 at h
    refine .loop' [c_ 208, c_ 209, c_ 105, l_ 26, b_ 0, c_ 7] ?_
    refine .reg' [0, 1, 5, 9] [] ⟨[(0, (.rf 0 0 x1.length 2 (x1.length * 2))), (1, (I x2)), (5, (I x3)), (9, (B (decide (x3 < (x1.length : Int)))))], [(0, (x1.flatMap e58))], [], []⟩ [c_ 209, c_ 105, l_ 26, b_ 0, c_ 7] aln nocal ?_
    by_cases c1 : x3 < (x1.length : Int)
    · rw [if_pos c1] at h
      refine .cond' (.tmp 9) true [c_ 840, c_ 841, b_ 1, c_ 211, l_ 26, b_ 0, c_ 7] (bT (dT c1)) ?_
      by_cases c2 : 0 ≤ x3
      · rw [if_pos c2] at h
        refine .reg' [0, 1, 5] [.no, .no, .no, .no, .no, .w .un ((x1.set x3.toNat (⟨x2, (at_ x1 x3).f1⟩ : S58)).flatMap e58)] ⟨[(0, (.rf 0 0 x1.length 2 (x1.length * 2))), (1, (I x2)), (5, (I x3))], [(0, ((x1.set x3.toNat (⟨x2, (at_ x1 x3).f1⟩ : S58)).flatMap e58))], [(0 : Int) ≤ x3 ∧ x3 < (x1.length : Int), V.un = V.un, spl (x1.flatMap e58) (0 + x3.toNat * 2 + 0) [(I x2)] = ((x1.set x3.toNat (⟨x2, (at_ x1 x3).f1⟩ : S58)).flatMap e58), x1.length * 2 = (x1.flatMap e58).length ∧ 0 + x3.toNat * 2 + 0 + 1 ≤ (x1.flatMap e58).length], []⟩ [c_ 1682, c_ 1683, b_ 1, c_ 211, l_ 26, b_ 0, c_ 7] (alc ⟨c2, c1⟩ (alc rfl (alc (st_row e58_ok 0 c2 c1 (Nat.le_of_ble_eq_true rfl) rfl) (alc (okA e58_ok c2 c1 (by decide)) aln)))) nocal ?_
        refine .eqs (env2 := [(0, (.rf 0 0 ((x1.set x3.toNat (⟨x2, (at_ x1 x3).f1⟩ : S58)).length) 2 ((x1.set x3.toNat (⟨x2, (at_ x1 x3).f1⟩ : S58)).length * 2))), (1, (I x2)), (5, (I x3))]) (H2 := [(0, ((x1.set x3.toNat (⟨x2, (at_ x1 x3).f1⟩ : S58)).flatMap e58))]) (by first | (simp only [List.length_set]; done) | simp) (by first | rfl | (simp only [List.length_set]; done) | simp) ?_
        refine .reg' [0, 1, 5] [] ⟨[(0, (.rf 0 0 ((x1.set x3.toNat (⟨x2, (at_ x1 x3).f1⟩ : S58)).length) 2 ((x1.set x3.toNat (⟨x2, (at_ x1 x3).f1⟩ : S58)).length * 2))), (1, (I (wrap64 (x2 + 1)))), (5, (I x3))], [(0, ((x1.set x3.toNat (⟨x2, (at_ x1 x3).f1⟩ : S58)).flatMap e58))], [], []⟩ [c_ 3366, c_ 3367, b_ 1, c_ 211, l_ 26, b_ 0, c_ 7] aln nocal ?_
        refine .reg' [0, 1, 5] [.no, .no, .no, .no, .no, .w .un ((x1.set x3.toNat (⟨x2, (wrap64 (x2 + 1))⟩ : S58)).flatMap e58)] ⟨[(0, (.rf 0 0 ((x1.set x3.toNat (⟨x2, (at_ x1 x3).f1⟩ : S58)).length) 2 ((x1.set x3.toNat (⟨x2, (at_ x1 x3).f1⟩ : S58)).length * 2))), (1, (I (wrap64 (x2 + 1)))), (5, (I x3))], [(0, ((x1.set x3.toNat (⟨x2, (wrap64 (x2 + 1))⟩ : S58)).flatMap e58))], [(0 : Int) ≤ x3 ∧ x3 < ((x1.set x3.toNat (⟨x2, (at_ x1 x3).f1⟩ : S58)).length : Int), V.un = V.un, spl ((x1.set x3.toNat (⟨x2, (at_ x1 x3).f1⟩ : S58)).flatMap e58) (0 + x3.toNat * 2 + 1) [(I (wrap64 (x2 + 1)))] = ((x1.set x3.toNat (⟨x2, (wrap64 (x2 + 1))⟩ : S58)).flatMap e58), (x1.set x3.toNat (⟨x2, (at_ x1 x3).f1⟩ : S58)).length * 2 = ((x1.set x3.toNat (⟨x2, (at_ x1 x3).f1⟩ : S58)).flatMap e58).length ∧ 0 + x3.toNat * 2 + 1 + 1 ≤ ((x1.set x3.toNat (⟨x2, (at_ x1 x3).f1⟩ : S58)).flatMap e58).length], []⟩ [c_ 3367, b_ 1, c_ 211, l_ 26, b_ 0, c_ 7] (alc ⟨c2, (ls c1)⟩ (alc rfl (alc (st_row2 e58_ok 1 c2 c1 (Nat.le_of_ble_eq_true rfl) rfl) (alc (okA e58_ok c2 (ls c1) (by decide)) aln)))) nocal ?_
        refine .eqs (env2 := [(0, (.rf 0 0 ((x1.set x3.toNat (⟨x2, (wrap64 (x2 + 1))⟩ : S58)).length) 2 ((x1.set x3.toNat (⟨x2, (wrap64 (x2 + 1))⟩ : S58)).length * 2))), (1, (I (wrap64 (x2 + 1)))), (5, (I x3))]) (H2 := [(0, ((x1.set x3.toNat (⟨x2, (wrap64 (x2 + 1))⟩ : S58)).flatMap e58))]) (by first | (simp only [List.length_set]; done) | simp) (by first | rfl | (simp only [List.length_set]; done) | simp) ?_
        refine .reg' [0, 1, 5] [] ⟨[(0, (.rf 0 0 ((x1.set x3.toNat (⟨x2, (wrap64 (x2 + 1))⟩ : S58)).length) 2 ((x1.set x3.toNat (⟨x2, (wrap64 (x2 + 1))⟩ : S58)).length * 2))), (1, (I (wrap64 ((wrap64 (x2 + 1)) + 1)))), (5, (I x3))], [(0, ((x1.set x3.toNat (⟨x2, (wrap64 (x2 + 1))⟩ : S58)).flatMap e58))], [], []⟩ [c_ 211, l_ 26, b_ 0, c_ 7] aln nocal ?_
        refine .reg' [0, 1, 5] [] ⟨[(0, (.rf 0 0 ((x1.set x3.toNat (⟨x2, (wrap64 (x2 + 1))⟩ : S58)).length) 2 ((x1.set x3.toNat (⟨x2, (wrap64 (x2 + 1))⟩ : S58)).length * 2))), (1, (I (wrap64 ((wrap64 (x2 + 1)) + 1)))), (5, (I (wrap64 (x3 + 1))))], [(0, ((x1.set x3.toNat (⟨x2, (wrap64 (x2 + 1))⟩ : S58)).flatMap e58))], [], []⟩ [l_ 26, b_ 0, c_ 7] aln nocal ?_
        exact ih0 (x1.set x3.toNat (⟨x2, (wrap64 (x2 + 1))⟩ : S58)) (wrap64 ((wrap64 (x2 + 1)) + 1)) (wrap64 (x3 + 1)) _ h
      · rw [if_neg c2] at h
        cases h
    · rw [if_neg c1] at h
      refine .cond' (.tmp 9) false [c_ 14, c_ 15] (bF (dF c1)) ?_
      refine .reg' [4] [] ⟨[(4, (I x2))], [(0, (x1.flatMap e58))], [], []⟩ [c_ 15] aln nocal ?_
      have h := Option.some.inj h
      subst h
      exact .fin' [] [(0, 0)] (I x2) [] aln (shc 0 (rowF e58_ok _) shn) (.z .s)
theorem laws_markEntryS.J (k : Nat) (a0 : (List S58)) (a1 : Int) (r : (Int × (List S58))) (h : laws_markEntryS.f k a0 a1 = some r) : J prog (.call 33 [(.rf 0 0 a0.length 2 (a0.length * 2)), (I a1)] [(0, (a0.flatMap e58))] (I r.1) [(0, (r.2.flatMap e58))]) := by
  unfold laws_markEntryS.f at h
  have ih0 := laws_markEntryS.lab k
  refine .call' [c_ 2, c_ 3] ?_
  refine .reg' [0, 1] [] ⟨[(0, (.rf 0 0 a0.length 2 (a0.length * 2))), (1, (I a1))], [(0, (a0.flatMap e58))], [], []⟩ [c_ 12, c_ 13, c_ 7] aln nocal ?_
  refine .reg' [0, 1, 5] [] ⟨[(0, (.rf 0 0 a0.length 2 (a0.length * 2))), (1, (I a1)), (5, (I 0))], [(0, (a0.flatMap e58))], [], []⟩ [l_ 26, b_ 0, c_ 7] aln nocal ?_
  exact ih0 a0 a1 0 _ h
theorem laws_markEntryS.lenl : ∀ k, (∀ (x1 : (List S58)) (x2 : Int) (x3 : Int) (r : (Int × (List S58))), laws_markEntryS.l0 k x1 x2 x3 = some r → r.2.length = x1.length)
 | 0 => (by intro x1 x2 x3 r h; unfold laws_markEntryS.l0 at h; cases h)
 | k + 1 => by
  have ih0 := laws_markEntryS.lenl k
  · intro x1 x2 x3 r h
    unfold laws_markEntryS.l0 at h
    by_cases c1 : x3 < (x1.length : Int)
    · rw [if_pos c1] at h
      by_cases c2 : 0 ≤ x3
      · rw [if_pos c2] at h
        have q := ih0 (x1.set x3.toNat (⟨x2, (wrap64 (x2 + 1))⟩ : S58)) (wrap64 ((wrap64 (x2 + 1)) + 1)) (wrap64 (x3 + 1)) _ h
        first | exact q | (simp only [List.length_set] at q; exact q)
      · rw [if_neg c2] at h
        cases h
    · rw [if_neg c1] at h
      have h := Option.some.inj h
      subst h
      first | rfl | (simp only [List.length_set]; done) | exact ⟨by first | rfl | simp only [List.length_set]⟩
theorem laws_markEntryS.len (k : Nat) (a0 : (List S58)) (a1 : Int) (r : (Int × (List S58))) (h : laws_markEntryS.f k a0 a1 = some r) : r.2.length = a0.length := by
  unfold laws_markEntryS.f at h
  have ih0 := laws_markEntryS.lenl k
  have q := ih0 a0 a1 0 _ h
  first | exact q | (simp only [List.length_set] at q; exact q)
/-! laws_heldEntryS: function 34 -/
def laws_heldEntryS.l0 : Nat → (List S58) → Int → Int → Option Int
 | 0, _, _, _ => none
 | k + 1, a0, x1, x2 => (if x2 < (a0.length : Int) then (if 0 ≤ x2 then (if (at_ a0 x2).f0 = x1 then (if (at_ a0 x2).f1 = (wrap64 (x1 + 1)) then (laws_heldEntryS.l0 k a0 (wrap64 ((wrap64 (x1 + 1)) + 1)) (wrap64 (x2 + 1))) else (some (-1))) else (some (-1))) else none) else (some x1))
def laws_heldEntryS.f (k : Nat) (a0 : (List S58)) (a1 : Int) : Option Int := (laws_heldEntryS.l0 k a0 a1 0)
theorem laws_heldEntryS.lab : ∀ k, (∀ (a0 : (List S58)) (x1 : Int) (x2 : Int) (r : Int), laws_heldEntryS.l0 k a0 x1 x2 = some r → J prog (.run 34 [] [l_ 26, b_ 0, c_ 7] [(0, (.sl true a0.length 2 (a0.flatMap e58))), (1, (I x1)), (5, (I x2))] [] (I r) []))
 | 0 => (by intro a0 x1 x2 r h; unfold laws_heldEntryS.l0 at h; cases h)
 | k + 1 => by
  have ih0 := laws_heldEntryS.lab k
  · intro a0 x1 x2 r h
    unfold laws_heldEntryS.l0 at h
    refine .loop' [c_ 208, c_ 209, c_ 105, l_ 26, b_ 0, c_ 7] ?_
    refine .reg' [0, 1, 5, 9] [] ⟨[(0, (.sl true a0.length 2 (a0.flatMap e58))), (1, (I x1)), (5, (I x2)), (9, (B (decide (x2 < (a0.length : Int)))))], [], [], []⟩ [c_ 209, c_ 105, l_ 26, b_ 0, c_ 7] aln nocal ?_
    by_cases c1 : x2 < (a0.length : Int)
    · rw [if_pos c1] at h
      refine .cond' (.tmp 9) true [c_ 1680, c_ 1681, c_ 841, b_ 1, c_ 211, l_ 26, b_ 0, c_ 7] (bT (dT c1)) ?_
      by_cases c2 : 0 ≤ x2
      · rw [if_pos c2] at h
        refine .reg' [0, 1, 5, 18] [.no, .no, .no, .no, .v (I (at_ a0 x2).f0)] ⟨[(0, (.sl true a0.length 2 (a0.flatMap e58))), (1, (I x1)), (5, (I x2)), (18, (B (!((at_ a0 x2).f0 == x1))))], [], [(0 : Int) ≤ x2 ∧ x2 < (a0.length : Int), rdC prog 3 (((a0.flatMap e58).drop (x2.toNat * 2)).drop 0) = (I (at_ a0 x2).f0), 1 ≤ (((a0.flatMap e58).drop (x2.toNat * 2)).drop 0).length], []⟩ [c_ 1681, c_ 841, b_ 1, c_ 211, l_ 26, b_ 0, c_ 7] (alc ⟨c2, c1⟩ (alc (ldC e58_ok 0 (by decide) rfl c2 c1) (alc (okIj e58_ok c2 c1 (by decide)) aln))) nocal ?_
        by_cases c3 : (at_ a0 x2).f0 = x1
        · rw [if_pos c3] at h
          refine .cond' (.tmp 18) false [c_ 1682, c_ 1683, b_ 1, c_ 211, l_ 26, b_ 0, c_ 7] (bF (nF (qT c3))) ?_
          refine .reg' [0, 1, 5] [] ⟨[(0, (.sl true a0.length 2 (a0.flatMap e58))), (1, (I (wrap64 (x1 + 1)))), (5, (I x2))], [], [], []⟩ [c_ 6732, c_ 6733, c_ 3367, b_ 1, c_ 211, l_ 26, b_ 0, c_ 7] aln nocal ?_
          refine .reg' [0, 1, 5, 27] [.no, .no, .no, .no, .v (I (at_ a0 x2).f1)] ⟨[(0, (.sl true a0.length 2 (a0.flatMap e58))), (1, (I (wrap64 (x1 + 1)))), (5, (I x2)), (27, (B (!((at_ a0 x2).f1 == (wrap64 (x1 + 1))))))], [], [(0 : Int) ≤ x2 ∧ x2 < (a0.length : Int), rdC prog 3 (((a0.flatMap e58).drop (x2.toNat * 2)).drop 1) = (I (at_ a0 x2).f1), 1 ≤ (((a0.flatMap e58).drop (x2.toNat * 2)).drop 1).length], []⟩ [c_ 6733, c_ 3367, b_ 1, c_ 211, l_ 26, b_ 0, c_ 7] (alc ⟨c2, c1⟩ (alc (ldC e58_ok 1 (by decide) rfl c2 c1) (alc (okIj e58_ok c2 c1 (by decide)) aln))) nocal ?_
          by_cases c4 : (at_ a0 x2).f1 = (wrap64 (x1 + 1))
          · rw [if_pos c4] at h
            refine .cond' (.tmp 27) false [c_ 3367, b_ 1, c_ 211, l_ 26, b_ 0, c_ 7] (bF (nF (qT c4))) ?_
            refine .reg' [0, 1, 5] [] ⟨[(0, (.sl true a0.length 2 (a0.flatMap e58))), (1, (I (wrap64 ((wrap64 (x1 + 1)) + 1)))), (5, (I x2))], [], [], []⟩ [c_ 211, l_ 26, b_ 0, c_ 7] aln nocal ?_
            refine .reg' [0, 1, 5] [] ⟨[(0, (.sl true a0.length 2 (a0.flatMap e58))), (1, (I (wrap64 ((wrap64 (x1 + 1)) + 1)))), (5, (I (wrap64 (x2 + 1))))], [], [], []⟩ [l_ 26, b_ 0, c_ 7] aln nocal ?_
            exact ih0 a0 (wrap64 ((wrap64 (x1 + 1)) + 1)) (wrap64 (x2 + 1)) _ h
          · rw [if_neg c4] at h
            refine .cond' (.tmp 27) true [c_ 26932, c_ 26933, c_ 3367, b_ 1, c_ 211, l_ 26, b_ 0, c_ 7] (bT (nT (qF c4))) ?_
            refine .reg' [4] [] ⟨[(4, (I (-1)))], [], [], []⟩ [c_ 26933, c_ 3367, b_ 1, c_ 211, l_ 26, b_ 0, c_ 7] aln nocal ?_
            have h := Option.some.inj h
            subst h
            exact .fin0 [] (I (-1)) [] aln (.z .s)
        · rw [if_neg c3] at h
          refine .cond' (.tmp 18) true [c_ 6724, c_ 6725, c_ 841, b_ 1, c_ 211, l_ 26, b_ 0, c_ 7] (bT (nT (qF c3))) ?_
          refine .reg' [4] [] ⟨[(4, (I (-1)))], [], [], []⟩ [c_ 6725, c_ 841, b_ 1, c_ 211, l_ 26, b_ 0, c_ 7] aln nocal ?_
          have h := Option.some.inj h
          subst h
          exact .fin0 [] (I (-1)) [] aln (.z .s)
      · rw [if_neg c2] at h
        cases h
    · rw [if_neg c1] at h
      refine .cond' (.tmp 9) false [c_ 14, c_ 15] (bF (dF c1)) ?_
      refine .reg' [4] [] ⟨[(4, (I x1))], [], [], []⟩ [c_ 15] aln nocal ?_
      have h := Option.some.inj h
      subst h
      exact .fin0 [] (I x1) [] aln (.z .s)
theorem laws_heldEntryS.J (k : Nat) (a0 : (List S58)) (a1 : Int) (r : Int) (h : laws_heldEntryS.f k a0 a1 = some r) : J prog (.call 34 [(.sl true a0.length 2 (a0.flatMap e58)), (I a1)] [] (I r) []) := by
  unfold laws_heldEntryS.f at h
  have ih0 := laws_heldEntryS.lab k
  refine .call' [c_ 2, c_ 3] ?_
  refine .reg' [0, 1] [] ⟨[(0, (.sl true a0.length 2 (a0.flatMap e58))), (1, (I a1))], [], [], []⟩ [c_ 12, c_ 13, c_ 7] aln nocal ?_
  refine .reg' [0, 1, 5] [] ⟨[(0, (.sl true a0.length 2 (a0.flatMap e58))), (1, (I a1)), (5, (I 0))], [], [], []⟩ [l_ 26, b_ 0, c_ 7] aln nocal ?_
  exact ih0 a0 a1 0 _ h
/-! laws_FnExactBoard: function 8 -/
def laws_FnExactBoard.f (k : Nat) (a0 : (List S23)) (a1 : Int) (a2 : Int) (a3 : Int) : Option Bool := ((laws_szTripS.f k a0 1048576).bind fun x1 => (if x1 < 0 then (some true) else ((laws_toTripS.f k a0).bind fun x2 => ((spec_Board.f k x2 a1 a2 a3).bind fun x3 => ((laws_toTripS.f k a0).bind fun x4 => ((impl_Board.f k x4 a1 a2 a3).bind fun x5 => ((laws_eqEntryS.f k x5 x3).bind fun x6 => (if x6 = true then ((laws_toTripS.f k a0).bind fun x7 => ((laws_eqTripS.f k x4 x7).bind fun x8 => (if x8 = true then ((laws_markTripS.f k x4 1).bind fun x9 => (if x9.1 < 0 then (some false) else ((laws_eqEntryS.f k x5 x3).bind fun x10 => (if x10 = true then ((laws_markEntryS.f k x5 1).bind fun x11 => ((laws_heldEntryS.f k x11.2 1).bind fun x12 => (if x12 < 0 then (some false) else (if x12 = x11.1 then ((laws_toTripS.f k a0).bind fun x13 => ((impl_Board.f k x13 a1 a2 a3).bind fun x14 => ((laws_eqEntryS.f k x14 x3).bind fun x15 => (if x15 = true then ((laws_heldEntryS.f k x11.2 1).bind fun x16 => (if x16 < 0 then (some false) else (if x16 = x11.1 then (some true) else (some false)))) else (some false))))) else (some false))))) else (some false))))) else (some false)))) else (some false)))))))))
end Go.Proofs.Ytoeedickghjdbaa.Fns
