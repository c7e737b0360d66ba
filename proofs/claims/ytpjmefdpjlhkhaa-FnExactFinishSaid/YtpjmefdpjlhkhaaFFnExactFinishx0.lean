/- The functions that the law FnExactFinish reaches, by the engine. Printed by a program of this seat. -/
import Derived.Test.YtpjmefdpjlhkhaaE5
import Derived.Test.YtpjmefdpjlhkhaaProg
namespace Go.Proofs.Ytpjmefdpjlhkhaa.Fns
open Go.Proofs.Try Go.Proofs.Ytpjmefdpjlhkhaa.Eng Go.RowKit
set_option maxRecDepth 100000
set_option linter.unusedVariables false
set_option linter.unusedSimpArgs false
structure S44 where
  f0 : Int
  f1 : Int
  deriving Inhabited
def e44 (x : S44) : List V := [I x.f0, I x.f1]
theorem e44_ok : Enc (e44) 2 where
  len := fun _ => rfl
  self := fun x v h H tb bor => by
    simp only [e44, List.mem_cons, List.not_mem_nil, or_false] at h
    rcases h with h | h
    · subst h; exact .s
    · subst h; exact .s
  cln := fun x v h => by
    simp only [e44, List.mem_cons, List.not_mem_nil, or_false] at h
    rcases h with h | h
    · subst h; exact .s
    · subst h; exact .s
theorem e44_c {b : Bool} : EncC b e44 := by
  intro x v h
  simp only [e44, List.mem_cons, List.not_mem_nil, or_false] at h
  rcases h with h | h
  · subst h; exact .s
  · subst h; exact .s
structure S65 where
  f0 : (List Int)
  f1 : (List (List Int))
  deriving Inhabited
/-! laws_szSingleS: function 12 -/
def laws_szSingleS.f (a0 : (List S44)) (a1 : Int) : Option Int := (if (wrap64 (a1 - (a0.length : Int))) < 0 then (some (-1)) else (some (wrap64 (a1 - (a0.length : Int)))))
theorem laws_szSingleS.J (a0 : (List S44)) (a1 : Int) (r : Int) (h : laws_szSingleS.f a0 a1 = some r) : J prog (.call 12 [(.sl true a0.length 2 (a0.flatMap e44)), (I a1)] [] (I r) []) := by
  unfold laws_szSingleS.f at h
  refine .call' [c_ 2, c_ 3] ?_
  refine .reg' [0, 1] [] ⟨[(0, (.sl true a0.length 2 (a0.flatMap e44))), (1, (I a1))], [], [], []⟩ [c_ 6, c_ 7] aln nocal ?_
  refine .reg' [1] [] ⟨[(1, (I (wrap64 (a1 - (a0.length : Int)))))], [], [], []⟩ [c_ 28, c_ 29, c_ 15] aln nocal ?_
  refine .reg' [1, 10] [] ⟨[(1, (I (wrap64 (a1 - (a0.length : Int))))), (10, (B (decide ((wrap64 (a1 - (a0.length : Int))) < 0))))], [], [], []⟩ [c_ 29, c_ 15] aln nocal ?_
  by_cases c1 : (wrap64 (a1 - (a0.length : Int))) < 0
  · rw [if_pos c1] at h
    refine .cond' (.tmp 10) true [c_ 116, c_ 117, c_ 15] (bT (dT c1)) ?_
    refine .reg' [4] [] ⟨[(4, (I (-1)))], [], [], []⟩ [c_ 117, c_ 15] aln nocal ?_
    have h := Option.some.inj h
    subst h
    exact .fin0 [] (I (-1)) [] aln (.z .s)
  · rw [if_neg c1] at h
    refine .cond' (.tmp 10) false [c_ 30, c_ 31] (bF (dF c1)) ?_
    refine .reg' [4] [] ⟨[(4, (I (wrap64 (a1 - (a0.length : Int)))))], [], [], []⟩ [c_ 31] aln nocal ?_
    have h := Option.some.inj h
    subst h
    exact .fin0 [] (I (wrap64 (a1 - (a0.length : Int)))) [] aln (.z .s)
/-! laws_toIntS: function 14 -/
def laws_toIntS.l0 : Nat → (List Int) → (List Int) → Int → Option (List Int)
 | 0, _, _, _ => none
 | k + 1, a0, x1, x2 => (if x2 < (a0.length : Int) then (if 0 ≤ x2 then (if x2 < (x1.length : Int) then (laws_toIntS.l0 k a0 (x1.set x2.toNat (at_ a0 x2)) (wrap64 (x2 + 1))) else none) else none) else (some x1))
def laws_toIntS.f (k : Nat) (a0 : (List Int)) : Option (List Int) := (if 0 ≤ (a0.length : Int) then (if (a0.length : Int) * 8 ≤ 281474976710656 then (laws_toIntS.l0 k a0 (List.replicate (a0.length : Int).toNat (0 : Int)) 0) else none) else none)
theorem laws_toIntS.lab : ∀ k, (∀ (a0 : (List Int)) (x1 : (List Int)) (x2 : Int) (r : (List Int)), laws_toIntS.l0 k a0 x1 x2 = some r → J prog (.run 14 [] [l_ 58, b_ 0, c_ 15] [(0, (.sl true a0.length 1 (a0.flatMap encI))), (3, (.rf 514 0 x1.length 1 (x1.length * 1))), (4, (I x2))] [(514, (x1.flatMap encI))] (.rf 514 0 r.length 1 (r.length * 1)) [(514, (r.flatMap encI))]))
 | 0 => (by intro a0 x1 x2 r h; unfold laws_toIntS.l0 at h; cases h)
 | k + 1 => by
  have ih0 := laws_toIntS.lab k
  · intro a0 x1 x2 r h
    unfold laws_toIntS.l0 at h
    refine .loop' [c_ 464, c_ 465, c_ 233, l_ 58, b_ 0, c_ 15] ?_
    refine .reg' [0, 3, 4, 11] [] ⟨[(0, (.sl true a0.length 1 (a0.flatMap encI))), (3, (.rf 514 0 x1.length 1 (x1.length * 1))), (4, (I x2)), (11, (B (decide (x2 < (a0.length : Int)))))], [(514, (x1.flatMap encI))], [], []⟩ [c_ 465, c_ 233, l_ 58, b_ 0, c_ 15] aln nocal ?_
    by_cases c3 : x2 < (a0.length : Int)
    · rw [if_pos c3] at h
      refine .cond' (.tmp 11) true [c_ 932, b_ 1, c_ 467, l_ 58, b_ 0, c_ 15] (bT (dT c3)) ?_
      by_cases c4 : 0 ≤ x2
      · rw [if_pos c4] at h
        by_cases c5 : x2 < (x1.length : Int)
        · rw [if_pos c5] at h
          refine .reg' [0, 3, 4] [.no, .no, .no, .no, .no, .v (I (at_ a0 x2)), .no, .w .un ((x1.set x2.toNat (at_ a0 x2)).flatMap encI)] ⟨[(0, (.sl true a0.length 1 (a0.flatMap encI))), (3, (.rf 514 0 x1.length 1 (x1.length * 1))), (4, (I x2))], [(514, ((x1.set x2.toNat (at_ a0 x2)).flatMap encI))], [(0 : Int) ≤ x2 ∧ x2 < (a0.length : Int), rdC prog 3 ((a0.flatMap encI).drop (x2.toNat * 1)) = (I (at_ a0 x2)), 1 ≤ ((a0.flatMap encI).drop (x2.toNat * 1)).length, (0 : Int) ≤ x2 ∧ x2 < (x1.length : Int), V.un = V.un, spl (x1.flatMap encI) (0 + x2.toNat * 1) [(I (at_ a0 x2))] = ((x1.set x2.toNat (at_ a0 x2)).flatMap encI), x1.length * 1 = (x1.flatMap encI).length ∧ 0 + x2.toNat * 1 + 1 ≤ (x1.flatMap encI).length], []⟩ [c_ 467, l_ 58, b_ 0, c_ 15] (alc ⟨c4, c3⟩ (alc (ldC1 encI_ok rfl c4 c3) (alc (okI encI_ok c4 c3 (by decide)) (alc ⟨c4, c5⟩ (alc rfl (alc (st_row1 encI_ok c4 c5 (I (at_ a0 x2)) rfl) (alc (okA0 encI_ok c4 c5 (by decide)) aln))))))) nocal ?_
          refine .eqs (env2 := [(0, (.sl true a0.length 1 (a0.flatMap encI))), (3, (.rf 514 0 ((x1.set x2.toNat (at_ a0 x2)).length) 1 ((x1.set x2.toNat (at_ a0 x2)).length * 1))), (4, (I x2))]) (H2 := [(514, ((x1.set x2.toNat (at_ a0 x2)).flatMap encI))]) (by first | (simp only [List.length_set]; done) | simp) (by first | rfl | (simp only [List.length_set]; done) | simp) ?_
          refine .reg' [0, 3, 4] [] ⟨[(0, (.sl true a0.length 1 (a0.flatMap encI))), (3, (.rf 514 0 ((x1.set x2.toNat (at_ a0 x2)).length) 1 ((x1.set x2.toNat (at_ a0 x2)).length * 1))), (4, (I (wrap64 (x2 + 1))))], [(514, ((x1.set x2.toNat (at_ a0 x2)).flatMap encI))], [], []⟩ [l_ 58, b_ 0, c_ 15] aln nocal ?_
          exact ih0 a0 (x1.set x2.toNat (at_ a0 x2)) (wrap64 (x2 + 1)) _ h
        · rw [if_neg c5] at h
          cases h
      · rw [if_neg c4] at h
        cases h
    · rw [if_neg c3] at h
      refine .cond' (.tmp 11) false [c_ 30, c_ 31] (bF (dF c3)) ?_
      refine .reg' [2] [] ⟨[(2, (.rf 514 0 x1.length 1 (x1.length * 1)))], [(514, (x1.flatMap encI))], [], []⟩ [c_ 31] aln nocal ?_
      have h := Option.some.inj h
      subst h
      exact .fin' [] [(514, 514)] (.rf 514 0 x1.length 1 (x1.length * 1)) [] aln (shc 514 (rowF encI_ok _) shn) (.rf (memP_mem (p := (514, 514)) rfl))
theorem laws_toIntS.J (k : Nat) (a0 : (List Int)) (r : (List Int)) (h : laws_toIntS.f k a0 = some r) : J prog (.call 14 [(.sl true a0.length 1 (a0.flatMap encI))] [] (.rf 514 0 r.length 1 (r.length * 1)) [(514, (r.flatMap encI))]) := by
  unfold laws_toIntS.f at h
  have ih0 := laws_toIntS.lab k
  refine .call' [c_ 2, c_ 3] ?_
  refine .reg' [0] [] ⟨[(0, (.sl true a0.length 1 (a0.flatMap encI)))], [], [], []⟩ [c_ 6, c_ 7] aln nocal ?_
  by_cases c1 : 0 ≤ (a0.length : Int)
  · rw [if_pos c1] at h
    by_cases c2 : (a0.length : Int) * 8 ≤ 281474976710656
    · rw [if_pos c2] at h
      refine .reg' [0, 3] [.no, .no, .w (.rf 514 0 ((List.replicate (a0.length : Int).toNat (0 : Int)).length) 1 ((List.replicate (a0.length : Int).toNat (0 : Int)).length * 1)) ((List.replicate (a0.length : Int).toNat (0 : Int)).flatMap encI)] ⟨[(0, (.sl true a0.length 1 (a0.flatMap encI))), (3, (.rf 514 0 ((List.replicate (a0.length : Int).toNat (0 : Int)).length) 1 ((List.replicate (a0.length : Int).toNat (0 : Int)).length * 1)))], [(514, ((List.replicate (a0.length : Int).toNat (0 : Int)).flatMap encI))], [V.rf 514 0 (a0.length : Int).toNat 1 ((a0.length : Int).toNat * 1) = (.rf 514 0 ((List.replicate (a0.length : Int).toNat (0 : Int)).length) 1 ((List.replicate (a0.length : Int).toNat (0 : Int)).length * 1)), rept (a0.length : Int).toNat [(I 0)] = (List.replicate (a0.length : Int).toNat (0 : Int)).flatMap encI, (a0.length : Int) = (a0.length : Int) ∧ 0 ≤ (a0.length : Int) ∧ (a0.length : Int) * 8 ≤ 281474976710656 ∧ (a0.length : Int) ≤ 9223372036854775807], []⟩ [c_ 28, c_ 29, c_ 15] (alc mkV (alc (row_rept1 (enc := encI) (x := 0) (v := (I 0)) rfl _) (alc ⟨rfl, c1, c2, by omega⟩ aln))) nocal ?_
      refine .reg' [0, 3, 4] [] ⟨[(0, (.sl true a0.length 1 (a0.flatMap encI))), (3, (.rf 514 0 ((List.replicate (a0.length : Int).toNat (0 : Int)).length) 1 ((List.replicate (a0.length : Int).toNat (0 : Int)).length * 1))), (4, (I 0))], [(514, ((List.replicate (a0.length : Int).toNat (0 : Int)).flatMap encI))], [], []⟩ [l_ 58, b_ 0, c_ 15] aln nocal ?_
      exact ih0 a0 (List.replicate (a0.length : Int).toNat (0 : Int)) 0 _ h
    · rw [if_neg c2] at h
      cases h
  · rw [if_neg c1] at h
    cases h
/-! laws_toSingle: function 41 -/
def laws_toSingle.f (a0 : S44) : Option S44 := (some a0)
theorem laws_toSingle.J (a0 : S44) (r : S44) (h : laws_toSingle.f a0 = some r) : J prog (.call 41 [(.ag [(I a0.f0), (I a0.f1)])] [] (.ag [(I r.f0), (I r.f1)]) []) := by
  unfold laws_toSingle.f at h
  refine .call' [c_ 2, c_ 3] ?_
  refine .reg' [1, 2] [] ⟨[(1, (.pt 256 0 2)), (2, (.pt 257 0 2))], [(256, [(I a0.f0), (I a0.f1)]), (257, [(I 0), (I 0)])], [], []⟩ [c_ 6, c_ 7] aln nocal ?_
  refine .reg' [1, 2, 3] [] ⟨[(1, (.pt 256 0 2)), (2, (.pt 257 0 2)), (3, (.pt 512 0 2))], [(256, [(I a0.f0), (I a0.f1)]), (257, [(I 0), (I 0)]), (512, [(I 0), (I 0)])], [], []⟩ [c_ 14, c_ 15] aln nocal ?_
  refine .reg' [1, 2, 3] [] ⟨[(1, (.pt 256 0 2)), (2, (.pt 257 0 2)), (3, (.pt 512 0 2))], [(256, [(I a0.f0), (I a0.f1)]), (257, [(I 0), (I 0)]), (512, [(I a0.f0), (I 0)])], [2 = 2 ∧ 0 + 1 ≤ 2, 2 = 2 ∧ 0 + 1 ≤ 2], []⟩ [c_ 30, c_ 31] (alc ⟨rfl, by decide⟩ (alc ⟨rfl, by decide⟩ aln)) nocal ?_
  refine .reg' [2, 3] [] ⟨[(2, (.pt 257 0 2)), (3, (.pt 512 0 2))], [(256, [(I a0.f0), (I a0.f1)]), (257, [(I 0), (I 0)]), (512, [(I a0.f0), (I a0.f1)])], [2 = 2 ∧ 1 + 1 ≤ 2, 2 = 2 ∧ 1 + 1 ≤ 2], []⟩ [c_ 62, c_ 63] (alc ⟨rfl, by decide⟩ (alc ⟨rfl, by decide⟩ aln)) nocal ?_
  refine .reg' [2] [] ⟨[(2, (.pt 257 0 2))], [(256, [(I a0.f0), (I a0.f1)]), (257, [(I a0.f0), (I a0.f1)]), (512, [(I a0.f0), (I a0.f1)])], [2 = 2 ∧ 0 + 2 ≤ 2, 2 = 2 ∧ 0 + 2 ≤ 2], []⟩ [c_ 63] (alc ⟨rfl, by decide⟩ (alc ⟨rfl, by decide⟩ aln)) nocal ?_
  have h := Option.some.inj h
  subst h
  exact .fin0 [] (.ag [(I a0.f0), (I a0.f1)]) [2 = 2 ∧ 0 + 2 ≤ 2] (alc ⟨rfl, by decide⟩ aln) (.z (frz_ag (a2c .s (a2c .s a2n))))
/-! laws_toSingleS: function 15 -/
def laws_toSingleS.l0 : Nat → (List S44) → (List S44) → Int → Option (List S44)
 | 0, _, _, _ => none
 | k + 1, a0, x1, x2 => (if x2 < (a0.length : Int) then (if 0 ≤ x2 then ((laws_toSingle.f (at_ a0 x2)).bind fun x3 => (if x2 < (x1.length : Int) then (laws_toSingleS.l0 k a0 (x1.set x2.toNat x3) (wrap64 (x2 + 1))) else none)) else none) else (some x1))
def laws_toSingleS.f (k : Nat) (a0 : (List S44)) : Option (List S44) := (if 0 ≤ (a0.length : Int) then (if (a0.length : Int) * 16 ≤ 281474976710656 then (laws_toSingleS.l0 k a0 (List.replicate (a0.length : Int).toNat (⟨0, 0⟩ : S44)) 0) else none) else none)
theorem laws_toSingleS.lab : ∀ k, (∀ (a0 : (List S44)) (x1 : (List S44)) (x2 : Int) (r : (List S44)), laws_toSingleS.l0 k a0 x1 x2 = some r → J prog (.run 15 [] [l_ 58, b_ 0, c_ 15] [(0, (.sl true a0.length 2 (a0.flatMap e44))), (3, (.rf 514 0 x1.length 2 (x1.length * 2))), (4, (I x2))] [(514, (x1.flatMap e44))] (.rf 514 0 r.length 2 (r.length * 2)) [(514, (r.flatMap e44))]))
 | 0 => (by intro a0 x1 x2 r h; unfold laws_toSingleS.l0 at h; cases h)
 | k + 1 => by
  have ih0 := laws_toSingleS.lab k
  · intro a0 x1 x2 r h
    unfold laws_toSingleS.l0 at h
    refine .loop' [c_ 464, c_ 465, c_ 233, l_ 58, b_ 0, c_ 15] ?_
    refine .reg' [0, 3, 4, 11] [] ⟨[(0, (.sl true a0.length 2 (a0.flatMap e44))), (3, (.rf 514 0 x1.length 2 (x1.length * 2))), (4, (I x2)), (11, (B (decide (x2 < (a0.length : Int)))))], [(514, (x1.flatMap e44))], [], []⟩ [c_ 465, c_ 233, l_ 58, b_ 0, c_ 15] aln nocal ?_
    by_cases c3 : x2 < (a0.length : Int)
    · rw [if_pos c3] at h
      refine .cond' (.tmp 11) true [c_ 932, b_ 1, c_ 467, l_ 58, b_ 0, c_ 15] (bT (dT c3)) ?_
      by_cases c4 : 0 ≤ x2
      · rw [if_pos c4] at h
        obtain ⟨x3, hx3, h⟩ := Option.bind_eq_some_iff.mp h
        by_cases c5 : x2 < (x1.length : Int)
        · rw [if_pos c5] at h
          refine .reg' [0, 3, 4] [.no, .no, .no, .no, .no, .v (.ag [(I (at_ a0 x2).f0), (I (at_ a0 x2).f1)]), .c ⟨41, [(.ag [(I (at_ a0 x2).f0), (I (at_ a0 x2).f1)])], [], (.ag [(I x3.f0), (I x3.f1)]), [], [], [], [], (.ag [(I x3.f0), (I x3.f1)]), []⟩, .no, .w .un ((x1.set x2.toNat x3).flatMap e44)] ⟨[(0, (.sl true a0.length 2 (a0.flatMap e44))), (3, (.rf 514 0 x1.length 2 (x1.length * 2))), (4, (I x2))], [(514, ((x1.set x2.toNat x3).flatMap e44))], [(0 : Int) ≤ x2 ∧ x2 < (a0.length : Int), rdC prog 49 ((a0.flatMap e44).drop (x2.toNat * 2)) = (.ag [(I (at_ a0 x2).f0), (I (at_ a0 x2).f1)]), 2 ≤ ((a0.flatMap e44).drop (x2.toNat * 2)).length, COK (hget [(514, (x1.flatMap e44))]) [(.ag [(I (at_ a0 x2).f0), (I (at_ a0 x2).f1)])] ⟨41, [(.ag [(I (at_ a0 x2).f0), (I (at_ a0 x2).f1)])], [], (.ag [(I x3.f0), (I x3.f1)]), [], [], [], [], (.ag [(I x3.f0), (I x3.f1)]), []⟩, (0 : Int) ≤ x2 ∧ x2 < (x1.length : Int), V.un = V.un, spl (x1.flatMap e44) (0 + x2.toNat * 2) [(I x3.f0), (I x3.f1)] = ((x1.set x2.toNat x3).flatMap e44), x1.length * 2 = (x1.flatMap e44).length ∧ 0 + x2.toNat * 2 + 2 ≤ (x1.flatMap e44).length], [⟨41, [(.ag [(I (at_ a0 x2).f0), (I (at_ a0 x2).f1)])], [], (.ag [(I x3.f0), (I x3.f1)]), [], [], [], [], (.ag [(I x3.f0), (I x3.f1)]), []⟩]⟩ [c_ 467, l_ 58, b_ 0, c_ 15] (alc ⟨c4, c3⟩ (alc (ldA e44_ok rfl rfl c4 c3) (alc (okI e44_ok c4 c3 (by decide)) (alc (cok0 false (a2c (.z (frz_ag (a2c .s (a2c .s a2n)))) a2n) (.z (cln_ag (alc1 .s (alc1 .s aln1)))) (fun h => absurd h (by decide))) (alc ⟨c4, c5⟩ (alc rfl (alc (st_row e44_ok 0 c4 c5 (Nat.le_of_ble_eq_true rfl) rfl) (alc (okA0 e44_ok c4 c5 (by decide)) aln)))))))) (acal (laws_toSingle.J (at_ a0 x2) _ hx3) nocal) ?_
          refine .eqs (env2 := [(0, (.sl true a0.length 2 (a0.flatMap e44))), (3, (.rf 514 0 ((x1.set x2.toNat x3).length) 2 ((x1.set x2.toNat x3).length * 2))), (4, (I x2))]) (H2 := [(514, ((x1.set x2.toNat x3).flatMap e44))]) (by first | (simp only [List.length_set]; done) | simp) (by first | rfl | (simp only [List.length_set]; done) | simp) ?_
          refine .reg' [0, 3, 4] [] ⟨[(0, (.sl true a0.length 2 (a0.flatMap e44))), (3, (.rf 514 0 ((x1.set x2.toNat x3).length) 2 ((x1.set x2.toNat x3).length * 2))), (4, (I (wrap64 (x2 + 1))))], [(514, ((x1.set x2.toNat x3).flatMap e44))], [], []⟩ [l_ 58, b_ 0, c_ 15] aln nocal ?_
          exact ih0 a0 (x1.set x2.toNat x3) (wrap64 (x2 + 1)) _ h
        · rw [if_neg c5] at h
          cases h
      · rw [if_neg c4] at h
        cases h
    · rw [if_neg c3] at h
      refine .cond' (.tmp 11) false [c_ 30, c_ 31] (bF (dF c3)) ?_
      refine .reg' [2] [] ⟨[(2, (.rf 514 0 x1.length 2 (x1.length * 2)))], [(514, (x1.flatMap e44))], [], []⟩ [c_ 31] aln nocal ?_
      have h := Option.some.inj h
      subst h
      exact .fin' [] [(514, 514)] (.rf 514 0 x1.length 2 (x1.length * 2)) [] aln (shc 514 (rowF e44_ok _) shn) (.rf (memP_mem (p := (514, 514)) rfl))
theorem laws_toSingleS.J (k : Nat) (a0 : (List S44)) (r : (List S44)) (h : laws_toSingleS.f k a0 = some r) : J prog (.call 15 [(.sl true a0.length 2 (a0.flatMap e44))] [] (.rf 514 0 r.length 2 (r.length * 2)) [(514, (r.flatMap e44))]) := by
  unfold laws_toSingleS.f at h
  have ih0 := laws_toSingleS.lab k
  refine .call' [c_ 2, c_ 3] ?_
  refine .reg' [0] [] ⟨[(0, (.sl true a0.length 2 (a0.flatMap e44)))], [], [], []⟩ [c_ 6, c_ 7] aln nocal ?_
  by_cases c1 : 0 ≤ (a0.length : Int)
  · rw [if_pos c1] at h
    by_cases c2 : (a0.length : Int) * 16 ≤ 281474976710656
    · rw [if_pos c2] at h
      refine .reg' [0, 3] [.no, .no, .w (.rf 514 0 ((List.replicate (a0.length : Int).toNat (⟨0, 0⟩ : S44)).length) 2 ((List.replicate (a0.length : Int).toNat (⟨0, 0⟩ : S44)).length * 2)) ((List.replicate (a0.length : Int).toNat (⟨0, 0⟩ : S44)).flatMap e44)] ⟨[(0, (.sl true a0.length 2 (a0.flatMap e44))), (3, (.rf 514 0 ((List.replicate (a0.length : Int).toNat (⟨0, 0⟩ : S44)).length) 2 ((List.replicate (a0.length : Int).toNat (⟨0, 0⟩ : S44)).length * 2)))], [(514, ((List.replicate (a0.length : Int).toNat (⟨0, 0⟩ : S44)).flatMap e44))], [V.rf 514 0 (a0.length : Int).toNat 2 ((a0.length : Int).toNat * 2) = (.rf 514 0 ((List.replicate (a0.length : Int).toNat (⟨0, 0⟩ : S44)).length) 2 ((List.replicate (a0.length : Int).toNat (⟨0, 0⟩ : S44)).length * 2)), rept (a0.length : Int).toNat [(I 0), (I 0)] = (List.replicate (a0.length : Int).toNat (⟨0, 0⟩ : S44)).flatMap e44, (a0.length : Int) = (a0.length : Int) ∧ 0 ≤ (a0.length : Int) ∧ (a0.length : Int) * 16 ≤ 281474976710656 ∧ (a0.length : Int) ≤ 9223372036854775807], []⟩ [c_ 28, c_ 29, c_ 15] (alc mkV (alc (row_rept (enc := e44) (x := (⟨0, 0⟩ : S44)) (by decide) _) (alc ⟨rfl, c1, c2, by omega⟩ aln))) nocal ?_
      refine .reg' [0, 3, 4] [] ⟨[(0, (.sl true a0.length 2 (a0.flatMap e44))), (3, (.rf 514 0 ((List.replicate (a0.length : Int).toNat (⟨0, 0⟩ : S44)).length) 2 ((List.replicate (a0.length : Int).toNat (⟨0, 0⟩ : S44)).length * 2))), (4, (I 0))], [(514, ((List.replicate (a0.length : Int).toNat (⟨0, 0⟩ : S44)).flatMap e44))], [], []⟩ [l_ 58, b_ 0, c_ 15] aln nocal ?_
      exact ih0 a0 (List.replicate (a0.length : Int).toNat (⟨0, 0⟩ : S44)) 0 _ h
    · rw [if_neg c2] at h
      cases h
  · rw [if_neg c1] at h
    cases h
/-! spec_l01In: function 38 -/
def spec_l01In.f (a0 : Int) (a1 : Int) (a2 : Int) : Option Bool := (if a1 ≤ a0 then (some (decide (a0 ≤ a2))) else (some false))
theorem spec_l01In.J (a0 : Int) (a1 : Int) (a2 : Int) (r : Bool) (h : spec_l01In.f a0 a1 a2 = some r) : J prog (.call 38 [(I a0), (I a1), (I a2)] [] (B r) []) := by
  unfold spec_l01In.f at h
  refine .call' [c_ 2, c_ 3] ?_
  refine .reg' [0, 1, 2] [] ⟨[(0, (I a0)), (1, (I a1)), (2, (I a2))], [], [], []⟩ [c_ 6, c_ 7] aln nocal ?_
  by_cases c1 : a1 ≤ a0
  · rw [if_pos c1] at h
    refine .reg' [6] [.no, .no, .no, .v (B true)] ⟨[(6, (B (decide (a0 ≤ a2))))], [], [(B (decide (a1 ≤ a0)) : V) = B true], []⟩ [c_ 7] (alc (bT (dT c1)) aln) nocal ?_
    have h := Option.some.inj h
    subst h
    exact .fin0 [] (B (decide (a0 ≤ a2))) [] aln (.z .s)
  · rw [if_neg c1] at h
    refine .reg' [6] [.no, .no, .no, .v (B false)] ⟨[(6, (B false))], [], [(B (decide (a1 ≤ a0)) : V) = B false], []⟩ [c_ 7] (alc (bF (dF c1)) aln) nocal ?_
    have h := Option.some.inj h
    subst h
    exact .fin0 [] (B false) [] aln (.z .s)
/-! spec_l07Line: function 37 -/
def spec_l07Line.l0 : Nat → (List Int) → Int → Option Bool
 | 0, _, _ => none
 | k + 1, a0, x1 => (if x1 < (a0.length : Int) then (if 0 ≤ x1 then ((spec_l01In.f (at_ a0 x1) 1 4).bind fun x2 => (if x2 = true then (spec_l07Line.l0 k a0 (wrap64 (x1 + 1))) else (some false))) else none) else ((spec_l01In.f (a0.length : Int) 2 5).bind fun x3 => (some x3)))
def spec_l07Line.f (k : Nat) (a0 : (List Int)) : Option Bool := (spec_l07Line.l0 k a0 0)
theorem spec_l07Line.lab : ∀ k, (∀ (a0 : (List Int)) (x1 : Int) (r : Bool), spec_l07Line.l0 k a0 x1 = some r → J prog (.run 37 [] [l_ 26, b_ 0, c_ 7] [(0, (.sl true a0.length 1 (a0.flatMap encI))), (3, (I x1))] [] (B r) []))
 | 0 => (by intro a0 x1 r h; unfold spec_l07Line.l0 at h; cases h)
 | k + 1 => by
  have ih0 := spec_l07Line.lab k
  · intro a0 x1 r h
    unfold spec_l07Line.l0 at h
    refine .loop' [c_ 208, c_ 209, c_ 105, l_ 26, b_ 0, c_ 7] ?_
    refine .reg' [0, 3, 7] [] ⟨[(0, (.sl true a0.length 1 (a0.flatMap encI))), (3, (I x1)), (7, (B (decide (x1 < (a0.length : Int)))))], [], [], []⟩ [c_ 209, c_ 105, l_ 26, b_ 0, c_ 7] aln nocal ?_
    by_cases c1 : x1 < (a0.length : Int)
    · rw [if_pos c1] at h
      refine .cond' (.tmp 7) true [c_ 840, c_ 841, b_ 1, c_ 211, l_ 26, b_ 0, c_ 7] (bT (dT c1)) ?_
      by_cases c2 : 0 ≤ x1
      · rw [if_pos c2] at h
        obtain ⟨x2, hx2, h⟩ := Option.bind_eq_some_iff.mp h
        refine .reg' [0, 3, 15] [.no, .no, .no, .v (I (at_ a0 x1)), .c ⟨38, [(I (at_ a0 x1)), (I 1), (I 4)], [], (B x2), [], [], [], [], (B x2), []⟩] ⟨[(0, (.sl true a0.length 1 (a0.flatMap encI))), (3, (I x1)), (15, (B (!x2)))], [], [(0 : Int) ≤ x1 ∧ x1 < (a0.length : Int), rdC prog 3 ((a0.flatMap encI).drop (x1.toNat * 1)) = (I (at_ a0 x1)), 1 ≤ ((a0.flatMap encI).drop (x1.toNat * 1)).length, COK (hget []) [(I (at_ a0 x1)), (I 1), (I 4)] ⟨38, [(I (at_ a0 x1)), (I 1), (I 4)], [], (B x2), [], [], [], [], (B x2), []⟩], [⟨38, [(I (at_ a0 x1)), (I 1), (I 4)], [], (B x2), [], [], [], [], (B x2), []⟩]⟩ [c_ 841, b_ 1, c_ 211, l_ 26, b_ 0, c_ 7] (alc ⟨c2, c1⟩ (alc (ldC1 encI_ok rfl c2 c1) (alc (okI encI_ok c2 c1 (by decide)) (alc (cok0 false (a2c (.z .s) (a2c (.z .s) (a2c (.z .s) a2n))) (.z .s) (fun h => absurd h (by decide))) aln)))) (acal (spec_l01In.J (at_ a0 x1) 1 4 _ hx2) nocal) ?_
        by_cases c3 : x2 = true
        · rw [if_pos c3] at h
          refine .cond' (.tmp 15) false [c_ 211, l_ 26, b_ 0, c_ 7] (bF (nF c3)) ?_
          refine .reg' [0, 3] [] ⟨[(0, (.sl true a0.length 1 (a0.flatMap encI))), (3, (I (wrap64 (x1 + 1))))], [], [], []⟩ [l_ 26, b_ 0, c_ 7] aln nocal ?_
          exact ih0 a0 (wrap64 (x1 + 1)) _ h
        · rw [if_neg c3] at h
          refine .cond' (.tmp 15) true [c_ 3364, c_ 3365, b_ 1, c_ 211, l_ 26, b_ 0, c_ 7] (bT (nT (vF c3))) ?_
          refine .reg' [2] [] ⟨[(2, (B false))], [], [], []⟩ [c_ 3365, b_ 1, c_ 211, l_ 26, b_ 0, c_ 7] aln nocal ?_
          have h := Option.some.inj h
          subst h
          exact .fin0 [] (B false) [] aln (.z .s)
      · rw [if_neg c2] at h
        cases h
    · rw [if_neg c1] at h
      refine .cond' (.tmp 7) false [c_ 14, c_ 15] (bF (dF c1)) ?_
      obtain ⟨x3, hx3, h⟩ := Option.bind_eq_some_iff.mp h
      refine .reg' [2] [.no, .no, .c ⟨38, [(I (a0.length : Int)), (I 2), (I 5)], [], (B x3), [], [], [], [], (B x3), []⟩] ⟨[(2, (B x3))], [], [COK (hget []) [(I (a0.length : Int)), (I 2), (I 5)] ⟨38, [(I (a0.length : Int)), (I 2), (I 5)], [], (B x3), [], [], [], [], (B x3), []⟩], [⟨38, [(I (a0.length : Int)), (I 2), (I 5)], [], (B x3), [], [], [], [], (B x3), []⟩]⟩ [c_ 15] (alc (cok0 false (a2c (.z .s) (a2c (.z .s) (a2c (.z .s) a2n))) (.z .s) (fun h => absurd h (by decide))) aln) (acal (spec_l01In.J (a0.length : Int) 2 5 _ hx3) nocal) ?_
      have h := Option.some.inj h
      subst h
      exact .fin0 [] (B x3) [] aln (.z .s)
theorem spec_l07Line.J (k : Nat) (a0 : (List Int)) (r : Bool) (h : spec_l07Line.f k a0 = some r) : J prog (.call 37 [(.sl true a0.length 1 (a0.flatMap encI))] [] (B r) []) := by
  unfold spec_l07Line.f at h
  have ih0 := spec_l07Line.lab k
  refine .call' [c_ 2, c_ 3] ?_
  refine .reg' [0] [] ⟨[(0, (.sl true a0.length 1 (a0.flatMap encI)))], [], [], []⟩ [c_ 12, c_ 13, c_ 7] aln nocal ?_
  refine .reg' [0, 3] [] ⟨[(0, (.sl true a0.length 1 (a0.flatMap encI))), (3, (I 0))], [], [], []⟩ [l_ 26, b_ 0, c_ 7] aln nocal ?_
  exact ih0 a0 0 _ h
/-! spec_l07At: function 39 -/
def spec_l07At.l0 : Nat → (List S44) → Int → Int → Int → Option Int
 | 0, _, _, _, _ => none
 | k + 1, a0, a1, x1, x2 => (if x2 < (a0.length : Int) then (if 0 ≤ x2 then (if (at_ a0 x2).f0 = a1 then (spec_l07At.l0 k a0 a1 (wrap64 (x1 + 1)) (wrap64 (x2 + 1))) else (spec_l07At.l0 k a0 a1 x1 (wrap64 (x2 + 1)))) else none) else (some x1))
def spec_l07At.f (k : Nat) (a0 : (List S44)) (a1 : Int) : Option Int := (spec_l07At.l0 k a0 a1 0 0)
theorem spec_l07At.lab : ∀ k, (∀ (a0 : (List S44)) (a1 : Int) (x1 : Int) (x2 : Int) (r : Int), spec_l07At.l0 k a0 a1 x1 x2 = some r → J prog (.run 39 [] [l_ 58, b_ 0, c_ 15] [(0, (.sl true a0.length 2 (a0.flatMap e44))), (1, (I a1)), (5, (I x1)), (6, (I x2))] [] (I r) []))
 | 0 => (by intro a0 a1 x1 x2 r h; unfold spec_l07At.l0 at h; cases h)
 | k + 1 => by
  have ih0 := spec_l07At.lab k
  · intro a0 a1 x1 x2 r h
    unfold spec_l07At.l0 at h
    refine .loop' [c_ 464, c_ 465, c_ 233, l_ 58, b_ 0, c_ 15] ?_
    refine .reg' [0, 1, 5, 6, 10] [] ⟨[(0, (.sl true a0.length 2 (a0.flatMap e44))), (1, (I a1)), (5, (I x1)), (6, (I x2)), (10, (B (decide (x2 < (a0.length : Int)))))], [], [], []⟩ [c_ 465, c_ 233, l_ 58, b_ 0, c_ 15] aln nocal ?_
    by_cases c1 : x2 < (a0.length : Int)
    · rw [if_pos c1] at h
      refine .cond' (.tmp 10) true [c_ 1864, c_ 1865, b_ 1, c_ 467, l_ 58, b_ 0, c_ 15] (bT (dT c1)) ?_
      by_cases c2 : 0 ≤ x2
      · rw [if_pos c2] at h
        refine .reg' [0, 1, 5, 6, 19] [.no, .no, .no, .no, .v (I (at_ a0 x2).f0)] ⟨[(0, (.sl true a0.length 2 (a0.flatMap e44))), (1, (I a1)), (5, (I x1)), (6, (I x2)), (19, (B ((at_ a0 x2).f0 == a1)))], [], [(0 : Int) ≤ x2 ∧ x2 < (a0.length : Int), rdC prog 3 (((a0.flatMap e44).drop (x2.toNat * 2)).drop 0) = (I (at_ a0 x2).f0), 1 ≤ (((a0.flatMap e44).drop (x2.toNat * 2)).drop 0).length], []⟩ [c_ 1865, b_ 1, c_ 467, l_ 58, b_ 0, c_ 15] (alc ⟨c2, c1⟩ (alc (ldC e44_ok 0 (by decide) rfl c2 c1) (alc (okIj e44_ok c2 c1 (by decide)) aln))) nocal ?_
        by_cases c3 : (at_ a0 x2).f0 = a1
        · rw [if_pos c3] at h
          refine .cond' (.tmp 19) true [c_ 3730, b_ 1, c_ 467, l_ 58, b_ 0, c_ 15] (bT (qT c3)) ?_
          refine .reg' [0, 1, 5, 6] [] ⟨[(0, (.sl true a0.length 2 (a0.flatMap e44))), (1, (I a1)), (5, (I (wrap64 (x1 + 1)))), (6, (I x2))], [], [], []⟩ [c_ 467, l_ 58, b_ 0, c_ 15] aln nocal ?_
          refine .reg' [0, 1, 5, 6] [] ⟨[(0, (.sl true a0.length 2 (a0.flatMap e44))), (1, (I a1)), (5, (I (wrap64 (x1 + 1)))), (6, (I (wrap64 (x2 + 1))))], [], [], []⟩ [l_ 58, b_ 0, c_ 15] aln nocal ?_
          exact ih0 a0 a1 (wrap64 (x1 + 1)) (wrap64 (x2 + 1)) _ h
        · rw [if_neg c3] at h
          refine .cond' (.tmp 19) false [c_ 467, l_ 58, b_ 0, c_ 15] (bF (qF c3)) ?_
          refine .reg' [0, 1, 5, 6] [] ⟨[(0, (.sl true a0.length 2 (a0.flatMap e44))), (1, (I a1)), (5, (I x1)), (6, (I (wrap64 (x2 + 1))))], [], [], []⟩ [l_ 58, b_ 0, c_ 15] aln nocal ?_
          exact ih0 a0 a1 x1 (wrap64 (x2 + 1)) _ h
      · rw [if_neg c2] at h
        cases h
    · rw [if_neg c1] at h
      refine .cond' (.tmp 10) false [c_ 30, c_ 31] (bF (dF c1)) ?_
      refine .reg' [4] [] ⟨[(4, (I x1))], [], [], []⟩ [c_ 31] aln nocal ?_
      have h := Option.some.inj h
      subst h
      exact .fin0 [] (I x1) [] aln (.z .s)
theorem spec_l07At.J (k : Nat) (a0 : (List S44)) (a1 : Int) (r : Int) (h : spec_l07At.f k a0 a1 = some r) : J prog (.call 39 [(.sl true a0.length 2 (a0.flatMap e44)), (I a1)] [] (I r) []) := by
  unfold spec_l07At.f at h
  have ih0 := spec_l07At.lab k
  refine .call' [c_ 2, c_ 3] ?_
  refine .reg' [0, 1] [] ⟨[(0, (.sl true a0.length 2 (a0.flatMap e44))), (1, (I a1))], [], [], []⟩ [c_ 6, c_ 7] aln nocal ?_
  refine .reg' [0, 1, 5] [] ⟨[(0, (.sl true a0.length 2 (a0.flatMap e44))), (1, (I a1)), (5, (I 0))], [], [], []⟩ [c_ 28, c_ 29, c_ 15] aln nocal ?_
  refine .reg' [0, 1, 5, 6] [] ⟨[(0, (.sl true a0.length 2 (a0.flatMap e44))), (1, (I a1)), (5, (I 0)), (6, (I 0))], [], [], []⟩ [l_ 58, b_ 0, c_ 15] aln nocal ?_
  exact ih0 a0 a1 0 0 _ h
/-! spec_l07Fits: function 40 -/
def spec_l07Fits.f (a0 : (List Int)) (a1 : Int) : Option Int := (if (a1.tmod (2 : Int)) = 1 then (some 1) else (if 0 ≤ (wrap64 (a1.tdiv (2 : Int))) then (if (wrap64 (a1.tdiv (2 : Int))) < (a0.length : Int) then (some (at_ a0 (wrap64 (a1.tdiv (2 : Int))))) else none) else none))
theorem spec_l07Fits.J (a0 : (List Int)) (a1 : Int) (r : Int) (h : spec_l07Fits.f a0 a1 = some r) : J prog (.call 40 [(.sl true a0.length 1 (a0.flatMap encI)), (I a1)] [] (I r) []) := by
  unfold spec_l07Fits.f at h
  refine .call' [c_ 2, c_ 3] ?_
  refine .reg' [0, 1] [] ⟨[(0, (.sl true a0.length 1 (a0.flatMap encI))), (1, (I a1))], [], [], []⟩ [c_ 12, c_ 13, c_ 7] aln nocal ?_
  refine .reg' [0, 1, 7] [] ⟨[(0, (.sl true a0.length 1 (a0.flatMap encI))), (1, (I a1)), (7, (B ((a1.tmod (2 : Int)) == 1)))], [], [(2 : Int) ≠ 0], []⟩ [c_ 13, c_ 7] (alc (by decide) aln) nocal ?_
  by_cases c1 : (a1.tmod (2 : Int)) = 1
  · rw [if_pos c1] at h
    refine .cond' (.tmp 7) true [c_ 52, c_ 53, c_ 7] (bT (qT c1)) ?_
    refine .reg' [4] [] ⟨[(4, (I 1))], [], [], []⟩ [c_ 53, c_ 7] aln nocal ?_
    have h := Option.some.inj h
    subst h
    exact .fin0 [] (I 1) [] aln (.z .s)
  · rw [if_neg c1] at h
    refine .cond' (.tmp 7) false [c_ 14, c_ 15] (bF (qF c1)) ?_
    by_cases c2 : 0 ≤ (wrap64 (a1.tdiv (2 : Int)))
    · rw [if_pos c2] at h
      by_cases c3 : (wrap64 (a1.tdiv (2 : Int))) < (a0.length : Int)
      · rw [if_pos c3] at h
        refine .reg' [4] [.no, .no, .no, .no, .v (I (at_ a0 (wrap64 (a1.tdiv (2 : Int)))))] ⟨[(4, (I (at_ a0 (wrap64 (a1.tdiv (2 : Int))))))], [], [(2 : Int) ≠ 0, (0 : Int) ≤ (wrap64 (a1.tdiv (2 : Int))) ∧ (wrap64 (a1.tdiv (2 : Int))) < (a0.length : Int), rdC prog 3 ((a0.flatMap encI).drop ((wrap64 (a1.tdiv (2 : Int))).toNat * 1)) = (I (at_ a0 (wrap64 (a1.tdiv (2 : Int))))), 1 ≤ ((a0.flatMap encI).drop ((wrap64 (a1.tdiv (2 : Int))).toNat * 1)).length], []⟩ [c_ 15] (alc (by decide) (alc ⟨c2, c3⟩ (alc (ldC1 encI_ok rfl c2 c3) (alc (okI encI_ok c2 c3 (by decide)) aln)))) nocal ?_
        have h := Option.some.inj h
        subst h
        exact .fin0 [] (I (at_ a0 (wrap64 (a1.tdiv (2 : Int))))) [] aln (.z .s)
      · rw [if_neg c3] at h
        cases h
    · rw [if_neg c2] at h
      cases h
/-! spec_SinglesOk: function 13 -/
def spec_SinglesOk.l0 : Nat → (List Int) → (List S44) → Int → Option Bool
 | 0, _, _, _ => none
 | k + 1, a0, a1, x2 => (if x2 < (a1.length : Int) then (if 0 ≤ x2 then ((spec_l01In.f ((at_ a1 x2).f0) 0 (wrap64 ((wrap64 (2 * (a0.length : Int))) - 2))).bind fun x3 => (if x3 = true then ((spec_l01In.f ((at_ a1 x2).f1) 0 (wrap64 ((wrap64 (2 * (a0.length : Int))) - 2))).bind fun x4 => (if x4 = true then (if ((at_ a1 x2).f1.tmod (2 : Int)) = 0 then ((spec_l07At.f k a1 ((at_ a1 x2).f0)).bind fun x5 => ((spec_l07Fits.f a0 ((at_ a1 x2).f0)).bind fun x6 => (if x5 > x6 then (some false) else (spec_SinglesOk.l0 k a0 a1 (wrap64 (x2 + 1)))))) else (some false)) else (some false))) else (some false))) else none) else (some true))
def spec_SinglesOk.f (k : Nat) (a0 : (List Int)) (a1 : (List S44)) : Option Bool := ((spec_l07Line.f k a0).bind fun x1 => (if x1 = true then (if (a1.length : Int) > 4 then (some false) else (spec_SinglesOk.l0 k a0 a1 0)) else (some false)))
theorem spec_SinglesOk.lab : ∀ k, (∀ (a0 : (List Int)) (a1 : (List S44)) (x2 : Int) (r : Bool), spec_SinglesOk.l0 k a0 a1 x2 = some r → J prog (.run 13 [] [l_ 122, b_ 0, c_ 31] [(0, (.sl true a0.length 1 (a0.flatMap encI))), (1, (.sl true a1.length 2 (a1.flatMap e44))), (5, (I (wrap64 ((wrap64 (2 * (a0.length : Int))) - 2)))), (6, (I x2))] [] (B r) []))
 | 0 => (by intro a0 a1 x2 r h; unfold spec_SinglesOk.l0 at h; cases h)
 | k + 1 => by
  have ih0 := spec_SinglesOk.lab k
  · intro a0 a1 x2 r h
    unfold spec_SinglesOk.l0 at h
    refine .loop' [c_ 976, c_ 977, c_ 489, l_ 122, b_ 0, c_ 31] ?_
    refine .reg' [0, 1, 5, 6, 23] [] ⟨[(0, (.sl true a0.length 1 (a0.flatMap encI))), (1, (.sl true a1.length 2 (a1.flatMap e44))), (5, (I (wrap64 ((wrap64 (2 * (a0.length : Int))) - 2)))), (6, (I x2)), (23, (B (decide (x2 < (a1.length : Int)))))], [], [], []⟩ [c_ 977, c_ 489, l_ 122, b_ 0, c_ 31] aln nocal ?_
    by_cases c3 : x2 < (a1.length : Int)
    · rw [if_pos c3] at h
      refine .cond' (.tmp 23) true [c_ 3912, c_ 3913, b_ 1, c_ 979, l_ 122, b_ 0, c_ 31] (bT (dT c3)) ?_
      by_cases c4 : 0 ≤ x2
      · rw [if_pos c4] at h
        refine .reg' [0, 1, 5, 6, 7] [.no, .no, .no, .v (.ag [(I (at_ a1 x2).f0), (I (at_ a1 x2).f1)])] ⟨[(0, (.sl true a0.length 1 (a0.flatMap encI))), (1, (.sl true a1.length 2 (a1.flatMap e44))), (5, (I (wrap64 ((wrap64 (2 * (a0.length : Int))) - 2)))), (6, (I x2)), (7, (.pt 2052 0 2))], [(2052, [(I (at_ a1 x2).f0), (I (at_ a1 x2).f1)])], [(0 : Int) ≤ x2 ∧ x2 < (a1.length : Int), rdC prog 45 ((a1.flatMap e44).drop (x2.toNat * 2)) = (.ag [(I (at_ a1 x2).f0), (I (at_ a1 x2).f1)]), 2 ≤ ((a1.flatMap e44).drop (x2.toNat * 2)).length, 2 = 2 ∧ 0 + 2 ≤ 2], []⟩ [c_ 7826, c_ 7827, b_ 1, c_ 979, l_ 122, b_ 0, c_ 31] (alc ⟨c4, c3⟩ (alc (ldA e44_ok rfl rfl c4 c3) (alc (okI e44_ok c4 c3 (by decide)) (alc ⟨rfl, by decide⟩ aln)))) nocal ?_
        obtain ⟨x3, hx3, h⟩ := Option.bind_eq_some_iff.mp h
        by_cases c5 : x3 = true
        · rw [if_pos c5] at h
          obtain ⟨x4, hx4, h⟩ := Option.bind_eq_some_iff.mp h
          by_cases c6 : x4 = true
          · rw [if_pos c6] at h
            by_cases c7 : ((at_ a1 x2).f1.tmod (2 : Int)) = 0
            · rw [if_pos c7] at h
              obtain ⟨x5, hx5, h⟩ := Option.bind_eq_some_iff.mp h
              obtain ⟨x6, hx6, h⟩ := Option.bind_eq_some_iff.mp h
              refine .reg' [0, 1, 5, 6, 58] [.no, .no, .no, .c ⟨38, [(I (at_ a1 x2).f0), (I 0), (I (wrap64 ((wrap64 (2 * (a0.length : Int))) - 2)))], [], (B x3), [], [], [], [], (B x3), []⟩, .no, .v (B false), .no, .no, .no, .c ⟨38, [(I (at_ a1 x2).f1), (I 0), (I (wrap64 ((wrap64 (2 * (a0.length : Int))) - 2)))], [], (B x4), [], [], [], [], (B x4), []⟩, .no, .no, .v (B false), .no, .no, .no, .no, .no, .v (B false), .no, .no, .no, .c ⟨39, [(.sl true a1.length 2 (a1.flatMap e44)), (I (at_ a1 x2).f0)], [], (I x5), [], [], [], [], (I x5), []⟩, .no, .no, .no, .c ⟨40, [(.sl true a0.length 1 (a0.flatMap encI)), (I (at_ a1 x2).f0)], [], (I x6), [], [], [], [], (I x6), []⟩] ⟨[(0, (.sl true a0.length 1 (a0.flatMap encI))), (1, (.sl true a1.length 2 (a1.flatMap e44))), (5, (I (wrap64 ((wrap64 (2 * (a0.length : Int))) - 2)))), (6, (I x2)), (58, (B (decide (x5 > x6))))], [(2052, [(I (at_ a1 x2).f0), (I (at_ a1 x2).f1)])], [2 = 2 ∧ 0 + 1 ≤ 2, COK (hget [(2052, [(I (at_ a1 x2).f0), (I (at_ a1 x2).f1)])]) [(I (at_ a1 x2).f0), (I 0), (I (wrap64 ((wrap64 (2 * (a0.length : Int))) - 2)))] ⟨38, [(I (at_ a1 x2).f0), (I 0), (I (wrap64 ((wrap64 (2 * (a0.length : Int))) - 2)))], [], (B x3), [], [], [], [], (B x3), []⟩, (B (!x3) : V) = B false, 2 = 2 ∧ 1 + 1 ≤ 2, COK (hget [(2052, [(I (at_ a1 x2).f0), (I (at_ a1 x2).f1)])]) [(I (at_ a1 x2).f1), (I 0), (I (wrap64 ((wrap64 (2 * (a0.length : Int))) - 2)))] ⟨38, [(I (at_ a1 x2).f1), (I 0), (I (wrap64 ((wrap64 (2 * (a0.length : Int))) - 2)))], [], (B x4), [], [], [], [], (B x4), []⟩, (B (!x4) : V) = B false, 2 = 2 ∧ 1 + 1 ≤ 2, (2 : Int) ≠ 0, (B (!(((at_ a1 x2).f1.tmod (2 : Int)) == 0)) : V) = B false, 2 = 2 ∧ 0 + 1 ≤ 2, COK (hget [(2052, [(I (at_ a1 x2).f0), (I (at_ a1 x2).f1)])]) [(.sl true a1.length 2 (a1.flatMap e44)), (I (at_ a1 x2).f0)] ⟨39, [(.sl true a1.length 2 (a1.flatMap e44)), (I (at_ a1 x2).f0)], [], (I x5), [], [], [], [], (I x5), []⟩, 2 = 2 ∧ 0 + 1 ≤ 2, COK (hget [(2052, [(I (at_ a1 x2).f0), (I (at_ a1 x2).f1)])]) [(.sl true a0.length 1 (a0.flatMap encI)), (I (at_ a1 x2).f0)] ⟨40, [(.sl true a0.length 1 (a0.flatMap encI)), (I (at_ a1 x2).f0)], [], (I x6), [], [], [], [], (I x6), []⟩], [⟨38, [(I (at_ a1 x2).f0), (I 0), (I (wrap64 ((wrap64 (2 * (a0.length : Int))) - 2)))], [], (B x3), [], [], [], [], (B x3), []⟩, ⟨38, [(I (at_ a1 x2).f1), (I 0), (I (wrap64 ((wrap64 (2 * (a0.length : Int))) - 2)))], [], (B x4), [], [], [], [], (B x4), []⟩, ⟨39, [(.sl true a1.length 2 (a1.flatMap e44)), (I (at_ a1 x2).f0)], [], (I x5), [], [], [], [], (I x5), []⟩, ⟨40, [(.sl true a0.length 1 (a0.flatMap encI)), (I (at_ a1 x2).f0)], [], (I x6), [], [], [], [], (I x6), []⟩]⟩ [c_ 7827, b_ 1, c_ 979, l_ 122, b_ 0, c_ 31] (alc ⟨rfl, by decide⟩ (alc (cok0 false (a2c (.z .s) (a2c (.z .s) (a2c (.z .s) a2n))) (.z .s) (fun h => absurd h (by decide))) (alc (bF (nF c5)) (alc ⟨rfl, by decide⟩ (alc (cok0 false (a2c (.z .s) (a2c (.z .s) (a2c (.z .s) a2n))) (.z .s) (fun h => absurd h (by decide))) (alc (bF (nF c6)) (alc ⟨rfl, by decide⟩ (alc (by decide) (alc (bF (nF (qT c7))) (alc ⟨rfl, by decide⟩ (alc (cok0 false (a2c (.z (frz_sl e44_ok (fun h => h))) (a2c (.z .s) a2n)) (.z .s) (fun h => absurd h (by decide))) (alc ⟨rfl, by decide⟩ (alc (cok0 false (a2c (.z (frz_sl encI_ok (fun h => h))) (a2c (.z .s) a2n)) (.z .s) (fun h => absurd h (by decide))) aln))))))))))))) (acal (spec_l01In.J ((at_ a1 x2).f0) 0 (wrap64 ((wrap64 (2 * (a0.length : Int))) - 2)) _ hx3) (acal (spec_l01In.J ((at_ a1 x2).f1) 0 (wrap64 ((wrap64 (2 * (a0.length : Int))) - 2)) _ hx4) (acal (spec_l07At.J k a1 ((at_ a1 x2).f0) _ hx5) (acal (spec_l07Fits.J a0 ((at_ a1 x2).f0) _ hx6) nocal)))) ?_
              by_cases c8 : x5 > x6
              · rw [if_pos c8] at h
                refine .cond' (.tmp 58) true [c_ 31308, c_ 31309, b_ 1, c_ 979, l_ 122, b_ 0, c_ 31] (bT (dT c8)) ?_
                refine .reg' [4] [] ⟨[(4, (B false))], [(2052, [(I (at_ a1 x2).f0), (I (at_ a1 x2).f1)])], [], []⟩ [c_ 31309, b_ 1, c_ 979, l_ 122, b_ 0, c_ 31] aln nocal ?_
                have h := Option.some.inj h
                subst h
                exact .fin0 [] (B false) [] aln (.z .s)
              · rw [if_neg c8] at h
                refine .cond' (.tmp 58) false [c_ 979, l_ 122, b_ 0, c_ 31] (bF (dF c8)) ?_
                refine .reg' [0, 1, 5, 6] [] ⟨[(0, (.sl true a0.length 1 (a0.flatMap encI))), (1, (.sl true a1.length 2 (a1.flatMap e44))), (5, (I (wrap64 ((wrap64 (2 * (a0.length : Int))) - 2)))), (6, (I (wrap64 (x2 + 1))))], [(2052, [(I (at_ a1 x2).f0), (I (at_ a1 x2).f1)])], [], []⟩ [l_ 122, b_ 0, c_ 31] aln nocal ?_
                refine .wk' [] [] [(0, (.sl true a0.length 1 (a0.flatMap encI))), (1, (.sl true a1.length 2 (a1.flatMap e44))), (5, (I (wrap64 ((wrap64 (2 * (a0.length : Int))) - 2)))), (6, (I (wrap64 (x2 + 1))))] [] shn (enc_ (.z (frz_sl encI_ok (fun h => h))) (enc_ (.z (frz_sl e44_ok (fun h => h))) (enc_ (.z .s) (enc_ (.z .s) enn)))) ?_
                exact ih0 a0 a1 (wrap64 (x2 + 1)) _ h
            · rw [if_neg c7] at h
              refine .reg' [0, 1, 5, 6, 58] [.no, .no, .no, .c ⟨38, [(I (at_ a1 x2).f0), (I 0), (I (wrap64 ((wrap64 (2 * (a0.length : Int))) - 2)))], [], (B x3), [], [], [], [], (B x3), []⟩, .no, .v (B false), .no, .no, .no, .c ⟨38, [(I (at_ a1 x2).f1), (I 0), (I (wrap64 ((wrap64 (2 * (a0.length : Int))) - 2)))], [], (B x4), [], [], [], [], (B x4), []⟩, .no, .no, .v (B false), .no, .no, .no, .no, .no, .v (B true)] ⟨[(0, (.sl true a0.length 1 (a0.flatMap encI))), (1, (.sl true a1.length 2 (a1.flatMap e44))), (5, (I (wrap64 ((wrap64 (2 * (a0.length : Int))) - 2)))), (6, (I x2)), (58, (B true))], [(2052, [(I (at_ a1 x2).f0), (I (at_ a1 x2).f1)])], [2 = 2 ∧ 0 + 1 ≤ 2, COK (hget [(2052, [(I (at_ a1 x2).f0), (I (at_ a1 x2).f1)])]) [(I (at_ a1 x2).f0), (I 0), (I (wrap64 ((wrap64 (2 * (a0.length : Int))) - 2)))] ⟨38, [(I (at_ a1 x2).f0), (I 0), (I (wrap64 ((wrap64 (2 * (a0.length : Int))) - 2)))], [], (B x3), [], [], [], [], (B x3), []⟩, (B (!x3) : V) = B false, 2 = 2 ∧ 1 + 1 ≤ 2, COK (hget [(2052, [(I (at_ a1 x2).f0), (I (at_ a1 x2).f1)])]) [(I (at_ a1 x2).f1), (I 0), (I (wrap64 ((wrap64 (2 * (a0.length : Int))) - 2)))] ⟨38, [(I (at_ a1 x2).f1), (I 0), (I (wrap64 ((wrap64 (2 * (a0.length : Int))) - 2)))], [], (B x4), [], [], [], [], (B x4), []⟩, (B (!x4) : V) = B false, 2 = 2 ∧ 1 + 1 ≤ 2, (2 : Int) ≠ 0, (B (!(((at_ a1 x2).f1.tmod (2 : Int)) == 0)) : V) = B true], [⟨38, [(I (at_ a1 x2).f0), (I 0), (I (wrap64 ((wrap64 (2 * (a0.length : Int))) - 2)))], [], (B x3), [], [], [], [], (B x3), []⟩, ⟨38, [(I (at_ a1 x2).f1), (I 0), (I (wrap64 ((wrap64 (2 * (a0.length : Int))) - 2)))], [], (B x4), [], [], [], [], (B x4), []⟩]⟩ [c_ 7827, b_ 1, c_ 979, l_ 122, b_ 0, c_ 31] (alc ⟨rfl, by decide⟩ (alc (cok0 false (a2c (.z .s) (a2c (.z .s) (a2c (.z .s) a2n))) (.z .s) (fun h => absurd h (by decide))) (alc (bF (nF c5)) (alc ⟨rfl, by decide⟩ (alc (cok0 false (a2c (.z .s) (a2c (.z .s) (a2c (.z .s) a2n))) (.z .s) (fun h => absurd h (by decide))) (alc (bF (nF c6)) (alc ⟨rfl, by decide⟩ (alc (by decide) (alc (bT (nT (qF c7))) aln))))))))) (acal (spec_l01In.J ((at_ a1 x2).f0) 0 (wrap64 ((wrap64 (2 * (a0.length : Int))) - 2)) _ hx3) (acal (spec_l01In.J ((at_ a1 x2).f1) 0 (wrap64 ((wrap64 (2 * (a0.length : Int))) - 2)) _ hx4) nocal)) ?_
              refine .cond' (.tmp 58) true [c_ 31308, c_ 31309, b_ 1, c_ 979, l_ 122, b_ 0, c_ 31] (rfl) ?_
              refine .reg' [4] [] ⟨[(4, (B false))], [(2052, [(I (at_ a1 x2).f0), (I (at_ a1 x2).f1)])], [], []⟩ [c_ 31309, b_ 1, c_ 979, l_ 122, b_ 0, c_ 31] aln nocal ?_
              have h := Option.some.inj h
              subst h
              exact .fin0 [] (B false) [] aln (.z .s)
          · rw [if_neg c6] at h
            refine .reg' [0, 1, 5, 6, 58] [.no, .no, .no, .c ⟨38, [(I (at_ a1 x2).f0), (I 0), (I (wrap64 ((wrap64 (2 * (a0.length : Int))) - 2)))], [], (B x3), [], [], [], [], (B x3), []⟩, .no, .v (B false), .no, .no, .no, .c ⟨38, [(I (at_ a1 x2).f1), (I 0), (I (wrap64 ((wrap64 (2 * (a0.length : Int))) - 2)))], [], (B x4), [], [], [], [], (B x4), []⟩, .no, .no, .v (B true)] ⟨[(0, (.sl true a0.length 1 (a0.flatMap encI))), (1, (.sl true a1.length 2 (a1.flatMap e44))), (5, (I (wrap64 ((wrap64 (2 * (a0.length : Int))) - 2)))), (6, (I x2)), (58, (B true))], [(2052, [(I (at_ a1 x2).f0), (I (at_ a1 x2).f1)])], [2 = 2 ∧ 0 + 1 ≤ 2, COK (hget [(2052, [(I (at_ a1 x2).f0), (I (at_ a1 x2).f1)])]) [(I (at_ a1 x2).f0), (I 0), (I (wrap64 ((wrap64 (2 * (a0.length : Int))) - 2)))] ⟨38, [(I (at_ a1 x2).f0), (I 0), (I (wrap64 ((wrap64 (2 * (a0.length : Int))) - 2)))], [], (B x3), [], [], [], [], (B x3), []⟩, (B (!x3) : V) = B false, 2 = 2 ∧ 1 + 1 ≤ 2, COK (hget [(2052, [(I (at_ a1 x2).f0), (I (at_ a1 x2).f1)])]) [(I (at_ a1 x2).f1), (I 0), (I (wrap64 ((wrap64 (2 * (a0.length : Int))) - 2)))] ⟨38, [(I (at_ a1 x2).f1), (I 0), (I (wrap64 ((wrap64 (2 * (a0.length : Int))) - 2)))], [], (B x4), [], [], [], [], (B x4), []⟩, (B (!x4) : V) = B true], [⟨38, [(I (at_ a1 x2).f0), (I 0), (I (wrap64 ((wrap64 (2 * (a0.length : Int))) - 2)))], [], (B x3), [], [], [], [], (B x3), []⟩, ⟨38, [(I (at_ a1 x2).f1), (I 0), (I (wrap64 ((wrap64 (2 * (a0.length : Int))) - 2)))], [], (B x4), [], [], [], [], (B x4), []⟩]⟩ [c_ 7827, b_ 1, c_ 979, l_ 122, b_ 0, c_ 31] (alc ⟨rfl, by decide⟩ (alc (cok0 false (a2c (.z .s) (a2c (.z .s) (a2c (.z .s) a2n))) (.z .s) (fun h => absurd h (by decide))) (alc (bF (nF c5)) (alc ⟨rfl, by decide⟩ (alc (cok0 false (a2c (.z .s) (a2c (.z .s) (a2c (.z .s) a2n))) (.z .s) (fun h => absurd h (by decide))) (alc (bT (nT (vF c6))) aln)))))) (acal (spec_l01In.J ((at_ a1 x2).f0) 0 (wrap64 ((wrap64 (2 * (a0.length : Int))) - 2)) _ hx3) (acal (spec_l01In.J ((at_ a1 x2).f1) 0 (wrap64 ((wrap64 (2 * (a0.length : Int))) - 2)) _ hx4) nocal)) ?_
            refine .cond' (.tmp 58) true [c_ 31308, c_ 31309, b_ 1, c_ 979, l_ 122, b_ 0, c_ 31] (rfl) ?_
            refine .reg' [4] [] ⟨[(4, (B false))], [(2052, [(I (at_ a1 x2).f0), (I (at_ a1 x2).f1)])], [], []⟩ [c_ 31309, b_ 1, c_ 979, l_ 122, b_ 0, c_ 31] aln nocal ?_
            have h := Option.some.inj h
            subst h
            exact .fin0 [] (B false) [] aln (.z .s)
        · rw [if_neg c5] at h
          refine .reg' [0, 1, 5, 6, 58] [.no, .no, .no, .c ⟨38, [(I (at_ a1 x2).f0), (I 0), (I (wrap64 ((wrap64 (2 * (a0.length : Int))) - 2)))], [], (B x3), [], [], [], [], (B x3), []⟩, .no, .v (B true)] ⟨[(0, (.sl true a0.length 1 (a0.flatMap encI))), (1, (.sl true a1.length 2 (a1.flatMap e44))), (5, (I (wrap64 ((wrap64 (2 * (a0.length : Int))) - 2)))), (6, (I x2)), (58, (B true))], [(2052, [(I (at_ a1 x2).f0), (I (at_ a1 x2).f1)])], [2 = 2 ∧ 0 + 1 ≤ 2, COK (hget [(2052, [(I (at_ a1 x2).f0), (I (at_ a1 x2).f1)])]) [(I (at_ a1 x2).f0), (I 0), (I (wrap64 ((wrap64 (2 * (a0.length : Int))) - 2)))] ⟨38, [(I (at_ a1 x2).f0), (I 0), (I (wrap64 ((wrap64 (2 * (a0.length : Int))) - 2)))], [], (B x3), [], [], [], [], (B x3), []⟩, (B (!x3) : V) = B true], [⟨38, [(I (at_ a1 x2).f0), (I 0), (I (wrap64 ((wrap64 (2 * (a0.length : Int))) - 2)))], [], (B x3), [], [], [], [], (B x3), []⟩]⟩ [c_ 7827, b_ 1, c_ 979, l_ 122, b_ 0, c_ 31] (alc ⟨rfl, by decide⟩ (alc (cok0 false (a2c (.z .s) (a2c (.z .s) (a2c (.z .s) a2n))) (.z .s) (fun h => absurd h (by decide))) (alc (bT (nT (vF c5))) aln))) (acal (spec_l01In.J ((at_ a1 x2).f0) 0 (wrap64 ((wrap64 (2 * (a0.length : Int))) - 2)) _ hx3) nocal) ?_
          refine .cond' (.tmp 58) true [c_ 31308, c_ 31309, b_ 1, c_ 979, l_ 122, b_ 0, c_ 31] (rfl) ?_
          refine .reg' [4] [] ⟨[(4, (B false))], [(2052, [(I (at_ a1 x2).f0), (I (at_ a1 x2).f1)])], [], []⟩ [c_ 31309, b_ 1, c_ 979, l_ 122, b_ 0, c_ 31] aln nocal ?_
          have h := Option.some.inj h
          subst h
          exact .fin0 [] (B false) [] aln (.z .s)
      · rw [if_neg c4] at h
        cases h
    · rw [if_neg c3] at h
      refine .cond' (.tmp 23) false [c_ 62, c_ 63] (bF (dF c3)) ?_
      refine .reg' [4] [] ⟨[(4, (B true))], [], [], []⟩ [c_ 63] aln nocal ?_
      have h := Option.some.inj h
      subst h
      exact .fin0 [] (B true) [] aln (.z .s)
theorem spec_SinglesOk.J (k : Nat) (a0 : (List Int)) (a1 : (List S44)) (r : Bool) (h : spec_SinglesOk.f k a0 a1 = some r) : J prog (.call 13 [(.sl true a0.length 1 (a0.flatMap encI)), (.sl true a1.length 2 (a1.flatMap e44))] [] (B r) []) := by
  unfold spec_SinglesOk.f at h
  have ih0 := spec_SinglesOk.lab k
  refine .call' [c_ 2, c_ 3] ?_
  refine .reg' [0, 1] [] ⟨[(0, (.sl true a0.length 1 (a0.flatMap encI))), (1, (.sl true a1.length 2 (a1.flatMap e44)))], [], [], []⟩ [c_ 12, c_ 13, c_ 7] aln nocal ?_
  obtain ⟨x1, hx1, h⟩ := Option.bind_eq_some_iff.mp h
  by_cases c1 : x1 = true
  · rw [if_pos c1] at h
    refine .reg' [0, 1, 15] [.no, .c ⟨37, [(.sl true a0.length 1 (a0.flatMap encI))], [], (B x1), [], [], [], [], (B x1), []⟩, .no, .v (B false)] ⟨[(0, (.sl true a0.length 1 (a0.flatMap encI))), (1, (.sl true a1.length 2 (a1.flatMap e44))), (15, (B (decide ((a1.length : Int) > 4))))], [], [COK (hget []) [(.sl true a0.length 1 (a0.flatMap encI))] ⟨37, [(.sl true a0.length 1 (a0.flatMap encI))], [], (B x1), [], [], [], [], (B x1), []⟩, (B (!x1) : V) = B false], [⟨37, [(.sl true a0.length 1 (a0.flatMap encI))], [], (B x1), [], [], [], [], (B x1), []⟩]⟩ [c_ 13, c_ 7] (alc (cok0 false (a2c (.z (frz_sl encI_ok (fun h => h))) a2n) (.z .s) (fun h => absurd h (by decide))) (alc (bF (nF c1)) aln)) (acal (spec_l07Line.J k a0 _ hx1) nocal) ?_
    by_cases c2 : (a1.length : Int) > 4
    · rw [if_pos c2] at h
      refine .cond' (.tmp 15) true [c_ 52, c_ 53, c_ 7] (bT (dT c2)) ?_
      refine .reg' [4] [] ⟨[(4, (B false))], [], [], []⟩ [c_ 53, c_ 7] aln nocal ?_
      have h := Option.some.inj h
      subst h
      exact .fin0 [] (B false) [] aln (.z .s)
    · rw [if_neg c2] at h
      refine .cond' (.tmp 15) false [c_ 14, c_ 15] (bF (dF c2)) ?_
      refine .reg' [0, 1, 5] [] ⟨[(0, (.sl true a0.length 1 (a0.flatMap encI))), (1, (.sl true a1.length 2 (a1.flatMap e44))), (5, (I (wrap64 ((wrap64 (2 * (a0.length : Int))) - 2))))], [], [], []⟩ [c_ 60, c_ 61, c_ 31] aln nocal ?_
      refine .reg' [0, 1, 5, 6] [] ⟨[(0, (.sl true a0.length 1 (a0.flatMap encI))), (1, (.sl true a1.length 2 (a1.flatMap e44))), (5, (I (wrap64 ((wrap64 (2 * (a0.length : Int))) - 2)))), (6, (I 0))], [], [], []⟩ [l_ 122, b_ 0, c_ 31] aln nocal ?_
      exact ih0 a0 a1 0 _ h
  · rw [if_neg c1] at h
    refine .reg' [0, 1, 15] [.no, .c ⟨37, [(.sl true a0.length 1 (a0.flatMap encI))], [], (B x1), [], [], [], [], (B x1), []⟩, .no, .v (B true)] ⟨[(0, (.sl true a0.length 1 (a0.flatMap encI))), (1, (.sl true a1.length 2 (a1.flatMap e44))), (15, (B true))], [], [COK (hget []) [(.sl true a0.length 1 (a0.flatMap encI))] ⟨37, [(.sl true a0.length 1 (a0.flatMap encI))], [], (B x1), [], [], [], [], (B x1), []⟩, (B (!x1) : V) = B true], [⟨37, [(.sl true a0.length 1 (a0.flatMap encI))], [], (B x1), [], [], [], [], (B x1), []⟩]⟩ [c_ 13, c_ 7] (alc (cok0 false (a2c (.z (frz_sl encI_ok (fun h => h))) a2n) (.z .s) (fun h => absurd h (by decide))) (alc (bT (nT (vF c1))) aln)) (acal (spec_l07Line.J k a0 _ hx1) nocal) ?_
    refine .cond' (.tmp 15) true [c_ 52, c_ 53, c_ 7] (rfl) ?_
    refine .reg' [4] [] ⟨[(4, (B false))], [], [], []⟩ [c_ 53, c_ 7] aln nocal ?_
    have h := Option.some.inj h
    subst h
    exact .fin0 [] (B false) [] aln (.z .s)
/-! spec_l07Done: function 47 -/
def spec_l07Done.l0 : Nat → (List S44) → Int → Option Bool
 | 0, _, _ => none
 | k + 1, a0, x1 => (if x1 < (a0.length : Int) then (if 0 ≤ x1 then (if (at_ a0 x1).f0 = (at_ a0 x1).f1 then (spec_l07Done.l0 k a0 (wrap64 (x1 + 1))) else (some false)) else none) else (some true))
def spec_l07Done.f (k : Nat) (a0 : (List S44)) : Option Bool := (spec_l07Done.l0 k a0 0)
theorem spec_l07Done.lab : ∀ k, (∀ (a0 : (List S44)) (x1 : Int) (r : Bool), spec_l07Done.l0 k a0 x1 = some r → J prog (.run 47 [] [l_ 26, b_ 0, c_ 7] [(0, (.sl true a0.length 2 (a0.flatMap e44))), (3, (I x1))] [] (B r) []))
 | 0 => (by intro a0 x1 r h; unfold spec_l07Done.l0 at h; cases h)
 | k + 1 => by
  have ih0 := spec_l07Done.lab k
  · intro a0 x1 r h
    unfold spec_l07Done.l0 at h
    refine .loop' [c_ 208, c_ 209, c_ 105, l_ 26, b_ 0, c_ 7] ?_
    refine .reg' [0, 3, 7] [] ⟨[(0, (.sl true a0.length 2 (a0.flatMap e44))), (3, (I x1)), (7, (B (decide (x1 < (a0.length : Int)))))], [], [], []⟩ [c_ 209, c_ 105, l_ 26, b_ 0, c_ 7] aln nocal ?_
    by_cases c1 : x1 < (a0.length : Int)
    · rw [if_pos c1] at h
      refine .cond' (.tmp 7) true [c_ 840, c_ 841, b_ 1, c_ 211, l_ 26, b_ 0, c_ 7] (bT (dT c1)) ?_
      by_cases c2 : 0 ≤ x1
      · rw [if_pos c2] at h
        refine .reg' [0, 3, 20] [.no, .no, .no, .no, .v (I (at_ a0 x1).f0), .no, .no, .no, .no, .v (I (at_ a0 x1).f1)] ⟨[(0, (.sl true a0.length 2 (a0.flatMap e44))), (3, (I x1)), (20, (B (!((at_ a0 x1).f0 == (at_ a0 x1).f1))))], [], [(0 : Int) ≤ x1 ∧ x1 < (a0.length : Int), rdC prog 3 (((a0.flatMap e44).drop (x1.toNat * 2)).drop 0) = (I (at_ a0 x1).f0), 1 ≤ (((a0.flatMap e44).drop (x1.toNat * 2)).drop 0).length, (0 : Int) ≤ x1 ∧ x1 < (a0.length : Int), rdC prog 3 (((a0.flatMap e44).drop (x1.toNat * 2)).drop 1) = (I (at_ a0 x1).f1), 1 ≤ (((a0.flatMap e44).drop (x1.toNat * 2)).drop 1).length], []⟩ [c_ 841, b_ 1, c_ 211, l_ 26, b_ 0, c_ 7] (alc ⟨c2, c1⟩ (alc (ldC e44_ok 0 (by decide) rfl c2 c1) (alc (okIj e44_ok c2 c1 (by decide)) (alc ⟨c2, c1⟩ (alc (ldC e44_ok 1 (by decide) rfl c2 c1) (alc (okIj e44_ok c2 c1 (by decide)) aln)))))) nocal ?_
        by_cases c3 : (at_ a0 x1).f0 = (at_ a0 x1).f1
        · rw [if_pos c3] at h
          refine .cond' (.tmp 20) false [c_ 211, l_ 26, b_ 0, c_ 7] (bF (nF (qT c3))) ?_
          refine .reg' [0, 3] [] ⟨[(0, (.sl true a0.length 2 (a0.flatMap e44))), (3, (I (wrap64 (x1 + 1))))], [], [], []⟩ [l_ 26, b_ 0, c_ 7] aln nocal ?_
          exact ih0 a0 (wrap64 (x1 + 1)) _ h
        · rw [if_neg c3] at h
          refine .cond' (.tmp 20) true [c_ 3364, c_ 3365, b_ 1, c_ 211, l_ 26, b_ 0, c_ 7] (bT (nT (qF c3))) ?_
          refine .reg' [2] [] ⟨[(2, (B false))], [], [], []⟩ [c_ 3365, b_ 1, c_ 211, l_ 26, b_ 0, c_ 7] aln nocal ?_
          have h := Option.some.inj h
          subst h
          exact .fin0 [] (B false) [] aln (.z .s)
      · rw [if_neg c2] at h
        cases h
    · rw [if_neg c1] at h
      refine .cond' (.tmp 7) false [c_ 14, c_ 15] (bF (dF c1)) ?_
      refine .reg' [2] [] ⟨[(2, (B true))], [], [], []⟩ [c_ 15] aln nocal ?_
      have h := Option.some.inj h
      subst h
      exact .fin0 [] (B true) [] aln (.z .s)
theorem spec_l07Done.J (k : Nat) (a0 : (List S44)) (r : Bool) (h : spec_l07Done.f k a0 = some r) : J prog (.call 47 [(.sl true a0.length 2 (a0.flatMap e44))] [] (B r) []) := by
  unfold spec_l07Done.f at h
  have ih0 := spec_l07Done.lab k
  refine .call' [c_ 2, c_ 3] ?_
  refine .reg' [0] [] ⟨[(0, (.sl true a0.length 2 (a0.flatMap e44)))], [], [], []⟩ [c_ 12, c_ 13, c_ 7] aln nocal ?_
  refine .reg' [0, 3] [] ⟨[(0, (.sl true a0.length 2 (a0.flatMap e44))), (3, (I 0))], [], [], []⟩ [l_ 26, b_ 0, c_ 7] aln nocal ?_
  exact ih0 a0 0 _ h
/-! spec_l07Key: function 58 -/
def spec_l07Key.l0 : Nat → (List Int) → (List S44) → Int → Int → Option Int
 | 0, _, _, _, _ => none
 | k + 1, a0, a1, x1, x2 => (if x2 < (a1.length : Int) then (if 0 ≤ x2 then (spec_l07Key.l0 k a0 a1 (wrap64 ((wrap64 (x1 * (wrap64 ((wrap64 (2 * (a0.length : Int))) - 1)))) + (at_ a1 x2).f0)) (wrap64 (x2 + 1))) else none) else (some x1))
def spec_l07Key.f (k : Nat) (a0 : (List Int)) (a1 : (List S44)) : Option Int := (spec_l07Key.l0 k a0 a1 0 0)
theorem spec_l07Key.lab : ∀ k, (∀ (a0 : (List Int)) (a1 : (List S44)) (x1 : Int) (x2 : Int) (r : Int), spec_l07Key.l0 k a0 a1 x1 x2 = some r → J prog (.run 58 [] [l_ 58, b_ 0, c_ 15] [(0, (.sl true a0.length 1 (a0.flatMap encI))), (1, (.sl true a1.length 2 (a1.flatMap e44))), (5, (I x1)), (6, (I x2))] [] (I r) []))
 | 0 => (by intro a0 a1 x1 x2 r h; unfold spec_l07Key.l0 at h; cases h)
 | k + 1 => by
  have ih0 := spec_l07Key.lab k
  · intro a0 a1 x1 x2 r h
    unfold spec_l07Key.l0 at h
    refine .loop' [c_ 464, c_ 465, c_ 233, l_ 58, b_ 0, c_ 15] ?_
    refine .reg' [0, 1, 5, 6, 10] [] ⟨[(0, (.sl true a0.length 1 (a0.flatMap encI))), (1, (.sl true a1.length 2 (a1.flatMap e44))), (5, (I x1)), (6, (I x2)), (10, (B (decide (x2 < (a1.length : Int)))))], [], [], []⟩ [c_ 465, c_ 233, l_ 58, b_ 0, c_ 15] aln nocal ?_
    by_cases c1 : x2 < (a1.length : Int)
    · rw [if_pos c1] at h
      refine .cond' (.tmp 10) true [c_ 932, b_ 1, c_ 467, l_ 58, b_ 0, c_ 15] (bT (dT c1)) ?_
      by_cases c2 : 0 ≤ x2
      · rw [if_pos c2] at h
        refine .reg' [0, 1, 5, 6] [.no, .no, .no, .no, .no, .no, .no, .no, .no, .no, .v (I (at_ a1 x2).f0)] ⟨[(0, (.sl true a0.length 1 (a0.flatMap encI))), (1, (.sl true a1.length 2 (a1.flatMap e44))), (5, (I (wrap64 ((wrap64 (x1 * (wrap64 ((wrap64 (2 * (a0.length : Int))) - 1)))) + (at_ a1 x2).f0)))), (6, (I x2))], [], [(0 : Int) ≤ x2 ∧ x2 < (a1.length : Int), rdC prog 3 (((a1.flatMap e44).drop (x2.toNat * 2)).drop 0) = (I (at_ a1 x2).f0), 1 ≤ (((a1.flatMap e44).drop (x2.toNat * 2)).drop 0).length], []⟩ [c_ 467, l_ 58, b_ 0, c_ 15] (alc ⟨c2, c1⟩ (alc (ldC e44_ok 0 (by decide) rfl c2 c1) (alc (okIj e44_ok c2 c1 (by decide)) aln))) nocal ?_
        refine .reg' [0, 1, 5, 6] [] ⟨[(0, (.sl true a0.length 1 (a0.flatMap encI))), (1, (.sl true a1.length 2 (a1.flatMap e44))), (5, (I (wrap64 ((wrap64 (x1 * (wrap64 ((wrap64 (2 * (a0.length : Int))) - 1)))) + (at_ a1 x2).f0)))), (6, (I (wrap64 (x2 + 1))))], [], [], []⟩ [l_ 58, b_ 0, c_ 15] aln nocal ?_
        exact ih0 a0 a1 (wrap64 ((wrap64 (x1 * (wrap64 ((wrap64 (2 * (a0.length : Int))) - 1)))) + (at_ a1 x2).f0)) (wrap64 (x2 + 1)) _ h
      · rw [if_neg c2] at h
        cases h
    · rw [if_neg c1] at h
      refine .cond' (.tmp 10) false [c_ 30, c_ 31] (bF (dF c1)) ?_
      refine .reg' [4] [] ⟨[(4, (I x1))], [], [], []⟩ [c_ 31] aln nocal ?_
      have h := Option.some.inj h
      subst h
      exact .fin0 [] (I x1) [] aln (.z .s)
theorem spec_l07Key.J (k : Nat) (a0 : (List Int)) (a1 : (List S44)) (r : Int) (h : spec_l07Key.f k a0 a1 = some r) : J prog (.call 58 [(.sl true a0.length 1 (a0.flatMap encI)), (.sl true a1.length 2 (a1.flatMap e44))] [] (I r) []) := by
  unfold spec_l07Key.f at h
  have ih0 := spec_l07Key.lab k
  refine .call' [c_ 2, c_ 3] ?_
  refine .reg' [0, 1] [] ⟨[(0, (.sl true a0.length 1 (a0.flatMap encI))), (1, (.sl true a1.length 2 (a1.flatMap e44)))], [], [], []⟩ [c_ 6, c_ 7] aln nocal ?_
  refine .reg' [0, 1, 5] [] ⟨[(0, (.sl true a0.length 1 (a0.flatMap encI))), (1, (.sl true a1.length 2 (a1.flatMap e44))), (5, (I 0))], [], [], []⟩ [c_ 28, c_ 29, c_ 15] aln nocal ?_
  refine .reg' [0, 1, 5, 6] [] ⟨[(0, (.sl true a0.length 1 (a0.flatMap encI))), (1, (.sl true a1.length 2 (a1.flatMap e44))), (5, (I 0)), (6, (I 0))], [], [], []⟩ [l_ 58, b_ 0, c_ 15] aln nocal ?_
  exact ih0 a0 a1 0 0 _ h
/-! spec_l07Next: function 45 -/
def spec_l07Next.f (a0 : S44) : Option Int := (if a0.f0 < a0.f1 then (some (wrap64 (a0.f0 + 1))) else (some (wrap64 (a0.f0 - 1))))
theorem spec_l07Next.J (a0 : S44) (r : Int) (h : spec_l07Next.f a0 = some r) : J prog (.call 45 [(.ag [(I a0.f0), (I a0.f1)])] [] (I r) []) := by
  unfold spec_l07Next.f at h
  refine .call' [c_ 2, c_ 3] ?_
  refine .reg' [1] [] ⟨[(1, (.pt 256 0 2))], [(256, [(I a0.f0), (I a0.f1)])], [], []⟩ [c_ 12, c_ 13, c_ 7] aln nocal ?_
  refine .reg' [1, 7] [] ⟨[(1, (.pt 256 0 2)), (7, (B (decide (a0.f0 < a0.f1))))], [(256, [(I a0.f0), (I a0.f1)])], [2 = 2 ∧ 0 + 1 ≤ 2, 2 = 2 ∧ 1 + 1 ≤ 2], []⟩ [c_ 13, c_ 7] (alc ⟨rfl, by decide⟩ (alc ⟨rfl, by decide⟩ aln)) nocal ?_
  by_cases c1 : a0.f0 < a0.f1
  · rw [if_pos c1] at h
    refine .cond' (.tmp 7) true [c_ 52, c_ 53, c_ 7] (bT (dT c1)) ?_
    refine .reg' [2] [] ⟨[(2, (I (wrap64 (a0.f0 + 1))))], [(256, [(I a0.f0), (I a0.f1)])], [2 = 2 ∧ 0 + 1 ≤ 2], []⟩ [c_ 53, c_ 7] (alc ⟨rfl, by decide⟩ aln) nocal ?_
    have h := Option.some.inj h
    subst h
    exact .fin0 [] (I (wrap64 (a0.f0 + 1))) [] aln (.z .s)
  · rw [if_neg c1] at h
    refine .cond' (.tmp 7) false [c_ 14, c_ 15] (bF (dF c1)) ?_
    refine .reg' [2] [] ⟨[(2, (I (wrap64 (a0.f0 - 1))))], [(256, [(I a0.f0), (I a0.f1)])], [2 = 2 ∧ 0 + 1 ≤ 2], []⟩ [c_ 15] (alc ⟨rfl, by decide⟩ aln) nocal ?_
    have h := Option.some.inj h
    subst h
    exact .fin0 [] (I (wrap64 (a0.f0 - 1))) [] aln (.z .s)
/-! spec_MayMove: function 19 -/
def spec_MayMove.f (k : Nat) (a0 : (List Int)) (a1 : (List S44)) (a2 : Int) : Option Bool := ((spec_SinglesOk.f k a0 a1).bind fun x1 => (if x1 = true then ((spec_l01In.f a2 0 (wrap64 ((a1.length : Int) - 1))).bind fun x2 => (if x2 = true then (if 0 ≤ a2 then (if a2 < (a1.length : Int) then (if (at_ a1 a2).f0 = (at_ a1 a2).f1 then (some false) else ((spec_l07Next.f (at_ a1 a2)).bind fun x3 => ((spec_l07At.f k a1 x3).bind fun x4 => ((spec_l07Fits.f a0 x3).bind fun x5 => (some (decide (x4 < x5))))))) else none) else none) else (some false))) else (some false)))
theorem spec_MayMove.J (k : Nat) (a0 : (List Int)) (a1 : (List S44)) (a2 : Int) (r : Bool) (h : spec_MayMove.f k a0 a1 a2 = some r) : J prog (.call 19 [(.sl true a0.length 1 (a0.flatMap encI)), (.sl true a1.length 2 (a1.flatMap e44)), (I a2)] [] (B r) []) := by
  unfold spec_MayMove.f at h
  refine .call' [c_ 2, c_ 3] ?_
  refine .reg' [0, 1, 2] [] ⟨[(0, (.sl true a0.length 1 (a0.flatMap encI))), (1, (.sl true a1.length 2 (a1.flatMap e44))), (2, (I a2))], [], [], []⟩ [c_ 12, c_ 13, c_ 7] aln nocal ?_
  obtain ⟨x1, hx1, h⟩ := Option.bind_eq_some_iff.mp h
  by_cases c1 : x1 = true
  · rw [if_pos c1] at h
    obtain ⟨x2, hx2, h⟩ := Option.bind_eq_some_iff.mp h
    by_cases c2 : x2 = true
    · rw [if_pos c2] at h
      by_cases c3 : 0 ≤ a2
      · rw [if_pos c3] at h
        by_cases c4 : a2 < (a1.length : Int)
        · rw [if_pos c4] at h
          refine .reg' [0, 1, 2, 32] [.no, .no, .c ⟨13, [(.sl true a0.length 1 (a0.flatMap encI)), (.sl true a1.length 2 (a1.flatMap e44))], [], (B x1), [], [], [], [], (B x1), []⟩, .no, .v (B false), .no, .no, .no, .no, .c ⟨38, [(I a2), (I 0), (I (wrap64 ((a1.length : Int) - 1)))], [], (B x2), [], [], [], [], (B x2), []⟩, .no, .no, .v (B false), .no, .no, .no, .no, .v (I (at_ a1 a2).f0), .no, .no, .no, .no, .v (I (at_ a1 a2).f1)] ⟨[(0, (.sl true a0.length 1 (a0.flatMap encI))), (1, (.sl true a1.length 2 (a1.flatMap e44))), (2, (I a2)), (32, (B ((at_ a1 a2).f0 == (at_ a1 a2).f1)))], [], [COK (hget []) [(.sl true a0.length 1 (a0.flatMap encI)), (.sl true a1.length 2 (a1.flatMap e44))] ⟨13, [(.sl true a0.length 1 (a0.flatMap encI)), (.sl true a1.length 2 (a1.flatMap e44))], [], (B x1), [], [], [], [], (B x1), []⟩, (B (!x1) : V) = B false, COK (hget []) [(I a2), (I 0), (I (wrap64 ((a1.length : Int) - 1)))] ⟨38, [(I a2), (I 0), (I (wrap64 ((a1.length : Int) - 1)))], [], (B x2), [], [], [], [], (B x2), []⟩, (B (!x2) : V) = B false, (0 : Int) ≤ a2 ∧ a2 < (a1.length : Int), rdC prog 3 (((a1.flatMap e44).drop (a2.toNat * 2)).drop 0) = (I (at_ a1 a2).f0), 1 ≤ (((a1.flatMap e44).drop (a2.toNat * 2)).drop 0).length, (0 : Int) ≤ a2 ∧ a2 < (a1.length : Int), rdC prog 3 (((a1.flatMap e44).drop (a2.toNat * 2)).drop 1) = (I (at_ a1 a2).f1), 1 ≤ (((a1.flatMap e44).drop (a2.toNat * 2)).drop 1).length], [⟨13, [(.sl true a0.length 1 (a0.flatMap encI)), (.sl true a1.length 2 (a1.flatMap e44))], [], (B x1), [], [], [], [], (B x1), []⟩, ⟨38, [(I a2), (I 0), (I (wrap64 ((a1.length : Int) - 1)))], [], (B x2), [], [], [], [], (B x2), []⟩]⟩ [c_ 13, c_ 7] (alc (cok0 false (a2c (.z (frz_sl encI_ok (fun h => h))) (a2c (.z (frz_sl e44_ok (fun h => h))) a2n)) (.z .s) (fun h => absurd h (by decide))) (alc (bF (nF c1)) (alc (cok0 false (a2c (.z .s) (a2c (.z .s) (a2c (.z .s) a2n))) (.z .s) (fun h => absurd h (by decide))) (alc (bF (nF c2)) (alc ⟨c3, c4⟩ (alc (ldC e44_ok 0 (by decide) rfl c3 c4) (alc (okIj e44_ok c3 c4 (by decide)) (alc ⟨c3, c4⟩ (alc (ldC e44_ok 1 (by decide) rfl c3 c4) (alc (okIj e44_ok c3 c4 (by decide)) aln)))))))))) (acal (spec_SinglesOk.J k a0 a1 _ hx1) (acal (spec_l01In.J a2 0 (wrap64 ((a1.length : Int) - 1)) _ hx2) nocal)) ?_
          by_cases c5 : (at_ a1 a2).f0 = (at_ a1 a2).f1
          · rw [if_pos c5] at h
            refine .cond' (.tmp 32) true [c_ 52, c_ 53, c_ 7] (bT (qT c5)) ?_
            refine .reg' [6] [] ⟨[(6, (B false))], [], [], []⟩ [c_ 53, c_ 7] aln nocal ?_
            have h := Option.some.inj h
            subst h
            exact .fin0 [] (B false) [] aln (.z .s)
          · rw [if_neg c5] at h
            refine .cond' (.tmp 32) false [c_ 14, c_ 15] (bF (qF c5)) ?_
            obtain ⟨x3, hx3, h⟩ := Option.bind_eq_some_iff.mp h
            refine .reg' [0, 1, 7] [.no, .no, .no, .v (.ag [(I (at_ a1 a2).f0), (I (at_ a1 a2).f1)]), .c ⟨45, [(.ag [(I (at_ a1 a2).f0), (I (at_ a1 a2).f1)])], [], (I x3), [], [], [], [], (I x3), []⟩] ⟨[(0, (.sl true a0.length 1 (a0.flatMap encI))), (1, (.sl true a1.length 2 (a1.flatMap e44))), (7, (I x3))], [], [(0 : Int) ≤ a2 ∧ a2 < (a1.length : Int), rdC prog 45 ((a1.flatMap e44).drop (a2.toNat * 2)) = (.ag [(I (at_ a1 a2).f0), (I (at_ a1 a2).f1)]), 2 ≤ ((a1.flatMap e44).drop (a2.toNat * 2)).length, COK (hget []) [(.ag [(I (at_ a1 a2).f0), (I (at_ a1 a2).f1)])] ⟨45, [(.ag [(I (at_ a1 a2).f0), (I (at_ a1 a2).f1)])], [], (I x3), [], [], [], [], (I x3), []⟩], [⟨45, [(.ag [(I (at_ a1 a2).f0), (I (at_ a1 a2).f1)])], [], (I x3), [], [], [], [], (I x3), []⟩]⟩ [c_ 30, c_ 31] (alc ⟨c3, c4⟩ (alc (ldA e44_ok rfl rfl c3 c4) (alc (okI e44_ok c3 c4 (by decide)) (alc (cok0 false (a2c (.z (frz_ag (a2c .s (a2c .s a2n)))) a2n) (.z .s) (fun h => absurd h (by decide))) aln)))) (acal (spec_l07Next.J (at_ a1 a2) _ hx3) nocal) ?_
            obtain ⟨x4, hx4, h⟩ := Option.bind_eq_some_iff.mp h
            obtain ⟨x5, hx5, h⟩ := Option.bind_eq_some_iff.mp h
            refine .reg' [6] [.no, .no, .c ⟨39, [(.sl true a1.length 2 (a1.flatMap e44)), (I x3)], [], (I x4), [], [], [], [], (I x4), []⟩, .no, .no, .c ⟨40, [(.sl true a0.length 1 (a0.flatMap encI)), (I x3)], [], (I x5), [], [], [], [], (I x5), []⟩] ⟨[(6, (B (decide (x4 < x5))))], [], [COK (hget []) [(.sl true a1.length 2 (a1.flatMap e44)), (I x3)] ⟨39, [(.sl true a1.length 2 (a1.flatMap e44)), (I x3)], [], (I x4), [], [], [], [], (I x4), []⟩, COK (hget []) [(.sl true a0.length 1 (a0.flatMap encI)), (I x3)] ⟨40, [(.sl true a0.length 1 (a0.flatMap encI)), (I x3)], [], (I x5), [], [], [], [], (I x5), []⟩], [⟨39, [(.sl true a1.length 2 (a1.flatMap e44)), (I x3)], [], (I x4), [], [], [], [], (I x4), []⟩, ⟨40, [(.sl true a0.length 1 (a0.flatMap encI)), (I x3)], [], (I x5), [], [], [], [], (I x5), []⟩]⟩ [c_ 31] (alc (cok0 false (a2c (.z (frz_sl e44_ok (fun h => h))) (a2c (.z .s) a2n)) (.z .s) (fun h => absurd h (by decide))) (alc (cok0 false (a2c (.z (frz_sl encI_ok (fun h => h))) (a2c (.z .s) a2n)) (.z .s) (fun h => absurd h (by decide))) aln)) (acal (spec_l07At.J k a1 x3 _ hx4) (acal (spec_l07Fits.J a0 x3 _ hx5) nocal)) ?_
            have h := Option.some.inj h
            subst h
            exact .fin0 [] (B (decide (x4 < x5))) [] aln (.z .s)
        · rw [if_neg c4] at h
          cases h
      · rw [if_neg c3] at h
        cases h
    · rw [if_neg c2] at h
      refine .reg' [0, 1, 2, 32] [.no, .no, .c ⟨13, [(.sl true a0.length 1 (a0.flatMap encI)), (.sl true a1.length 2 (a1.flatMap e44))], [], (B x1), [], [], [], [], (B x1), []⟩, .no, .v (B false), .no, .no, .no, .no, .c ⟨38, [(I a2), (I 0), (I (wrap64 ((a1.length : Int) - 1)))], [], (B x2), [], [], [], [], (B x2), []⟩, .no, .no, .v (B true)] ⟨[(0, (.sl true a0.length 1 (a0.flatMap encI))), (1, (.sl true a1.length 2 (a1.flatMap e44))), (2, (I a2)), (32, (B true))], [], [COK (hget []) [(.sl true a0.length 1 (a0.flatMap encI)), (.sl true a1.length 2 (a1.flatMap e44))] ⟨13, [(.sl true a0.length 1 (a0.flatMap encI)), (.sl true a1.length 2 (a1.flatMap e44))], [], (B x1), [], [], [], [], (B x1), []⟩, (B (!x1) : V) = B false, COK (hget []) [(I a2), (I 0), (I (wrap64 ((a1.length : Int) - 1)))] ⟨38, [(I a2), (I 0), (I (wrap64 ((a1.length : Int) - 1)))], [], (B x2), [], [], [], [], (B x2), []⟩, (B (!x2) : V) = B true], [⟨13, [(.sl true a0.length 1 (a0.flatMap encI)), (.sl true a1.length 2 (a1.flatMap e44))], [], (B x1), [], [], [], [], (B x1), []⟩, ⟨38, [(I a2), (I 0), (I (wrap64 ((a1.length : Int) - 1)))], [], (B x2), [], [], [], [], (B x2), []⟩]⟩ [c_ 13, c_ 7] (alc (cok0 false (a2c (.z (frz_sl encI_ok (fun h => h))) (a2c (.z (frz_sl e44_ok (fun h => h))) a2n)) (.z .s) (fun h => absurd h (by decide))) (alc (bF (nF c1)) (alc (cok0 false (a2c (.z .s) (a2c (.z .s) (a2c (.z .s) a2n))) (.z .s) (fun h => absurd h (by decide))) (alc (bT (nT (vF c2))) aln)))) (acal (spec_SinglesOk.J k a0 a1 _ hx1) (acal (spec_l01In.J a2 0 (wrap64 ((a1.length : Int) - 1)) _ hx2) nocal)) ?_
      refine .cond' (.tmp 32) true [c_ 52, c_ 53, c_ 7] (rfl) ?_
      refine .reg' [6] [] ⟨[(6, (B false))], [], [], []⟩ [c_ 53, c_ 7] aln nocal ?_
      have h := Option.some.inj h
      subst h
      exact .fin0 [] (B false) [] aln (.z .s)
  · rw [if_neg c1] at h
    refine .reg' [0, 1, 2, 32] [.no, .no, .c ⟨13, [(.sl true a0.length 1 (a0.flatMap encI)), (.sl true a1.length 2 (a1.flatMap e44))], [], (B x1), [], [], [], [], (B x1), []⟩, .no, .v (B true)] ⟨[(0, (.sl true a0.length 1 (a0.flatMap encI))), (1, (.sl true a1.length 2 (a1.flatMap e44))), (2, (I a2)), (32, (B true))], [], [COK (hget []) [(.sl true a0.length 1 (a0.flatMap encI)), (.sl true a1.length 2 (a1.flatMap e44))] ⟨13, [(.sl true a0.length 1 (a0.flatMap encI)), (.sl true a1.length 2 (a1.flatMap e44))], [], (B x1), [], [], [], [], (B x1), []⟩, (B (!x1) : V) = B true], [⟨13, [(.sl true a0.length 1 (a0.flatMap encI)), (.sl true a1.length 2 (a1.flatMap e44))], [], (B x1), [], [], [], [], (B x1), []⟩]⟩ [c_ 13, c_ 7] (alc (cok0 false (a2c (.z (frz_sl encI_ok (fun h => h))) (a2c (.z (frz_sl e44_ok (fun h => h))) a2n)) (.z .s) (fun h => absurd h (by decide))) (alc (bT (nT (vF c1))) aln)) (acal (spec_SinglesOk.J k a0 a1 _ hx1) nocal) ?_
    refine .cond' (.tmp 32) true [c_ 52, c_ 53, c_ 7] (rfl) ?_
    refine .reg' [6] [] ⟨[(6, (B false))], [], [], []⟩ [c_ 53, c_ 7] aln nocal ?_
    have h := Option.some.inj h
    subst h
    exact .fin0 [] (B false) [] aln (.z .s)
/-! spec_MoveOn: function 23 -/
def spec_MoveOn.l0 : Nat → (List S44) → Int → (List S44) → Int → Option ((List S44) × Bool)
 | 0, _, _, _, _ => none
 | k + 1, a1, a2, x2, x3 => (if x3 < (a1.length : Int) then (if 0 ≤ x3 then (if x3 = a2 then ((spec_l07Next.f (at_ a1 x3)).bind fun x4 => (if (x2.length + ([(⟨x4, (at_ a1 x3).f1⟩ : S44)] : List S44).length) * 16 ≤ 70368744177664 then (spec_MoveOn.l0 k a1 a2 (x2 ++ ([(⟨x4, (at_ a1 x3).f1⟩ : S44)] : List S44)) (wrap64 (x3 + 1))) else none)) else (if (x2.length + ([(at_ a1 x3)] : List S44).length) * 16 ≤ 70368744177664 then (spec_MoveOn.l0 k a1 a2 (x2 ++ ([(at_ a1 x3)] : List S44)) (wrap64 (x3 + 1))) else none)) else none) else (some (x2, true)))
def spec_MoveOn.f (k : Nat) (a0 : (List Int)) (a1 : (List S44)) (a2 : Int) : Option ((List S44) × Bool) := ((spec_MayMove.f k a0 a1 a2).bind fun x1 => (if x1 = true then (spec_MoveOn.l0 k a1 a2 ([] : List S44) 0) else (some (([] : List S44), false))))
theorem spec_MoveOn.lab : ∀ k, (∀ (a1 : (List S44)) (a2 : Int) (x2 : (List S44)) (x3 : Int) (r : ((List S44) × Bool)), spec_MoveOn.l0 k a1 a2 x2 x3 = some r → J prog (.run 23 [] [l_ 122, b_ 0, c_ 31] [(1, (.sl true a1.length 2 (a1.flatMap e44))), (2, (I a2)), (8, (.rf 1024 0 x2.length 2 (x2.length * 2))), (9, (I x3))] [(1024, (x2.flatMap e44))] (.tp [(.rf 1024 0 r.1.length 2 (r.1.length * 2)), (B r.2)]) [(1024, (r.1.flatMap e44))]))
 | 0 => (by intro a1 a2 x2 x3 r h; unfold spec_MoveOn.l0 at h; cases h)
 | k + 1 => by
  have ih0 := spec_MoveOn.lab k
  · intro a1 a2 x2 x3 r h
    unfold spec_MoveOn.l0 at h
    refine .loop' [c_ 976, c_ 977, c_ 489, l_ 122, b_ 0, c_ 31] ?_
    refine .reg' [1, 2, 8, 9, 20] [] ⟨[(1, (.sl true a1.length 2 (a1.flatMap e44))), (2, (I a2)), (8, (.rf 1024 0 x2.length 2 (x2.length * 2))), (9, (I x3)), (20, (B (decide (x3 < (a1.length : Int)))))], [(1024, (x2.flatMap e44))], [], []⟩ [c_ 977, c_ 489, l_ 122, b_ 0, c_ 31] aln nocal ?_
    by_cases c2 : x3 < (a1.length : Int)
    · rw [if_pos c2] at h
      refine .cond' (.tmp 20) true [c_ 3912, c_ 3913, b_ 1, c_ 979, l_ 122, b_ 0, c_ 31] (bT (dT c2)) ?_
      by_cases c3 : 0 ≤ x3
      · rw [if_pos c3] at h
        refine .reg' [1, 2, 8, 9, 10] [.no, .no, .no, .v (.ag [(I (at_ a1 x3).f0), (I (at_ a1 x3).f1)])] ⟨[(1, (.sl true a1.length 2 (a1.flatMap e44))), (2, (I a2)), (8, (.rf 1024 0 x2.length 2 (x2.length * 2))), (9, (I x3)), (10, (.pt 2052 0 2))], [(1024, (x2.flatMap e44)), (2052, [(I (at_ a1 x3).f0), (I (at_ a1 x3).f1)])], [(0 : Int) ≤ x3 ∧ x3 < (a1.length : Int), rdC prog 45 ((a1.flatMap e44).drop (x3.toNat * 2)) = (.ag [(I (at_ a1 x3).f0), (I (at_ a1 x3).f1)]), 2 ≤ ((a1.flatMap e44).drop (x3.toNat * 2)).length, 2 = 2 ∧ 0 + 2 ≤ 2], []⟩ [c_ 15652, c_ 15653, c_ 7827, b_ 1, c_ 979, l_ 122, b_ 0, c_ 31] (alc ⟨c3, c2⟩ (alc (ldA e44_ok rfl rfl c3 c2) (alc (okI e44_ok c3 c2 (by decide)) (alc ⟨rfl, by decide⟩ aln)))) nocal ?_
        refine .reg' [1, 2, 8, 9, 10, 29] [] ⟨[(1, (.sl true a1.length 2 (a1.flatMap e44))), (2, (I a2)), (8, (.rf 1024 0 x2.length 2 (x2.length * 2))), (9, (I x3)), (10, (.pt 2052 0 2)), (29, (B (x3 == a2)))], [(1024, (x2.flatMap e44)), (2052, [(I (at_ a1 x3).f0), (I (at_ a1 x3).f1)])], [], []⟩ [c_ 15653, c_ 7827, b_ 1, c_ 979, l_ 122, b_ 0, c_ 31] aln nocal ?_
        by_cases c4 : x3 = a2
        · rw [if_pos c4] at h
          refine .cond' (.tmp 29) true [c_ 31306, c_ 7827, b_ 1, c_ 979, l_ 122, b_ 0, c_ 31] (bT (qT c4)) ?_
          obtain ⟨x4, hx4, h⟩ := Option.bind_eq_some_iff.mp h
          refine .reg' [1, 2, 8, 9, 10] [.no, .c ⟨45, [(.ag [(I (at_ a1 x3).f0), (I (at_ a1 x3).f1)])], [], (I x4), [], [], [], [], (I x4), []⟩] ⟨[(1, (.sl true a1.length 2 (a1.flatMap e44))), (2, (I a2)), (8, (.rf 1024 0 x2.length 2 (x2.length * 2))), (9, (I x3)), (10, (.pt 2052 0 2))], [(1024, (x2.flatMap e44)), (2052, [(I x4), (I (at_ a1 x3).f1)])], [2 = 2 ∧ 0 + 2 ≤ 2, COK (hget [(1024, (x2.flatMap e44)), (2052, [(I (at_ a1 x3).f0), (I (at_ a1 x3).f1)])]) [(.ag [(I (at_ a1 x3).f0), (I (at_ a1 x3).f1)])] ⟨45, [(.ag [(I (at_ a1 x3).f0), (I (at_ a1 x3).f1)])], [], (I x4), [], [], [], [], (I x4), []⟩, 2 = 2 ∧ 0 + 1 ≤ 2], [⟨45, [(.ag [(I (at_ a1 x3).f0), (I (at_ a1 x3).f1)])], [], (I x4), [], [], [], [], (I x4), []⟩]⟩ [c_ 7827, b_ 1, c_ 979, l_ 122, b_ 0, c_ 31] (alc ⟨rfl, by decide⟩ (alc (cok0 false (a2c (.z (frz_ag (a2c .s (a2c .s a2n)))) a2n) (.z .s) (fun h => absurd h (by decide))) (alc ⟨rfl, by decide⟩ aln))) (acal (spec_l07Next.J (at_ a1 x3) _ hx4) nocal) ?_
          by_cases c5 : (x2.length + ([(⟨x4, (at_ a1 x3).f1⟩ : S44)] : List S44).length) * 16 ≤ 70368744177664
          · rw [if_pos c5] at h
            refine .reg' [1, 2, 8, 9] [.no, .no, .no, .w (.rf 1024 0 ((x2 ++ ([(⟨x4, (at_ a1 x3).f1⟩ : S44)] : List S44)).length) 2 ((x2 ++ ([(⟨x4, (at_ a1 x3).f1⟩ : S44)] : List S44)).length * 2)) ((x2 ++ ([(⟨x4, (at_ a1 x3).f1⟩ : S44)] : List S44)).flatMap e44)] ⟨[(1, (.sl true a1.length 2 (a1.flatMap e44))), (2, (I a2)), (8, (.rf 1024 0 ((x2 ++ ([(⟨x4, (at_ a1 x3).f1⟩ : S44)] : List S44)).length) 2 ((x2 ++ ([(⟨x4, (at_ a1 x3).f1⟩ : S44)] : List S44)).length * 2))), (9, (I x3))], [(1024, ((x2 ++ ([(⟨x4, (at_ a1 x3).f1⟩ : S44)] : List S44)).flatMap e44)), (2052, [(I x4), (I (at_ a1 x3).f1)]), (2818, (([(⟨x4, (at_ a1 x3).f1⟩ : S44)] : List S44).flatMap e44))], [2 = 2 ∧ 0 + 2 ≤ 2, V.rf 1024 0 (x2.length + ([(⟨x4, (at_ a1 x3).f1⟩ : S44)] : List S44).length) 2 (x2.length * 2 + ([(⟨x4, (at_ a1 x3).f1⟩ : S44)] : List S44).length * 2) = (.rf 1024 0 ((x2 ++ ([(⟨x4, (at_ a1 x3).f1⟩ : S44)] : List S44)).length) 2 ((x2 ++ ([(⟨x4, (at_ a1 x3).f1⟩ : S44)] : List S44)).length * 2)), x2.flatMap e44 ++ (((([(⟨x4, (at_ a1 x3).f1⟩ : S44)] : List S44).flatMap e44).drop 0).take (([(⟨x4, (at_ a1 x3).f1⟩ : S44)] : List S44).length * 2)) = ((x2 ++ ([(⟨x4, (at_ a1 x3).f1⟩ : S44)] : List S44)).flatMap e44), (([(⟨x4, (at_ a1 x3).f1⟩ : S44)] : List S44).length * 2 = (([(⟨x4, (at_ a1 x3).f1⟩ : S44)] : List S44).flatMap e44).length ∧ 0 + ([(⟨x4, (at_ a1 x3).f1⟩ : S44)] : List S44).length * 2 ≤ (([(⟨x4, (at_ a1 x3).f1⟩ : S44)] : List S44).flatMap e44).length) ∧ x2.length * 2 = (x2.flatMap e44).length ∧ x2.length * 2 = (x2.flatMap e44).length ∧ (x2.length + ([(⟨x4, (at_ a1 x3).f1⟩ : S44)] : List S44).length) * 16 ≤ 70368744177664], []⟩ [c_ 979, l_ 122, b_ 0, c_ 31] (alc ⟨rfl, by decide⟩ (alc (apV rfl) (alc (apR e44_ok rfl) (alc (apO e44_ok rfl c5 rfl) aln)))) nocal ?_
            refine .reg' [1, 2, 8, 9] [] ⟨[(1, (.sl true a1.length 2 (a1.flatMap e44))), (2, (I a2)), (8, (.rf 1024 0 ((x2 ++ ([(⟨x4, (at_ a1 x3).f1⟩ : S44)] : List S44)).length) 2 ((x2 ++ ([(⟨x4, (at_ a1 x3).f1⟩ : S44)] : List S44)).length * 2))), (9, (I (wrap64 (x3 + 1))))], [(1024, ((x2 ++ ([(⟨x4, (at_ a1 x3).f1⟩ : S44)] : List S44)).flatMap e44)), (2052, [(I x4), (I (at_ a1 x3).f1)]), (2818, (([(⟨x4, (at_ a1 x3).f1⟩ : S44)] : List S44).flatMap e44))], [], []⟩ [l_ 122, b_ 0, c_ 31] aln nocal ?_
            refine .wk' [] [(1024, 1024)] [(1, (.sl true a1.length 2 (a1.flatMap e44))), (2, (I a2)), (8, (.rf 1024 0 ((x2 ++ ([(⟨x4, (at_ a1 x3).f1⟩ : S44)] : List S44)).length) 2 ((x2 ++ ([(⟨x4, (at_ a1 x3).f1⟩ : S44)] : List S44)).length * 2))), (9, (I (wrap64 (x3 + 1))))] [(1024, ((x2 ++ ([(⟨x4, (at_ a1 x3).f1⟩ : S44)] : List S44)).flatMap e44))] (shc 1024 (rowF e44_ok _) shn) (enc_ (.z (frz_sl e44_ok (fun h => h))) (enc_ (.z .s) (enc_ (.rf (memP_mem (p := (1024, 1024)) rfl)) (enc_ (.z .s) enn)))) ?_
            exact ih0 a1 a2 (x2 ++ ([(⟨x4, (at_ a1 x3).f1⟩ : S44)] : List S44)) (wrap64 (x3 + 1)) _ h
          · rw [if_neg c5] at h
            cases h
        · rw [if_neg c4] at h
          refine .cond' (.tmp 29) false [c_ 7827, b_ 1, c_ 979, l_ 122, b_ 0, c_ 31] (bF (qF c4)) ?_
          by_cases c6 : (x2.length + ([(at_ a1 x3)] : List S44).length) * 16 ≤ 70368744177664
          · rw [if_pos c6] at h
            refine .reg' [1, 2, 8, 9] [.no, .no, .no, .w (.rf 1024 0 ((x2 ++ ([(at_ a1 x3)] : List S44)).length) 2 ((x2 ++ ([(at_ a1 x3)] : List S44)).length * 2)) ((x2 ++ ([(at_ a1 x3)] : List S44)).flatMap e44)] ⟨[(1, (.sl true a1.length 2 (a1.flatMap e44))), (2, (I a2)), (8, (.rf 1024 0 ((x2 ++ ([(at_ a1 x3)] : List S44)).length) 2 ((x2 ++ ([(at_ a1 x3)] : List S44)).length * 2))), (9, (I x3))], [(1024, ((x2 ++ ([(at_ a1 x3)] : List S44)).flatMap e44)), (2052, [(I (at_ a1 x3).f0), (I (at_ a1 x3).f1)]), (2818, (([(at_ a1 x3)] : List S44).flatMap e44))], [2 = 2 ∧ 0 + 2 ≤ 2, V.rf 1024 0 (x2.length + ([(at_ a1 x3)] : List S44).length) 2 (x2.length * 2 + ([(at_ a1 x3)] : List S44).length * 2) = (.rf 1024 0 ((x2 ++ ([(at_ a1 x3)] : List S44)).length) 2 ((x2 ++ ([(at_ a1 x3)] : List S44)).length * 2)), x2.flatMap e44 ++ (((([(at_ a1 x3)] : List S44).flatMap e44).drop 0).take (([(at_ a1 x3)] : List S44).length * 2)) = ((x2 ++ ([(at_ a1 x3)] : List S44)).flatMap e44), (([(at_ a1 x3)] : List S44).length * 2 = (([(at_ a1 x3)] : List S44).flatMap e44).length ∧ 0 + ([(at_ a1 x3)] : List S44).length * 2 ≤ (([(at_ a1 x3)] : List S44).flatMap e44).length) ∧ x2.length * 2 = (x2.flatMap e44).length ∧ x2.length * 2 = (x2.flatMap e44).length ∧ (x2.length + ([(at_ a1 x3)] : List S44).length) * 16 ≤ 70368744177664], []⟩ [c_ 979, l_ 122, b_ 0, c_ 31] (alc ⟨rfl, by decide⟩ (alc (apV rfl) (alc (apR e44_ok rfl) (alc (apO e44_ok rfl c6 rfl) aln)))) nocal ?_
            refine .reg' [1, 2, 8, 9] [] ⟨[(1, (.sl true a1.length 2 (a1.flatMap e44))), (2, (I a2)), (8, (.rf 1024 0 ((x2 ++ ([(at_ a1 x3)] : List S44)).length) 2 ((x2 ++ ([(at_ a1 x3)] : List S44)).length * 2))), (9, (I (wrap64 (x3 + 1))))], [(1024, ((x2 ++ ([(at_ a1 x3)] : List S44)).flatMap e44)), (2052, [(I (at_ a1 x3).f0), (I (at_ a1 x3).f1)]), (2818, (([(at_ a1 x3)] : List S44).flatMap e44))], [], []⟩ [l_ 122, b_ 0, c_ 31] aln nocal ?_
            refine .wk' [] [(1024, 1024)] [(1, (.sl true a1.length 2 (a1.flatMap e44))), (2, (I a2)), (8, (.rf 1024 0 ((x2 ++ ([(at_ a1 x3)] : List S44)).length) 2 ((x2 ++ ([(at_ a1 x3)] : List S44)).length * 2))), (9, (I (wrap64 (x3 + 1))))] [(1024, ((x2 ++ ([(at_ a1 x3)] : List S44)).flatMap e44))] (shc 1024 (rowF e44_ok _) shn) (enc_ (.z (frz_sl e44_ok (fun h => h))) (enc_ (.z .s) (enc_ (.rf (memP_mem (p := (1024, 1024)) rfl)) (enc_ (.z .s) enn)))) ?_
            exact ih0 a1 a2 (x2 ++ ([(at_ a1 x3)] : List S44)) (wrap64 (x3 + 1)) _ h
          · rw [if_neg c6] at h
            cases h
      · rw [if_neg c3] at h
        cases h
    · rw [if_neg c2] at h
      refine .cond' (.tmp 20) false [c_ 62, c_ 63] (bF (dF c2)) ?_
      refine .reg' [6, 7] [] ⟨[(6, (.rf 1024 0 x2.length 2 (x2.length * 2))), (7, (B true))], [(1024, (x2.flatMap e44))], [], []⟩ [c_ 63] aln nocal ?_
      have h := Option.some.inj h
      subst h
      exact .fin' [] [(1024, 1024)] (.tp [(.rf 1024 0 x2.length 2 (x2.length * 2)), (B true)]) [] aln (shc 1024 (rowF e44_ok _) shn) (cnv_tp (a2c (.rf (memP_mem (p := (1024, 1024)) rfl)) (a2c (.z .s) a2n)))
theorem spec_MoveOn.J (k : Nat) (a0 : (List Int)) (a1 : (List S44)) (a2 : Int) (r : ((List S44) × Bool)) (h : spec_MoveOn.f k a0 a1 a2 = some r) : J prog (.call 23 [(.sl true a0.length 1 (a0.flatMap encI)), (.sl true a1.length 2 (a1.flatMap e44)), (I a2)] [] (.tp [(.rf 1024 0 r.1.length 2 (r.1.length * 2)), (B r.2)]) [(1024, (r.1.flatMap e44))]) := by
  unfold spec_MoveOn.f at h
  have ih0 := spec_MoveOn.lab k
  refine .call' [c_ 2, c_ 3] ?_
  refine .reg' [0, 1, 2] [] ⟨[(0, (.sl true a0.length 1 (a0.flatMap encI))), (1, (.sl true a1.length 2 (a1.flatMap e44))), (2, (I a2))], [], [], []⟩ [c_ 12, c_ 13, c_ 7] aln nocal ?_
  obtain ⟨x1, hx1, h⟩ := Option.bind_eq_some_iff.mp h
  refine .reg' [1, 2, 15] [.no, .no, .no, .c ⟨19, [(.sl true a0.length 1 (a0.flatMap encI)), (.sl true a1.length 2 (a1.flatMap e44)), (I a2)], [], (B x1), [], [], [], [], (B x1), []⟩] ⟨[(1, (.sl true a1.length 2 (a1.flatMap e44))), (2, (I a2)), (15, (B (!x1)))], [], [COK (hget []) [(.sl true a0.length 1 (a0.flatMap encI)), (.sl true a1.length 2 (a1.flatMap e44)), (I a2)] ⟨19, [(.sl true a0.length 1 (a0.flatMap encI)), (.sl true a1.length 2 (a1.flatMap e44)), (I a2)], [], (B x1), [], [], [], [], (B x1), []⟩], [⟨19, [(.sl true a0.length 1 (a0.flatMap encI)), (.sl true a1.length 2 (a1.flatMap e44)), (I a2)], [], (B x1), [], [], [], [], (B x1), []⟩]⟩ [c_ 13, c_ 7] (alc (cok0 false (a2c (.z (frz_sl encI_ok (fun h => h))) (a2c (.z (frz_sl e44_ok (fun h => h))) (a2c (.z .s) a2n))) (.z .s) (fun h => absurd h (by decide))) aln) (acal (spec_MayMove.J k a0 a1 a2 _ hx1) nocal) ?_
  by_cases c1 : x1 = true
  · rw [if_pos c1] at h
    refine .cond' (.tmp 15) false [c_ 14, c_ 15] (bF (nF c1)) ?_
    refine .reg' [1, 2, 8] [] ⟨[(1, (.sl true a1.length 2 (a1.flatMap e44))), (2, (I a2)), (8, (.rf 1024 0 (([] : List S44).length) 2 (([] : List S44).length * 2)))], [(1024, (([] : List S44).flatMap e44))], [], []⟩ [c_ 60, c_ 61, c_ 31] aln nocal ?_
    refine .reg' [1, 2, 8, 9] [] ⟨[(1, (.sl true a1.length 2 (a1.flatMap e44))), (2, (I a2)), (8, (.rf 1024 0 (([] : List S44).length) 2 (([] : List S44).length * 2))), (9, (I 0))], [(1024, (([] : List S44).flatMap e44))], [], []⟩ [l_ 122, b_ 0, c_ 31] aln nocal ?_
    exact ih0 a1 a2 ([] : List S44) 0 _ h
  · rw [if_neg c1] at h
    refine .cond' (.tmp 15) true [c_ 52, c_ 53, c_ 7] (bT (nT (vF c1))) ?_
    refine .reg' [6, 7] [] ⟨[(6, nilS), (7, (B false))], [], [], []⟩ [c_ 53, c_ 7] aln nocal ?_
    have h := Option.some.inj h
    subst h
    refine .nl' 1024 ?_
    exact .fin' [] [(1024, 1024)] (.tp [nilS, (B false)]) [] aln (shc 1024 (rowF e44_ok _) shn) (cnv_tp (a2c (.nl (memP_mem (p := (1024, 1024)) rfl) rfl) (a2c (.z .s) a2n)))
/-! spec_l07Search: function 50 -/
mutual
def spec_l07Search.f : Nat → (List Int) → (List S44) → (List Bool) → Option (Bool × (List Bool))
 | 0, _, _, _ => none
 | k + 1, a0, a1, a2 => ((spec_l07Done.f k a1).bind fun x1 => (if x1 = true then (some (true, a2)) else ((spec_l07Key.f k a0 a1).bind fun x2 => (if 0 ≤ x2 then (if x2 < (a2.length : Int) then (spec_l07Search.l0 k a0 a1 (a2.set x2.toNat true) 0) else none) else none))))
def spec_l07Search.l0 : Nat → (List Int) → (List S44) → (List Bool) → Int → Option (Bool × (List Bool))
 | 0, _, _, _, _ => none
 | k + 1, a0, a1, x3, x4 => (if x4 < (a1.length : Int) then ((spec_MoveOn.f k a0 a1 x4).bind fun x5 => (if x5.2 = true then ((spec_l07Key.f k a0 x5.1).bind fun x6 => (if 0 ≤ x6 then (if x6 < (x3.length : Int) then (if (at_ x3 x6) = true then (spec_l07Search.l0 k a0 a1 x3 (wrap64 (x4 + 1))) else ((spec_l07Search.f k a0 x5.1 x3).bind fun x7 => (if x7.1 = true then (some (true, x7.2)) else (spec_l07Search.l0 k a0 a1 x7.2 (wrap64 (x4 + 1)))))) else none) else none)) else (spec_l07Search.l0 k a0 a1 x3 (wrap64 (x4 + 1))))) else (some (false, x3)))
end
theorem spec_l07Search.lenl : ∀ k, (∀ (a0 : (List Int)) (a1 : (List S44)) (a2 : (List Bool)) (r : (Bool × (List Bool))), spec_l07Search.f k a0 a1 a2 = some r → r.2.length = a2.length) ∧ (∀ (a0 : (List Int)) (a1 : (List S44)) (x3 : (List Bool)) (x4 : Int) (r : (Bool × (List Bool))), spec_l07Search.l0 k a0 a1 x3 x4 = some r → r.2.length = x3.length)
 | 0 => ⟨(by intro a0 a1 a2 r h; unfold spec_l07Search.f at h; cases h), (by intro a0 a1 x3 x4 r h; unfold spec_l07Search.l0 at h; cases h)⟩
 | k + 1 => by
  obtain ⟨ihf, ih0⟩ := spec_l07Search.lenl k
  have lenf := ihf
  refine ⟨?_, ?_⟩
  · intro a0 a1 a2 r h
    unfold spec_l07Search.f at h
    obtain ⟨x1, hx1, h⟩ := Option.bind_eq_some_iff.mp h
    by_cases c1 : x1 = true
    · rw [if_pos c1] at h
      have h := Option.some.inj h
      subst h
      first | rfl | (simp only [List.length_set]; done) | exact ⟨by first | rfl | simp only [List.length_set]⟩
    · rw [if_neg c1] at h
      obtain ⟨x2, hx2, h⟩ := Option.bind_eq_some_iff.mp h
      by_cases c2 : 0 ≤ x2
      · rw [if_pos c2] at h
        by_cases c3 : x2 < (a2.length : Int)
        · rw [if_pos c3] at h
          have q := ih0 a0 a1 (a2.set x2.toNat true) 0 _ h
          first | exact q | (simp only [List.length_set] at q; exact q)
        · rw [if_neg c3] at h
          cases h
      · rw [if_neg c2] at h
        cases h
  · intro a0 a1 x3 x4 r h
    unfold spec_l07Search.l0 at h
    by_cases c4 : x4 < (a1.length : Int)
    · rw [if_pos c4] at h
      obtain ⟨x5, hx5, h⟩ := Option.bind_eq_some_iff.mp h
      by_cases c5 : x5.2 = true
      · rw [if_pos c5] at h
        obtain ⟨x6, hx6, h⟩ := Option.bind_eq_some_iff.mp h
        by_cases c6 : 0 ≤ x6
        · rw [if_pos c6] at h
          by_cases c7 : x6 < (x3.length : Int)
          · rw [if_pos c7] at h
            by_cases c8 : (at_ x3 x6) = true
            · rw [if_pos c8] at h
              have q := ih0 a0 a1 x3 (wrap64 (x4 + 1)) _ h
              first | exact q | (simp only [List.length_set] at q; exact q)
            · rw [if_neg c8] at h
              obtain ⟨x7, hx7, h⟩ := Option.bind_eq_some_iff.mp h
              have lhx7 := ihf a0 x5.1 x3 _ hx7
              by_cases c9 : x7.1 = true
              · rw [if_pos c9] at h
                have h := Option.some.inj h
                subst h
                first | rfl | (simp only [List.length_set, lhx7]; done) | exact ⟨by first | rfl | simp only [List.length_set, lhx7]⟩
              · rw [if_neg c9] at h
                have q := ih0 a0 a1 x7.2 (wrap64 (x4 + 1)) _ h
                first | exact q | (simp only [List.length_set, lhx7] at q; exact q)
          · rw [if_neg c7] at h
            cases h
        · rw [if_neg c6] at h
          cases h
      · rw [if_neg c5] at h
        have q := ih0 a0 a1 x3 (wrap64 (x4 + 1)) _ h
        first | exact q | (simp only [List.length_set] at q; exact q)
    · rw [if_neg c4] at h
      have h := Option.some.inj h
      subst h
      first | rfl | (simp only [List.length_set]; done) | exact ⟨by first | rfl | simp only [List.length_set]⟩
theorem spec_l07Search.len (k : Nat) (a0 : (List Int)) (a1 : (List S44)) (a2 : (List Bool)) (r : (Bool × (List Bool))) (h : spec_l07Search.f k a0 a1 a2 = some r) : r.2.length = a2.length := by
  exact (spec_l07Search.lenl k).1 a0 a1 a2 r h
end Go.Proofs.Ytpjmefdpjlhkhaa.Fns
