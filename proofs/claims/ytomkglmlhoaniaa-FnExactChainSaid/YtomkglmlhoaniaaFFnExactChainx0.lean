/- The functions that the law FnExactChain reaches, by the engine. Printed by a program of this seat. -/
import Derived.Test.YtomkglmlhoaniaaE5
import Derived.Test.YtomkglmlhoaniaaProg
namespace Go.Proofs.Ytomkglmlhoaniaa.Fns
open Go.Proofs.Try Go.Proofs.Ytomkglmlhoaniaa.Eng Go.RowKit
set_option maxRecDepth 100000
set_option linter.unusedVariables false
set_option linter.unusedSimpArgs false
structure S52 where
  f0 : Int
  f1 : Int
  f2 : Int
  f3 : Int
  deriving Inhabited
def e52 (x : S52) : List V := [I x.f0, I x.f1, I x.f2, I x.f3]
theorem e52_ok : Enc (e52) 4 where
  len := fun _ => rfl
  self := fun x v h H tb bor => by
    simp only [e52, List.mem_cons, List.not_mem_nil, or_false] at h
    rcases h with h | h | h | h
    · subst h; exact .s
    · subst h; exact .s
    · subst h; exact .s
    · subst h; exact .s
  cln := fun x v h => by
    simp only [e52, List.mem_cons, List.not_mem_nil, or_false] at h
    rcases h with h | h | h | h
    · subst h; exact .s
    · subst h; exact .s
    · subst h; exact .s
    · subst h; exact .s
theorem e52_c {b : Bool} : EncC b e52 := by
  intro x v h
  simp only [e52, List.mem_cons, List.not_mem_nil, or_false] at h
  rcases h with h | h | h | h
  · subst h; exact .s
  · subst h; exact .s
  · subst h; exact .s
  · subst h; exact .s
structure S24 where
  f0 : (List Int)
  f1 : (List S52)
  f2 : Int
  deriving Inhabited
def e24 (t : Bool) (x : S24) : List V := [.sl t x.f0.length 1 (x.f0.flatMap encI), .sl t x.f1.length 4 (x.f1.flatMap e52), I x.f2]
theorem e24_ok (t : Bool) : Enc (e24 t) 3 where
  len := fun _ => rfl
  self := fun x v h H tb bor => by
    simp only [e24, List.mem_cons, List.not_mem_nil, or_false] at h
    rcases h with h | h | h
    · subst h; exact frz_sl encI_ok id
    · subst h; exact frz_sl e52_ok id
    · subst h; exact .s
  cln := fun x v h => by
    simp only [e24, List.mem_cons, List.not_mem_nil, or_false] at h
    rcases h with h | h | h
    · subst h; exact cln_sl encI_ok
    · subst h; exact cln_sl e52_ok
    · subst h; exact .s
theorem e24_to (x : S24) {H : Nat → Option (List V)} {tb : Bool} {bor : List Nat} : All2 (Frz H tb bor) (e24 false x) (e24 true x) := (a2c (frz_sl encI_ok (fun h => absurd h (by decide))) (a2c (frz_sl e52_ok (fun h => absurd h (by decide))) (a2c .s a2n)))
theorem e24_c1 : EncC true (e24 true) := by
  intro x v h
  simp only [e24, List.mem_cons, List.not_mem_nil, or_false] at h
  rcases h with h | h | h
  · subst h; exact clnS encI_c (fun h => rfl)
  · subst h; exact clnS e52_c (fun h => rfl)
  · subst h; exact .s
theorem e24_c0 {b : Bool} : EncC b (e24 false) := by
  intro x v h
  simp only [e24, List.mem_cons, List.not_mem_nil, or_false] at h
  rcases h with h | h | h
  · subst h; exact clnS encI_c (fun h => absurd h (by decide))
  · subst h; exact clnS e52_c (fun h => absurd h (by decide))
  · subst h; exact .s
structure S29 where
  f0 : (List Int)
  f1 : (List S52)
  f2 : Int
  deriving Inhabited
def e29 (t : Bool) (x : S29) : List V := [.sl t x.f0.length 1 (x.f0.flatMap encI), .sl t x.f1.length 4 (x.f1.flatMap e52), I x.f2]
theorem e29_ok (t : Bool) : Enc (e29 t) 3 where
  len := fun _ => rfl
  self := fun x v h H tb bor => by
    simp only [e29, List.mem_cons, List.not_mem_nil, or_false] at h
    rcases h with h | h | h
    · subst h; exact frz_sl encI_ok id
    · subst h; exact frz_sl e52_ok id
    · subst h; exact .s
  cln := fun x v h => by
    simp only [e29, List.mem_cons, List.not_mem_nil, or_false] at h
    rcases h with h | h | h
    · subst h; exact cln_sl encI_ok
    · subst h; exact cln_sl e52_ok
    · subst h; exact .s
theorem e29_to (x : S29) {H : Nat → Option (List V)} {tb : Bool} {bor : List Nat} : All2 (Frz H tb bor) (e29 false x) (e29 true x) := (a2c (frz_sl encI_ok (fun h => absurd h (by decide))) (a2c (frz_sl e52_ok (fun h => absurd h (by decide))) (a2c .s a2n)))
theorem e29_c1 : EncC true (e29 true) := by
  intro x v h
  simp only [e29, List.mem_cons, List.not_mem_nil, or_false] at h
  rcases h with h | h | h
  · subst h; exact clnS encI_c (fun h => rfl)
  · subst h; exact clnS e52_c (fun h => rfl)
  · subst h; exact .s
theorem e29_c0 {b : Bool} : EncC b (e29 false) := by
  intro x v h
  simp only [e29, List.mem_cons, List.not_mem_nil, or_false] at h
  rcases h with h | h | h
  · subst h; exact clnS encI_c (fun h => absurd h (by decide))
  · subst h; exact clnS e52_c (fun h => absurd h (by decide))
  · subst h; exact .s
/-! laws_szIntS: function 42 -/
def laws_szIntS.f (a0 : (List Int)) (a1 : Int) : Option Int := (if (wrap64 (a1 - (a0.length : Int))) < 0 then (some (-1)) else (some (wrap64 (a1 - (a0.length : Int)))))
theorem laws_szIntS.J (a0 : (List Int)) (a1 : Int) (r : Int) (h : laws_szIntS.f a0 a1 = some r) : J prog (.call 42 [(.sl true a0.length 1 (a0.flatMap encI)), (I a1)] [] (I r) []) := by
  unfold laws_szIntS.f at h
  refine .call' [c_ 2, c_ 3] ?_
  refine .reg' [0, 1] [] ⟨[(0, (.sl true a0.length 1 (a0.flatMap encI))), (1, (I a1))], [], [], []⟩ [c_ 6, c_ 7] aln nocal ?_
  refine .reg' [1] [] ⟨[(1, (I (wrap64 (a1 - (a0.length : Int)))))], [], [], []⟩ [c_ 28, c_ 29, c_ 15] aln nocal ?_
  refine .reg' [1, 10] [] ⟨[(1, (I (wrap64 (a1 - (a0.length : Int))))), (10, (B (decide ((wrap64 (a1 - (a0.length : Int))) < 0))))], [], [], []⟩ [c_ 29, c_ 15] aln nocal ?_
  by_cases c1 : (wrap64 (a1 - (a0.length : Int))) < 0
  · rw [if_pos c1] at h
    refine .cond' (.tmp 10) true [c_ 116, c_ 117, c_ 15] (bT (dT c1)) ?_
    refine .reg' [4] [] ⟨[(4, (I (-1)))], [], [], []⟩ [c_ 117, c_ 15] aln nocal ?_
    have h := Option.some.inj h
    subst h
    exact .fin0 [] (I (-1)) [] aln (.z .s)
  · rw [if_neg c1] at h
    refine .cond' (.tmp 10) false [c_ 30, c_ 31] (bF (dF c1)) ?_
    refine .reg' [4] [] ⟨[(4, (I (wrap64 (a1 - (a0.length : Int)))))], [], [], []⟩ [c_ 31] aln nocal ?_
    have h := Option.some.inj h
    subst h
    exact .fin0 [] (I (wrap64 (a1 - (a0.length : Int)))) [] aln (.z .s)
/-! laws_szLinkS: function 43 -/
def laws_szLinkS.f (a0 : (List S52)) (a1 : Int) : Option Int := (if (wrap64 (a1 - (a0.length : Int))) < 0 then (some (-1)) else (some (wrap64 (a1 - (a0.length : Int)))))
theorem laws_szLinkS.J (a0 : (List S52)) (a1 : Int) (r : Int) (h : laws_szLinkS.f a0 a1 = some r) : J prog (.call 43 [(.sl true a0.length 4 (a0.flatMap e52)), (I a1)] [] (I r) []) := by
  unfold laws_szLinkS.f at h
  refine .call' [c_ 2, c_ 3] ?_
  refine .reg' [0, 1] [] ⟨[(0, (.sl true a0.length 4 (a0.flatMap e52))), (1, (I a1))], [], [], []⟩ [c_ 6, c_ 7] aln nocal ?_
  refine .reg' [1] [] ⟨[(1, (I (wrap64 (a1 - (a0.length : Int)))))], [], [], []⟩ [c_ 28, c_ 29, c_ 15] aln nocal ?_
  refine .reg' [1, 10] [] ⟨[(1, (I (wrap64 (a1 - (a0.length : Int))))), (10, (B (decide ((wrap64 (a1 - (a0.length : Int))) < 0))))], [], [], []⟩ [c_ 29, c_ 15] aln nocal ?_
  by_cases c1 : (wrap64 (a1 - (a0.length : Int))) < 0
  · rw [if_pos c1] at h
    refine .cond' (.tmp 10) true [c_ 116, c_ 117, c_ 15] (bT (dT c1)) ?_
    refine .reg' [4] [] ⟨[(4, (I (-1)))], [], [], []⟩ [c_ 117, c_ 15] aln nocal ?_
    have h := Option.some.inj h
    subst h
    exact .fin0 [] (I (-1)) [] aln (.z .s)
  · rw [if_neg c1] at h
    refine .cond' (.tmp 10) false [c_ 30, c_ 31] (bF (dF c1)) ?_
    refine .reg' [4] [] ⟨[(4, (I (wrap64 (a1 - (a0.length : Int)))))], [], [], []⟩ [c_ 31] aln nocal ?_
    have h := Option.some.inj h
    subst h
    exact .fin0 [] (I (wrap64 (a1 - (a0.length : Int)))) [] aln (.z .s)
/-! laws_szWork: function 13 -/
def laws_szWork.f (a0 : S24) (a1 : Int) : Option Int := ((laws_szIntS.f a0.f0 a1).bind fun x1 => (if x1 < 0 then (some (-1)) else ((laws_szLinkS.f a0.f1 x1).bind fun x2 => (if x2 < 0 then (some (-1)) else (some x2)))))
theorem laws_szWork.J (a0 : S24) (a1 : Int) (r : Int) (h : laws_szWork.f a0 a1 = some r) : J prog (.call 13 [(.ag [(.sl true a0.f0.length 1 (a0.f0.flatMap encI)), (.sl true a0.f1.length 4 (a0.f1.flatMap e52)), (I a0.f2)]), (I a1)] [] (I r) []) := by
  unfold laws_szWork.f at h
  refine .call' [c_ 2, c_ 3] ?_
  refine .reg' [1, 2] [] ⟨[(1, (I a1)), (2, (.pt 256 0 3))], [(256, [(.sl true a0.f0.length 1 (a0.f0.flatMap encI)), (.sl true a0.f1.length 4 (a0.f1.flatMap e52)), (I a0.f2)])], [], []⟩ [c_ 6, c_ 7] aln nocal ?_
  obtain ⟨x1, hx1, h⟩ := Option.bind_eq_some_iff.mp h
  refine .reg' [1, 2] [.no, .no, .no, .c ⟨42, [(.sl true a0.f0.length 1 (a0.f0.flatMap encI)), (I a1)], [], (I x1), [], [], [], [], (I x1), []⟩] ⟨[(1, (I x1)), (2, (.pt 256 0 3))], [(256, [(.sl true a0.f0.length 1 (a0.f0.flatMap encI)), (.sl true a0.f1.length 4 (a0.f1.flatMap e52)), (I a0.f2)])], [3 = 3 ∧ 0 + 1 ≤ 3, COK (hget [(256, [(.sl true a0.f0.length 1 (a0.f0.flatMap encI)), (.sl true a0.f1.length 4 (a0.f1.flatMap e52)), (I a0.f2)])]) [(.sl true a0.f0.length 1 (a0.f0.flatMap encI)), (I a1)] ⟨42, [(.sl true a0.f0.length 1 (a0.f0.flatMap encI)), (I a1)], [], (I x1), [], [], [], [], (I x1), []⟩], [⟨42, [(.sl true a0.f0.length 1 (a0.f0.flatMap encI)), (I a1)], [], (I x1), [], [], [], [], (I x1), []⟩]⟩ [c_ 28, c_ 29, c_ 15] (alc ⟨rfl, by decide⟩ (alc (cok0 false (a2c (.z (frz_sl encI_ok (fun h => h))) (a2c (.z .s) a2n)) (.z .s) (fun h => absurd h (by decide))) aln)) (acal (laws_szIntS.J a0.f0 a1 _ hx1) nocal) ?_
  refine .reg' [1, 2, 10] [] ⟨[(1, (I x1)), (2, (.pt 256 0 3)), (10, (B (decide (x1 < 0))))], [(256, [(.sl true a0.f0.length 1 (a0.f0.flatMap encI)), (.sl true a0.f1.length 4 (a0.f1.flatMap e52)), (I a0.f2)])], [], []⟩ [c_ 29, c_ 15] aln nocal ?_
  by_cases c1 : x1 < 0
  · rw [if_pos c1] at h
    refine .cond' (.tmp 10) true [c_ 116, c_ 117, c_ 15] (bT (dT c1)) ?_
    refine .reg' [4] [] ⟨[(4, (I (-1)))], [(256, [(.sl true a0.f0.length 1 (a0.f0.flatMap encI)), (.sl true a0.f1.length 4 (a0.f1.flatMap e52)), (I a0.f2)])], [], []⟩ [c_ 117, c_ 15] aln nocal ?_
    have h := Option.some.inj h
    subst h
    exact .fin0 [] (I (-1)) [] aln (.z .s)
  · rw [if_neg c1] at h
    refine .cond' (.tmp 10) false [c_ 30, c_ 31] (bF (dF c1)) ?_
    obtain ⟨x2, hx2, h⟩ := Option.bind_eq_some_iff.mp h
    refine .reg' [1] [.no, .no, .no, .c ⟨43, [(.sl true a0.f1.length 4 (a0.f1.flatMap e52)), (I x1)], [], (I x2), [], [], [], [], (I x2), []⟩] ⟨[(1, (I x2))], [(256, [(.sl true a0.f0.length 1 (a0.f0.flatMap encI)), (.sl true a0.f1.length 4 (a0.f1.flatMap e52)), (I a0.f2)])], [3 = 3 ∧ 1 + 1 ≤ 3, COK (hget [(256, [(.sl true a0.f0.length 1 (a0.f0.flatMap encI)), (.sl true a0.f1.length 4 (a0.f1.flatMap e52)), (I a0.f2)])]) [(.sl true a0.f1.length 4 (a0.f1.flatMap e52)), (I x1)] ⟨43, [(.sl true a0.f1.length 4 (a0.f1.flatMap e52)), (I x1)], [], (I x2), [], [], [], [], (I x2), []⟩], [⟨43, [(.sl true a0.f1.length 4 (a0.f1.flatMap e52)), (I x1)], [], (I x2), [], [], [], [], (I x2), []⟩]⟩ [c_ 124, c_ 125, c_ 63] (alc ⟨rfl, by decide⟩ (alc (cok0 false (a2c (.z (frz_sl e52_ok (fun h => h))) (a2c (.z .s) a2n)) (.z .s) (fun h => absurd h (by decide))) aln)) (acal (laws_szLinkS.J a0.f1 x1 _ hx2) nocal) ?_
    refine .reg' [1, 16] [] ⟨[(1, (I x2)), (16, (B (decide (x2 < 0))))], [(256, [(.sl true a0.f0.length 1 (a0.f0.flatMap encI)), (.sl true a0.f1.length 4 (a0.f1.flatMap e52)), (I a0.f2)])], [], []⟩ [c_ 125, c_ 63] aln nocal ?_
    by_cases c2 : x2 < 0
    · rw [if_pos c2] at h
      refine .cond' (.tmp 16) true [c_ 500, c_ 501, c_ 63] (bT (dT c2)) ?_
      refine .reg' [4] [] ⟨[(4, (I (-1)))], [(256, [(.sl true a0.f0.length 1 (a0.f0.flatMap encI)), (.sl true a0.f1.length 4 (a0.f1.flatMap e52)), (I a0.f2)])], [], []⟩ [c_ 501, c_ 63] aln nocal ?_
      have h := Option.some.inj h
      subst h
      exact .fin0 [] (I (-1)) [] aln (.z .s)
    · rw [if_neg c2] at h
      refine .cond' (.tmp 16) false [c_ 126, c_ 127] (bF (dF c2)) ?_
      refine .reg' [4] [] ⟨[(4, (I x2))], [(256, [(.sl true a0.f0.length 1 (a0.f0.flatMap encI)), (.sl true a0.f1.length 4 (a0.f1.flatMap e52)), (I a0.f2)])], [], []⟩ [c_ 127] aln nocal ?_
      have h := Option.some.inj h
      subst h
      exact .fin0 [] (I x2) [] aln (.z .s)
/-! laws_toIntS: function 21 -/
def laws_toIntS.l0 : Nat → (List Int) → (List Int) → Int → Option (List Int)
 | 0, _, _, _ => none
 | k + 1, a0, x1, x2 => (if x2 < (a0.length : Int) then (if 0 ≤ x2 then (if x2 < (x1.length : Int) then (laws_toIntS.l0 k a0 (x1.set x2.toNat (at_ a0 x2)) (wrap64 (x2 + 1))) else none) else none) else (some x1))
def laws_toIntS.f (k : Nat) (a0 : (List Int)) : Option (List Int) := (if 0 ≤ (a0.length : Int) then (if (a0.length : Int) * 8 ≤ 281474976710656 then (laws_toIntS.l0 k a0 (List.replicate (a0.length : Int).toNat (0 : Int)) 0) else none) else none)
theorem laws_toIntS.lab : ∀ k, (∀ (a0 : (List Int)) (x1 : (List Int)) (x2 : Int) (r : (List Int)), laws_toIntS.l0 k a0 x1 x2 = some r → J prog (.run 21 [] [l_ 58, b_ 0, c_ 15] [(0, (.sl true a0.length 1 (a0.flatMap encI))), (3, (.rf 514 0 x1.length 1 (x1.length * 1))), (4, (I x2))] [(514, (x1.flatMap encI))] (.rf 514 0 r.length 1 (r.length * 1)) [(514, (r.flatMap encI))]))
 | 0 => (by intro a0 x1 x2 r h; unfold laws_toIntS.l0 at h; cases h)
 | k + 1 => by
  have ih := laws_toIntS.lab k
  have ih0 := ih
  · intro a0 x1 x2 r h
    unfold laws_toIntS.l0 at h
    refine .loop' [c_ 464, c_ 465, c_ 233, l_ 58, b_ 0, c_ 15] ?_
    refine .reg' [0, 3, 4, 11] [] ⟨[(0, (.sl true a0.length 1 (a0.flatMap encI))), (3, (.rf 514 0 x1.length 1 (x1.length * 1))), (4, (I x2)), (11, (B (decide (x2 < (a0.length : Int)))))], [(514, (x1.flatMap encI))], [], []⟩ [c_ 465, c_ 233, l_ 58, b_ 0, c_ 15] aln nocal ?_
    by_cases c3 : x2 < (a0.length : Int)
    · rw [if_pos c3] at h
      refine .cond' (.tmp 11) true [c_ 932, b_ 1, c_ 467, l_ 58, b_ 0, c_ 15] (bT (dT c3)) ?_
      by_cases c4 : 0 ≤ x2
      · rw [if_pos c4] at h
        by_cases c5 : x2 < (x1.length : Int)
        · rw [if_pos c5] at h
          refine .reg' [0, 3, 4] [.no, .no, .no, .no, .no, .v (I (at_ a0 x2)), .no, .w .un ((x1.set x2.toNat (at_ a0 x2)).flatMap encI)] ⟨[(0, (.sl true a0.length 1 (a0.flatMap encI))), (3, (.rf 514 0 x1.length 1 (x1.length * 1))), (4, (I x2))], [(514, ((x1.set x2.toNat (at_ a0 x2)).flatMap encI))], [(0 : Int) ≤ x2 ∧ x2 < (a0.length : Int), rdC prog 3 ((a0.flatMap encI).drop (x2.toNat * 1)) = (I (at_ a0 x2)), 1 ≤ ((a0.flatMap encI).drop (x2.toNat * 1)).length, (0 : Int) ≤ x2 ∧ x2 < (x1.length : Int), V.un = V.un, spl (x1.flatMap encI) (0 + x2.toNat * 1) [(I (at_ a0 x2))] = ((x1.set x2.toNat (at_ a0 x2)).flatMap encI), x1.length * 1 = (x1.flatMap encI).length ∧ 0 + x2.toNat * 1 + 1 ≤ (x1.flatMap encI).length], []⟩ [c_ 467, l_ 58, b_ 0, c_ 15] (alc ⟨c4, c3⟩ (alc (ldC1 encI_ok rfl c4 c3) (alc (okI encI_ok c4 c3 (by decide)) (alc ⟨c4, c5⟩ (alc rfl (alc (st_row1 encI_ok c4 c5 (I (at_ a0 x2)) rfl) (alc (okA0 encI_ok c4 c5 (by decide)) aln))))))) nocal ?_
          refine .eqs (env2 := [(0, (.sl true a0.length 1 (a0.flatMap encI))), (3, (.rf 514 0 ((x1.set x2.toNat (at_ a0 x2)).length) 1 ((x1.set x2.toNat (at_ a0 x2)).length * 1))), (4, (I x2))]) (H2 := [(514, ((x1.set x2.toNat (at_ a0 x2)).flatMap encI))]) (by first | (simp only [List.length_set]; done) | simp) (by first | rfl | (simp only [List.length_set]; done) | simp) ?_
          refine .reg' [0, 3, 4] [] ⟨[(0, (.sl true a0.length 1 (a0.flatMap encI))), (3, (.rf 514 0 ((x1.set x2.toNat (at_ a0 x2)).length) 1 ((x1.set x2.toNat (at_ a0 x2)).length * 1))), (4, (I (wrap64 (x2 + 1))))], [(514, ((x1.set x2.toNat (at_ a0 x2)).flatMap encI))], [], []⟩ [l_ 58, b_ 0, c_ 15] aln nocal ?_
          exact ih0 a0 (x1.set x2.toNat (at_ a0 x2)) (wrap64 (x2 + 1)) _ h
        · rw [if_neg c5] at h
          cases h
      · rw [if_neg c4] at h
        cases h
    · rw [if_neg c3] at h
      refine .cond' (.tmp 11) false [c_ 30, c_ 31] (bF (dF c3)) ?_
      refine .reg' [2] [] ⟨[(2, (.rf 514 0 x1.length 1 (x1.length * 1)))], [(514, (x1.flatMap encI))], [], []⟩ [c_ 31] aln nocal ?_
      have h := Option.some.inj h
      subst h
      exact .fin' [] [(514, 514)] (.rf 514 0 x1.length 1 (x1.length * 1)) [] aln (shc 514 (rowF encI_ok _) shn) (.rf (memP_mem (p := (514, 514)) rfl))
theorem laws_toIntS.J (k : Nat) (a0 : (List Int)) (r : (List Int)) (h : laws_toIntS.f k a0 = some r) : J prog (.call 21 [(.sl true a0.length 1 (a0.flatMap encI))] [] (.rf 514 0 r.length 1 (r.length * 1)) [(514, (r.flatMap encI))]) := by
  unfold laws_toIntS.f at h
  have ih0 := laws_toIntS.lab k
  refine .call' [c_ 2, c_ 3] ?_
  refine .reg' [0] [] ⟨[(0, (.sl true a0.length 1 (a0.flatMap encI)))], [], [], []⟩ [c_ 6, c_ 7] aln nocal ?_
  by_cases c1 : 0 ≤ (a0.length : Int)
  · rw [if_pos c1] at h
    by_cases c2 : (a0.length : Int) * 8 ≤ 281474976710656
    · rw [if_pos c2] at h
      refine .reg' [0, 3] [.no, .no, .w (.rf 514 0 ((List.replicate (a0.length : Int).toNat (0 : Int)).length) 1 ((List.replicate (a0.length : Int).toNat (0 : Int)).length * 1)) ((List.replicate (a0.length : Int).toNat (0 : Int)).flatMap encI)] ⟨[(0, (.sl true a0.length 1 (a0.flatMap encI))), (3, (.rf 514 0 ((List.replicate (a0.length : Int).toNat (0 : Int)).length) 1 ((List.replicate (a0.length : Int).toNat (0 : Int)).length * 1)))], [(514, ((List.replicate (a0.length : Int).toNat (0 : Int)).flatMap encI))], [V.rf 514 0 (a0.length : Int).toNat 1 ((a0.length : Int).toNat * 1) = (.rf 514 0 ((List.replicate (a0.length : Int).toNat (0 : Int)).length) 1 ((List.replicate (a0.length : Int).toNat (0 : Int)).length * 1)), rept (a0.length : Int).toNat [(I 0)] = (List.replicate (a0.length : Int).toNat (0 : Int)).flatMap encI, (a0.length : Int) = (a0.length : Int) ∧ 0 ≤ (a0.length : Int) ∧ (a0.length : Int) * 8 ≤ 281474976710656 ∧ (a0.length : Int) ≤ 9223372036854775807], []⟩ [c_ 28, c_ 29, c_ 15] (alc mkV (alc (row_rept1 (enc := encI) (x := 0) (v := (I 0)) rfl _) (alc ⟨rfl, c1, c2, by omega⟩ aln))) nocal ?_
      refine .reg' [0, 3, 4] [] ⟨[(0, (.sl true a0.length 1 (a0.flatMap encI))), (3, (.rf 514 0 ((List.replicate (a0.length : Int).toNat (0 : Int)).length) 1 ((List.replicate (a0.length : Int).toNat (0 : Int)).length * 1))), (4, (I 0))], [(514, ((List.replicate (a0.length : Int).toNat (0 : Int)).flatMap encI))], [], []⟩ [l_ 58, b_ 0, c_ 15] aln nocal ?_
      exact ih0 a0 (List.replicate (a0.length : Int).toNat (0 : Int)) 0 _ h
    · rw [if_neg c2] at h
      cases h
  · rw [if_neg c1] at h
    cases h
/-! laws_toLink: function 58 -/
def laws_toLink.f (a0 : S52) : Option S52 := (some a0)
theorem laws_toLink.J (a0 : S52) (r : S52) (h : laws_toLink.f a0 = some r) : J prog (.call 58 [(.ag [(I a0.f0), (I a0.f1), (I a0.f2), (I a0.f3)])] [] (.ag [(I r.f0), (I r.f1), (I r.f2), (I r.f3)]) []) := by
  unfold laws_toLink.f at h
  refine .call' [c_ 2, c_ 3] ?_
  refine .reg' [1, 2] [] ⟨[(1, (.pt 256 0 4)), (2, (.pt 257 0 4))], [(256, [(I a0.f0), (I a0.f1), (I a0.f2), (I a0.f3)]), (257, [(I 0), (I 0), (I 0), (I 0)])], [], []⟩ [c_ 6, c_ 7] aln nocal ?_
  refine .reg' [1, 2, 3] [] ⟨[(1, (.pt 256 0 4)), (2, (.pt 257 0 4)), (3, (.pt 512 0 4))], [(256, [(I a0.f0), (I a0.f1), (I a0.f2), (I a0.f3)]), (257, [(I 0), (I 0), (I 0), (I 0)]), (512, [(I 0), (I 0), (I 0), (I 0)])], [], []⟩ [c_ 14, c_ 15] aln nocal ?_
  refine .reg' [1, 2, 3] [] ⟨[(1, (.pt 256 0 4)), (2, (.pt 257 0 4)), (3, (.pt 512 0 4))], [(256, [(I a0.f0), (I a0.f1), (I a0.f2), (I a0.f3)]), (257, [(I 0), (I 0), (I 0), (I 0)]), (512, [(I a0.f0), (I 0), (I 0), (I 0)])], [4 = 4 ∧ 0 + 1 ≤ 4, 4 = 4 ∧ 0 + 1 ≤ 4], []⟩ [c_ 30, c_ 31] (alc ⟨rfl, by decide⟩ (alc ⟨rfl, by decide⟩ aln)) nocal ?_
  refine .reg' [1, 2, 3] [] ⟨[(1, (.pt 256 0 4)), (2, (.pt 257 0 4)), (3, (.pt 512 0 4))], [(256, [(I a0.f0), (I a0.f1), (I a0.f2), (I a0.f3)]), (257, [(I 0), (I 0), (I 0), (I 0)]), (512, [(I a0.f0), (I a0.f1), (I 0), (I 0)])], [4 = 4 ∧ 1 + 1 ≤ 4, 4 = 4 ∧ 1 + 1 ≤ 4], []⟩ [c_ 62, c_ 63] (alc ⟨rfl, by decide⟩ (alc ⟨rfl, by decide⟩ aln)) nocal ?_
  refine .reg' [1, 2, 3] [] ⟨[(1, (.pt 256 0 4)), (2, (.pt 257 0 4)), (3, (.pt 512 0 4))], [(256, [(I a0.f0), (I a0.f1), (I a0.f2), (I a0.f3)]), (257, [(I 0), (I 0), (I 0), (I 0)]), (512, [(I a0.f0), (I a0.f1), (I a0.f2), (I 0)])], [4 = 4 ∧ 2 + 1 ≤ 4, 4 = 4 ∧ 2 + 1 ≤ 4], []⟩ [c_ 126, c_ 127] (alc ⟨rfl, by decide⟩ (alc ⟨rfl, by decide⟩ aln)) nocal ?_
  refine .reg' [2, 3] [] ⟨[(2, (.pt 257 0 4)), (3, (.pt 512 0 4))], [(256, [(I a0.f0), (I a0.f1), (I a0.f2), (I a0.f3)]), (257, [(I 0), (I 0), (I 0), (I 0)]), (512, [(I a0.f0), (I a0.f1), (I a0.f2), (I a0.f3)])], [4 = 4 ∧ 3 + 1 ≤ 4, 4 = 4 ∧ 3 + 1 ≤ 4], []⟩ [c_ 254, c_ 255] (alc ⟨rfl, by decide⟩ (alc ⟨rfl, by decide⟩ aln)) nocal ?_
  refine .reg' [2] [] ⟨[(2, (.pt 257 0 4))], [(256, [(I a0.f0), (I a0.f1), (I a0.f2), (I a0.f3)]), (257, [(I a0.f0), (I a0.f1), (I a0.f2), (I a0.f3)]), (512, [(I a0.f0), (I a0.f1), (I a0.f2), (I a0.f3)])], [4 = 4 ∧ 0 + 4 ≤ 4, 4 = 4 ∧ 0 + 4 ≤ 4], []⟩ [c_ 255] (alc ⟨rfl, by decide⟩ (alc ⟨rfl, by decide⟩ aln)) nocal ?_
  have h := Option.some.inj h
  subst h
  exact .fin0 [] (.ag [(I a0.f0), (I a0.f1), (I a0.f2), (I a0.f3)]) [4 = 4 ∧ 0 + 4 ≤ 4] (alc ⟨rfl, by decide⟩ aln) (.z (frz_ag (a2c .s (a2c .s (a2c .s (a2c .s a2n))))))
/-! laws_toLinkS: function 45 -/
def laws_toLinkS.l0 : Nat → (List S52) → (List S52) → Int → Option (List S52)
 | 0, _, _, _ => none
 | k + 1, a0, x1, x2 => (if x2 < (a0.length : Int) then (if 0 ≤ x2 then ((laws_toLink.f (at_ a0 x2)).bind fun x3 => (if x2 < (x1.length : Int) then (laws_toLinkS.l0 k a0 (x1.set x2.toNat x3) (wrap64 (x2 + 1))) else none)) else none) else (some x1))
def laws_toLinkS.f (k : Nat) (a0 : (List S52)) : Option (List S52) := (if 0 ≤ (a0.length : Int) then (if (a0.length : Int) * 32 ≤ 281474976710656 then (laws_toLinkS.l0 k a0 (List.replicate (a0.length : Int).toNat (⟨0, 0, 0, 0⟩ : S52)) 0) else none) else none)
theorem laws_toLinkS.lab : ∀ k, (∀ (a0 : (List S52)) (x1 : (List S52)) (x2 : Int) (r : (List S52)), laws_toLinkS.l0 k a0 x1 x2 = some r → J prog (.run 45 [] [l_ 58, b_ 0, c_ 15] [(0, (.sl true a0.length 4 (a0.flatMap e52))), (3, (.rf 514 0 x1.length 4 (x1.length * 4))), (4, (I x2))] [(514, (x1.flatMap e52))] (.rf 514 0 r.length 4 (r.length * 4)) [(514, (r.flatMap e52))]))
 | 0 => (by intro a0 x1 x2 r h; unfold laws_toLinkS.l0 at h; cases h)
 | k + 1 => by
  have ih := laws_toLinkS.lab k
  have ih0 := ih
  · intro a0 x1 x2 r h
    unfold laws_toLinkS.l0 at h
    refine .loop' [c_ 464, c_ 465, c_ 233, l_ 58, b_ 0, c_ 15] ?_
    refine .reg' [0, 3, 4, 11] [] ⟨[(0, (.sl true a0.length 4 (a0.flatMap e52))), (3, (.rf 514 0 x1.length 4 (x1.length * 4))), (4, (I x2)), (11, (B (decide (x2 < (a0.length : Int)))))], [(514, (x1.flatMap e52))], [], []⟩ [c_ 465, c_ 233, l_ 58, b_ 0, c_ 15] aln nocal ?_
    by_cases c3 : x2 < (a0.length : Int)
    · rw [if_pos c3] at h
      refine .cond' (.tmp 11) true [c_ 932, b_ 1, c_ 467, l_ 58, b_ 0, c_ 15] (bT (dT c3)) ?_
      by_cases c4 : 0 ≤ x2
      · rw [if_pos c4] at h
        obtain ⟨x3, hx3, h⟩ := Option.bind_eq_some_iff.mp h
        by_cases c5 : x2 < (x1.length : Int)
        · rw [if_pos c5] at h
          refine .reg' [0, 3, 4] [.no, .no, .no, .no, .no, .v (.ag [(I (at_ a0 x2).f0), (I (at_ a0 x2).f1), (I (at_ a0 x2).f2), (I (at_ a0 x2).f3)]), .c ⟨58, [(.ag [(I (at_ a0 x2).f0), (I (at_ a0 x2).f1), (I (at_ a0 x2).f2), (I (at_ a0 x2).f3)])], [], (.ag [(I x3.f0), (I x3.f1), (I x3.f2), (I x3.f3)]), [], [], [], [], (.ag [(I x3.f0), (I x3.f1), (I x3.f2), (I x3.f3)]), []⟩, .no, .w .un ((x1.set x2.toNat x3).flatMap e52)] ⟨[(0, (.sl true a0.length 4 (a0.flatMap e52))), (3, (.rf 514 0 x1.length 4 (x1.length * 4))), (4, (I x2))], [(514, ((x1.set x2.toNat x3).flatMap e52))], [(0 : Int) ≤ x2 ∧ x2 < (a0.length : Int), rdC prog 70 ((a0.flatMap e52).drop (x2.toNat * 4)) = (.ag [(I (at_ a0 x2).f0), (I (at_ a0 x2).f1), (I (at_ a0 x2).f2), (I (at_ a0 x2).f3)]), 4 ≤ ((a0.flatMap e52).drop (x2.toNat * 4)).length, COK (hget [(514, (x1.flatMap e52))]) [(.ag [(I (at_ a0 x2).f0), (I (at_ a0 x2).f1), (I (at_ a0 x2).f2), (I (at_ a0 x2).f3)])] ⟨58, [(.ag [(I (at_ a0 x2).f0), (I (at_ a0 x2).f1), (I (at_ a0 x2).f2), (I (at_ a0 x2).f3)])], [], (.ag [(I x3.f0), (I x3.f1), (I x3.f2), (I x3.f3)]), [], [], [], [], (.ag [(I x3.f0), (I x3.f1), (I x3.f2), (I x3.f3)]), []⟩, (0 : Int) ≤ x2 ∧ x2 < (x1.length : Int), V.un = V.un, spl (x1.flatMap e52) (0 + x2.toNat * 4) [(I x3.f0), (I x3.f1), (I x3.f2), (I x3.f3)] = ((x1.set x2.toNat x3).flatMap e52), x1.length * 4 = (x1.flatMap e52).length ∧ 0 + x2.toNat * 4 + 4 ≤ (x1.flatMap e52).length], [⟨58, [(.ag [(I (at_ a0 x2).f0), (I (at_ a0 x2).f1), (I (at_ a0 x2).f2), (I (at_ a0 x2).f3)])], [], (.ag [(I x3.f0), (I x3.f1), (I x3.f2), (I x3.f3)]), [], [], [], [], (.ag [(I x3.f0), (I x3.f1), (I x3.f2), (I x3.f3)]), []⟩]⟩ [c_ 467, l_ 58, b_ 0, c_ 15] (alc ⟨c4, c3⟩ (alc (ldA e52_ok rfl rfl c4 c3) (alc (okI e52_ok c4 c3 (by decide)) (alc (cok0 false (a2c (.z (frz_ag (a2c .s (a2c .s (a2c .s (a2c .s a2n)))))) a2n) (.z (cln_ag (alc1 .s (alc1 .s (alc1 .s (alc1 .s aln1)))))) (fun h => absurd h (by decide))) (alc ⟨c4, c5⟩ (alc rfl (alc (st_row e52_ok 0 c4 c5 (Nat.le_of_ble_eq_true rfl) rfl) (alc (okA0 e52_ok c4 c5 (by decide)) aln)))))))) (acal (laws_toLink.J (at_ a0 x2) _ hx3) nocal) ?_
          refine .eqs (env2 := [(0, (.sl true a0.length 4 (a0.flatMap e52))), (3, (.rf 514 0 ((x1.set x2.toNat x3).length) 4 ((x1.set x2.toNat x3).length * 4))), (4, (I x2))]) (H2 := [(514, ((x1.set x2.toNat x3).flatMap e52))]) (by first | (simp only [List.length_set]; done) | simp) (by first | rfl | (simp only [List.length_set]; done) | simp) ?_
          refine .reg' [0, 3, 4] [] ⟨[(0, (.sl true a0.length 4 (a0.flatMap e52))), (3, (.rf 514 0 ((x1.set x2.toNat x3).length) 4 ((x1.set x2.toNat x3).length * 4))), (4, (I (wrap64 (x2 + 1))))], [(514, ((x1.set x2.toNat x3).flatMap e52))], [], []⟩ [l_ 58, b_ 0, c_ 15] aln nocal ?_
          exact ih0 a0 (x1.set x2.toNat x3) (wrap64 (x2 + 1)) _ h
        · rw [if_neg c5] at h
          cases h
      · rw [if_neg c4] at h
        cases h
    · rw [if_neg c3] at h
      refine .cond' (.tmp 11) false [c_ 30, c_ 31] (bF (dF c3)) ?_
      refine .reg' [2] [] ⟨[(2, (.rf 514 0 x1.length 4 (x1.length * 4)))], [(514, (x1.flatMap e52))], [], []⟩ [c_ 31] aln nocal ?_
      have h := Option.some.inj h
      subst h
      exact .fin' [] [(514, 514)] (.rf 514 0 x1.length 4 (x1.length * 4)) [] aln (shc 514 (rowF e52_ok _) shn) (.rf (memP_mem (p := (514, 514)) rfl))
theorem laws_toLinkS.J (k : Nat) (a0 : (List S52)) (r : (List S52)) (h : laws_toLinkS.f k a0 = some r) : J prog (.call 45 [(.sl true a0.length 4 (a0.flatMap e52))] [] (.rf 514 0 r.length 4 (r.length * 4)) [(514, (r.flatMap e52))]) := by
  unfold laws_toLinkS.f at h
  have ih0 := laws_toLinkS.lab k
  refine .call' [c_ 2, c_ 3] ?_
  refine .reg' [0] [] ⟨[(0, (.sl true a0.length 4 (a0.flatMap e52)))], [], [], []⟩ [c_ 6, c_ 7] aln nocal ?_
  by_cases c1 : 0 ≤ (a0.length : Int)
  · rw [if_pos c1] at h
    by_cases c2 : (a0.length : Int) * 32 ≤ 281474976710656
    · rw [if_pos c2] at h
      refine .reg' [0, 3] [.no, .no, .w (.rf 514 0 ((List.replicate (a0.length : Int).toNat (⟨0, 0, 0, 0⟩ : S52)).length) 4 ((List.replicate (a0.length : Int).toNat (⟨0, 0, 0, 0⟩ : S52)).length * 4)) ((List.replicate (a0.length : Int).toNat (⟨0, 0, 0, 0⟩ : S52)).flatMap e52)] ⟨[(0, (.sl true a0.length 4 (a0.flatMap e52))), (3, (.rf 514 0 ((List.replicate (a0.length : Int).toNat (⟨0, 0, 0, 0⟩ : S52)).length) 4 ((List.replicate (a0.length : Int).toNat (⟨0, 0, 0, 0⟩ : S52)).length * 4)))], [(514, ((List.replicate (a0.length : Int).toNat (⟨0, 0, 0, 0⟩ : S52)).flatMap e52))], [V.rf 514 0 (a0.length : Int).toNat 4 ((a0.length : Int).toNat * 4) = (.rf 514 0 ((List.replicate (a0.length : Int).toNat (⟨0, 0, 0, 0⟩ : S52)).length) 4 ((List.replicate (a0.length : Int).toNat (⟨0, 0, 0, 0⟩ : S52)).length * 4)), rept (a0.length : Int).toNat [(I 0), (I 0), (I 0), (I 0)] = (List.replicate (a0.length : Int).toNat (⟨0, 0, 0, 0⟩ : S52)).flatMap e52, (a0.length : Int) = (a0.length : Int) ∧ 0 ≤ (a0.length : Int) ∧ (a0.length : Int) * 32 ≤ 281474976710656 ∧ (a0.length : Int) ≤ 9223372036854775807], []⟩ [c_ 28, c_ 29, c_ 15] (alc mkV (alc (row_rept (enc := e52) (x := (⟨0, 0, 0, 0⟩ : S52)) (by decide) _) (alc ⟨rfl, c1, c2, by omega⟩ aln))) nocal ?_
      refine .reg' [0, 3, 4] [] ⟨[(0, (.sl true a0.length 4 (a0.flatMap e52))), (3, (.rf 514 0 ((List.replicate (a0.length : Int).toNat (⟨0, 0, 0, 0⟩ : S52)).length) 4 ((List.replicate (a0.length : Int).toNat (⟨0, 0, 0, 0⟩ : S52)).length * 4))), (4, (I 0))], [(514, ((List.replicate (a0.length : Int).toNat (⟨0, 0, 0, 0⟩ : S52)).flatMap e52))], [], []⟩ [l_ 58, b_ 0, c_ 15] aln nocal ?_
      exact ih0 a0 (List.replicate (a0.length : Int).toNat (⟨0, 0, 0, 0⟩ : S52)) 0 _ h
    · rw [if_neg c2] at h
      cases h
  · rw [if_neg c1] at h
    cases h
/-! laws_toWork: function 15 -/
def laws_toWork.f (k : Nat) (a0 : S24) : Option S29 := ((laws_toIntS.f k a0.f0).bind fun x1 => ((laws_toLinkS.f k a0.f1).bind fun x2 => (some (⟨x1, x2, a0.f2⟩ : S29))))
theorem laws_toWork.J (k : Nat) (a0 : S24) (r : S29) (h : laws_toWork.f k a0 = some r) : J prog (.call 15 [(.ag [(.sl true a0.f0.length 1 (a0.f0.flatMap encI)), (.sl true a0.f1.length 4 (a0.f1.flatMap e52)), (I a0.f2)])] [] (.ag [(.rf 1000770 0 r.f0.length 1 (r.f0.length * 1)), (.rf 1001026 0 r.f1.length 4 (r.f1.length * 4)), (I r.f2)]) [(1000770, (r.f0.flatMap encI)), (1001026, (r.f1.flatMap e52))]) := by
  unfold laws_toWork.f at h
  refine .call' [c_ 2, c_ 3] ?_
  refine .reg' [1, 2] [] ⟨[(1, (.pt 256 0 3)), (2, (.pt 257 0 3))], [(256, [(.sl true a0.f0.length 1 (a0.f0.flatMap encI)), (.sl true a0.f1.length 4 (a0.f1.flatMap e52)), (I a0.f2)]), (257, [nilS, nilS, (I 0)])], [], []⟩ [c_ 6, c_ 7] aln nocal ?_
  refine .reg' [1, 2, 3] [] ⟨[(1, (.pt 256 0 3)), (2, (.pt 257 0 3)), (3, (.pt 512 0 3))], [(256, [(.sl true a0.f0.length 1 (a0.f0.flatMap encI)), (.sl true a0.f1.length 4 (a0.f1.flatMap e52)), (I a0.f2)]), (257, [nilS, nilS, (I 0)]), (512, [nilS, nilS, (I 0)])], [], []⟩ [c_ 14, c_ 15] aln nocal ?_
  obtain ⟨x1, hx1, h⟩ := Option.bind_eq_some_iff.mp h
  refine .reg' [1, 2, 3] [.no, .no, .c ⟨21, [(.sl true a0.f0.length 1 (a0.f0.flatMap encI))], [], (.rf 514 0 x1.length 1 (x1.length * 1)), [(514, (x1.flatMap encI))], [], [], [(1000770, 514)], (.rf 1000770 0 x1.length 1 (x1.length * 1)), [(1000770, (x1.flatMap encI))]⟩] ⟨[(1, (.pt 256 0 3)), (2, (.pt 257 0 3)), (3, (.pt 512 0 3))], [(256, [(.sl true a0.f0.length 1 (a0.f0.flatMap encI)), (.sl true a0.f1.length 4 (a0.f1.flatMap e52)), (I a0.f2)]), (257, [nilS, nilS, (I 0)]), (512, [(.rf 1000770 0 x1.length 1 (x1.length * 1)), nilS, (I 0)]), (1000770, (x1.flatMap encI))], [3 = 3 ∧ 0 + 1 ≤ 3, COK (hget [(256, [(.sl true a0.f0.length 1 (a0.f0.flatMap encI)), (.sl true a0.f1.length 4 (a0.f1.flatMap e52)), (I a0.f2)]), (257, [nilS, nilS, (I 0)]), (512, [nilS, nilS, (I 0)])]) [(.sl true a0.f0.length 1 (a0.f0.flatMap encI))] ⟨21, [(.sl true a0.f0.length 1 (a0.f0.flatMap encI))], [], (.rf 514 0 x1.length 1 (x1.length * 1)), [(514, (x1.flatMap encI))], [], [], [(1000770, 514)], (.rf 1000770 0 x1.length 1 (x1.length * 1)), [(1000770, (x1.flatMap encI))]⟩, 3 = 3 ∧ 0 + 1 ≤ 3], [⟨21, [(.sl true a0.f0.length 1 (a0.f0.flatMap encI))], [], (.rf 514 0 x1.length 1 (x1.length * 1)), [(514, (x1.flatMap encI))], [], [], [(1000770, 514)], (.rf 1000770 0 x1.length 1 (x1.length * 1)), [(1000770, (x1.flatMap encI))]⟩]⟩ [c_ 30, c_ 31] (alc ⟨rfl, by decide⟩ (alc (cokW false (a2c (.z (frz_sl encI_ok (fun h => h))) a2n) akn (akc (.inr rfl) akn) (.rf (memP_mem (p := (1000770, 514)) rfl)) (akc ⟨_, _, rfl, rfl, rowB encI_c _⟩ akn) (fun h => absurd h (by decide))) (alc ⟨rfl, by decide⟩ aln))) (acal (laws_toIntS.J k a0.f0 _ hx1) nocal) ?_
  obtain ⟨x2, hx2, h⟩ := Option.bind_eq_some_iff.mp h
  refine .reg' [1, 2, 3] [.no, .no, .c ⟨45, [(.sl true a0.f1.length 4 (a0.f1.flatMap e52))], [], (.rf 514 0 x2.length 4 (x2.length * 4)), [(514, (x2.flatMap e52))], [], [], [(1001026, 514)], (.rf 1001026 0 x2.length 4 (x2.length * 4)), [(1001026, (x2.flatMap e52))]⟩] ⟨[(1, (.pt 256 0 3)), (2, (.pt 257 0 3)), (3, (.pt 512 0 3))], [(256, [(.sl true a0.f0.length 1 (a0.f0.flatMap encI)), (.sl true a0.f1.length 4 (a0.f1.flatMap e52)), (I a0.f2)]), (257, [nilS, nilS, (I 0)]), (512, [(.rf 1000770 0 x1.length 1 (x1.length * 1)), (.rf 1001026 0 x2.length 4 (x2.length * 4)), (I 0)]), (1000770, (x1.flatMap encI)), (1001026, (x2.flatMap e52))], [3 = 3 ∧ 1 + 1 ≤ 3, COK (hget [(256, [(.sl true a0.f0.length 1 (a0.f0.flatMap encI)), (.sl true a0.f1.length 4 (a0.f1.flatMap e52)), (I a0.f2)]), (257, [nilS, nilS, (I 0)]), (512, [(.rf 1000770 0 x1.length 1 (x1.length * 1)), nilS, (I 0)]), (1000770, (x1.flatMap encI))]) [(.sl true a0.f1.length 4 (a0.f1.flatMap e52))] ⟨45, [(.sl true a0.f1.length 4 (a0.f1.flatMap e52))], [], (.rf 514 0 x2.length 4 (x2.length * 4)), [(514, (x2.flatMap e52))], [], [], [(1001026, 514)], (.rf 1001026 0 x2.length 4 (x2.length * 4)), [(1001026, (x2.flatMap e52))]⟩, 3 = 3 ∧ 1 + 1 ≤ 3], [⟨45, [(.sl true a0.f1.length 4 (a0.f1.flatMap e52))], [], (.rf 514 0 x2.length 4 (x2.length * 4)), [(514, (x2.flatMap e52))], [], [], [(1001026, 514)], (.rf 1001026 0 x2.length 4 (x2.length * 4)), [(1001026, (x2.flatMap e52))]⟩]⟩ [c_ 62, c_ 63] (alc ⟨rfl, by decide⟩ (alc (cokW false (a2c (.z (frz_sl e52_ok (fun h => h))) a2n) akn (akc (.inr rfl) akn) (.rf (memP_mem (p := (1001026, 514)) rfl)) (akc ⟨_, _, rfl, rfl, rowB e52_c _⟩ akn) (fun h => absurd h (by decide))) (alc ⟨rfl, by decide⟩ aln))) (acal (laws_toLinkS.J k a0.f1 _ hx2) nocal) ?_
  refine .reg' [2, 3] [] ⟨[(2, (.pt 257 0 3)), (3, (.pt 512 0 3))], [(256, [(.sl true a0.f0.length 1 (a0.f0.flatMap encI)), (.sl true a0.f1.length 4 (a0.f1.flatMap e52)), (I a0.f2)]), (257, [nilS, nilS, (I 0)]), (512, [(.rf 1000770 0 x1.length 1 (x1.length * 1)), (.rf 1001026 0 x2.length 4 (x2.length * 4)), (I a0.f2)]), (1000770, (x1.flatMap encI)), (1001026, (x2.flatMap e52))], [3 = 3 ∧ 2 + 1 ≤ 3, 3 = 3 ∧ 2 + 1 ≤ 3], []⟩ [c_ 126, c_ 127] (alc ⟨rfl, by decide⟩ (alc ⟨rfl, by decide⟩ aln)) nocal ?_
  refine .reg' [2] [] ⟨[(2, (.pt 257 0 3))], [(256, [(.sl true a0.f0.length 1 (a0.f0.flatMap encI)), (.sl true a0.f1.length 4 (a0.f1.flatMap e52)), (I a0.f2)]), (257, [(.rf 1000770 0 x1.length 1 (x1.length * 1)), (.rf 1001026 0 x2.length 4 (x2.length * 4)), (I a0.f2)]), (512, [(.rf 1000770 0 x1.length 1 (x1.length * 1)), (.rf 1001026 0 x2.length 4 (x2.length * 4)), (I a0.f2)]), (1000770, (x1.flatMap encI)), (1001026, (x2.flatMap e52))], [3 = 3 ∧ 0 + 3 ≤ 3, 3 = 3 ∧ 0 + 3 ≤ 3], []⟩ [c_ 127] (alc ⟨rfl, by decide⟩ (alc ⟨rfl, by decide⟩ aln)) nocal ?_
  have h := Option.some.inj h
  subst h
  exact .fin' [] [(1000770, 1000770), (1001026, 1001026)] (.ag [(.rf 1000770 0 x1.length 1 (x1.length * 1)), (.rf 1001026 0 x2.length 4 (x2.length * 4)), (I a0.f2)]) [3 = 3 ∧ 0 + 3 ≤ 3] (alc ⟨rfl, by decide⟩ aln) (shc 1000770 (rowF encI_ok _) (shc 1001026 (rowF e52_ok _) shn)) (cnv_ag (a2c (.rf (memP_mem (p := (1000770, 1000770)) rfl)) (a2c (.rf (memP_mem (p := (1001026, 1001026)) rfl)) (a2c (.z .s) a2n))))
/-! spec_l01In: function 44 -/
def spec_l01In.f (a0 : Int) (a1 : Int) (a2 : Int) : Option Bool := (if a1 ≤ a0 then (some (decide (a0 ≤ a2))) else (some false))
theorem spec_l01In.J (a0 : Int) (a1 : Int) (a2 : Int) (r : Bool) (h : spec_l01In.f a0 a1 a2 = some r) : J prog (.call 44 [(I a0), (I a1), (I a2)] [] (B r) []) := by
  unfold spec_l01In.f at h
  refine .call' [c_ 2, c_ 3] ?_
  refine .reg' [0, 1, 2] [] ⟨[(0, (I a0)), (1, (I a1)), (2, (I a2))], [], [], []⟩ [c_ 6, c_ 7] aln nocal ?_
  by_cases c1 : a1 ≤ a0
  · rw [if_pos c1] at h
    refine .reg' [6] [.no, .no, .no, .v (B true)] ⟨[(6, (B (decide (a0 ≤ a2))))], [], [(B (decide (a1 ≤ a0)) : V) = B true], []⟩ [c_ 7] (alc (bT (dT c1)) aln) nocal ?_
    have h := Option.some.inj h
    subst h
    exact .fin0 [] (B (decide (a0 ≤ a2))) [] aln (.z .s)
  · rw [if_neg c1] at h
    refine .reg' [6] [.no, .no, .no, .v (B false)] ⟨[(6, (B false))], [], [(B (decide (a1 ≤ a0)) : V) = B false], []⟩ [c_ 7] (alc (bF (dF c1)) aln) nocal ?_
    have h := Option.some.inj h
    subst h
    exact .fin0 [] (B false) [] aln (.z .s)
/-! spec_WorkOk: function 14 -/
mutual
def spec_WorkOk.l0 : Nat → S29 → Int → Option Bool
 | 0, _, _ => none
 | k + 1, a0, x2 => (if x2 < (a0.f0.length : Int) then (if 0 ≤ x2 then ((spec_l01In.f (at_ a0.f0 x2) 0 100000).bind fun x3 => (if x3 = true then (spec_WorkOk.l0 k a0 (wrap64 (x2 + 1))) else (some false))) else none) else (spec_WorkOk.l1 k a0 0))
def spec_WorkOk.l1 : Nat → S29 → Int → Option Bool
 | 0, _, _ => none
 | k + 1, a0, x4 => (if x4 < (a0.f1.length : Int) then (if 0 ≤ x4 then ((spec_l01In.f ((at_ a0.f1 x4).f1) 0 (wrap64 ((a0.f0.length : Int) - 1))).bind fun x5 => (if x5 = true then ((spec_l01In.f ((at_ a0.f1 x4).f0) 0 (wrap64 ((at_ a0.f1 x4).f1 - 1))).bind fun x6 => (if x6 = true then ((spec_l01In.f ((at_ a0.f1 x4).f2) 0 1000).bind fun x7 => (if x7 = true then ((spec_l01In.f ((at_ a0.f1 x4).f3) 0 1).bind fun x8 => (if x8 = true then (if 0 ≤ (at_ a0.f1 x4).f0 then (if (at_ a0.f1 x4).f0 < (a0.f0.length : Int) then (if 0 ≤ (at_ a0.f1 x4).f1 then (if (at_ a0.f1 x4).f1 < (a0.f0.length : Int) then (if (wrap64 ((at_ a0.f0 (at_ a0.f1 x4).f0) + (at_ a0.f1 x4).f2)) > (at_ a0.f0 (at_ a0.f1 x4).f1) then (some false) else (spec_WorkOk.l1 k a0 (wrap64 (x4 + 1)))) else none) else none) else none) else none) else (some false))) else (some false))) else (some false))) else (some false))) else none) else (some true))
end
def spec_WorkOk.f (k : Nat) (a0 : S29) : Option Bool := (if (a0.f0.length : Int) > 60 then (some false) else (if (a0.f1.length : Int) > 150 then (some false) else ((spec_l01In.f a0.f2 0 60).bind fun x1 => (if x1 = true then (spec_WorkOk.l0 k a0 0) else (some false)))))
theorem spec_WorkOk.lab : ∀ k, (∀ (a0 : S29) (x2 : Int) (r : Bool), spec_WorkOk.l0 k a0 x2 = some r → J prog (.run 14 [] [l_ 58, b_ 0, c_ 15] [(1, (.pt 256 0 3)), (3, (I x2))] [(256, [(.sl true a0.f0.length 1 (a0.f0.flatMap encI)), (.sl true a0.f1.length 4 (a0.f1.flatMap e52)), (I a0.f2)])] (B r) [])) ∧ (∀ (a0 : S29) (x4 : Int) (r : Bool), spec_WorkOk.l1 k a0 x4 = some r → J prog (.run 14 [] [l_ 122, b_ 2, c_ 31] [(1, (.pt 256 0 3)), (4, (I x4))] [(256, [(.sl true a0.f0.length 1 (a0.f0.flatMap encI)), (.sl true a0.f1.length 4 (a0.f1.flatMap e52)), (I a0.f2)])] (B r) []))
 | 0 => ⟨(by intro a0 x2 r h; unfold spec_WorkOk.l0 at h; cases h), (by intro a0 x4 r h; unfold spec_WorkOk.l1 at h; cases h)⟩
 | k + 1 => by
  obtain ⟨ih0, ih1⟩ := spec_WorkOk.lab k
  refine ⟨?_, ?_⟩
  · intro a0 x2 r h
    unfold spec_WorkOk.l0 at h
    refine .loop' [c_ 464, c_ 465, c_ 233, l_ 58, b_ 0, c_ 15] ?_
    refine .reg' [1, 3, 26] [] ⟨[(1, (.pt 256 0 3)), (3, (I x2)), (26, (B (decide (x2 < (a0.f0.length : Int)))))], [(256, [(.sl true a0.f0.length 1 (a0.f0.flatMap encI)), (.sl true a0.f1.length 4 (a0.f1.flatMap e52)), (I a0.f2)])], [3 = 3 ∧ 0 + 1 ≤ 3], []⟩ [c_ 465, c_ 233, l_ 58, b_ 0, c_ 15] (alc ⟨rfl, by decide⟩ aln) nocal ?_
    by_cases c4 : x2 < (a0.f0.length : Int)
    · rw [if_pos c4] at h
      refine .cond' (.tmp 26) true [c_ 1864, c_ 1865, b_ 1, c_ 467, l_ 58, b_ 0, c_ 15] (bT (dT c4)) ?_
      by_cases c5 : 0 ≤ x2
      · rw [if_pos c5] at h
        obtain ⟨x3, hx3, h⟩ := Option.bind_eq_some_iff.mp h
        refine .reg' [1, 3, 35] [.no, .no, .no, .no, .v (I (at_ a0.f0 x2)), .c ⟨44, [(I (at_ a0.f0 x2)), (I 0), (I 100000)], [], (B x3), [], [], [], [], (B x3), []⟩] ⟨[(1, (.pt 256 0 3)), (3, (I x2)), (35, (B (!x3)))], [(256, [(.sl true a0.f0.length 1 (a0.f0.flatMap encI)), (.sl true a0.f1.length 4 (a0.f1.flatMap e52)), (I a0.f2)])], [3 = 3 ∧ 0 + 1 ≤ 3, (0 : Int) ≤ x2 ∧ x2 < (a0.f0.length : Int), rdC prog 3 ((a0.f0.flatMap encI).drop (x2.toNat * 1)) = (I (at_ a0.f0 x2)), 1 ≤ ((a0.f0.flatMap encI).drop (x2.toNat * 1)).length, COK (hget [(256, [(.sl true a0.f0.length 1 (a0.f0.flatMap encI)), (.sl true a0.f1.length 4 (a0.f1.flatMap e52)), (I a0.f2)])]) [(I (at_ a0.f0 x2)), (I 0), (I 100000)] ⟨44, [(I (at_ a0.f0 x2)), (I 0), (I 100000)], [], (B x3), [], [], [], [], (B x3), []⟩], [⟨44, [(I (at_ a0.f0 x2)), (I 0), (I 100000)], [], (B x3), [], [], [], [], (B x3), []⟩]⟩ [c_ 1865, b_ 1, c_ 467, l_ 58, b_ 0, c_ 15] (alc ⟨rfl, by decide⟩ (alc ⟨c5, c4⟩ (alc (ldC1 encI_ok rfl c5 c4) (alc (okI encI_ok c5 c4 (by decide)) (alc (cok0 false (a2c (.z .s) (a2c (.z .s) (a2c (.z .s) a2n))) (.z .s) (fun h => absurd h (by decide))) aln))))) (acal (spec_l01In.J (at_ a0.f0 x2) 0 100000 _ hx3) nocal) ?_
        by_cases c6 : x3 = true
        · rw [if_pos c6] at h
          refine .cond' (.tmp 35) false [c_ 467, l_ 58, b_ 0, c_ 15] (bF (nF c6)) ?_
          refine .reg' [1, 3] [] ⟨[(1, (.pt 256 0 3)), (3, (I (wrap64 (x2 + 1))))], [(256, [(.sl true a0.f0.length 1 (a0.f0.flatMap encI)), (.sl true a0.f1.length 4 (a0.f1.flatMap e52)), (I a0.f2)])], [], []⟩ [l_ 58, b_ 0, c_ 15] aln nocal ?_
          exact ih0 a0 (wrap64 (x2 + 1)) _ h
        · rw [if_neg c6] at h
          refine .cond' (.tmp 35) true [c_ 7460, c_ 7461, b_ 1, c_ 467, l_ 58, b_ 0, c_ 15] (bT (nT (vF c6))) ?_
          refine .reg' [2] [] ⟨[(2, (B false))], [(256, [(.sl true a0.f0.length 1 (a0.f0.flatMap encI)), (.sl true a0.f1.length 4 (a0.f1.flatMap e52)), (I a0.f2)])], [], []⟩ [c_ 7461, b_ 1, c_ 467, l_ 58, b_ 0, c_ 15] aln nocal ?_
          have h := Option.some.inj h
          subst h
          exact .fin0 [] (B false) [] aln (.z .s)
      · rw [if_neg c5] at h
        cases h
    · rw [if_neg c4] at h
      refine .cond' (.tmp 26) false [c_ 60, c_ 61, c_ 31] (bF (dF c4)) ?_
      refine .reg' [1, 4] [] ⟨[(1, (.pt 256 0 3)), (4, (I 0))], [(256, [(.sl true a0.f0.length 1 (a0.f0.flatMap encI)), (.sl true a0.f1.length 4 (a0.f1.flatMap e52)), (I a0.f2)])], [], []⟩ [l_ 122, b_ 2, c_ 31] aln nocal ?_
      exact ih1 a0 0 _ h
  · intro a0 x4 r h
    unfold spec_WorkOk.l1 at h
    refine .loop' [c_ 976, c_ 977, c_ 489, l_ 122, b_ 2, c_ 31] ?_
    refine .reg' [1, 4, 40] [] ⟨[(1, (.pt 256 0 3)), (4, (I x4)), (40, (B (decide (x4 < (a0.f1.length : Int)))))], [(256, [(.sl true a0.f0.length 1 (a0.f0.flatMap encI)), (.sl true a0.f1.length 4 (a0.f1.flatMap e52)), (I a0.f2)])], [3 = 3 ∧ 1 + 1 ≤ 3], []⟩ [c_ 977, c_ 489, l_ 122, b_ 2, c_ 31] (alc ⟨rfl, by decide⟩ aln) nocal ?_
    by_cases c7 : x4 < (a0.f1.length : Int)
    · rw [if_pos c7] at h
      refine .cond' (.tmp 40) true [c_ 3912, c_ 3913, b_ 3, c_ 979, l_ 122, b_ 2, c_ 31] (bT (dT c7)) ?_
      by_cases c8 : 0 ≤ x4
      · rw [if_pos c8] at h
        refine .reg' [1, 4, 5] [.no, .no, .no, .no, .v (.ag [(I (at_ a0.f1 x4).f0), (I (at_ a0.f1 x4).f1), (I (at_ a0.f1 x4).f2), (I (at_ a0.f1 x4).f3)])] ⟨[(1, (.pt 256 0 3)), (4, (I x4)), (5, (.pt 3077 0 4))], [(256, [(.sl true a0.f0.length 1 (a0.f0.flatMap encI)), (.sl true a0.f1.length 4 (a0.f1.flatMap e52)), (I a0.f2)]), (3077, [(I (at_ a0.f1 x4).f0), (I (at_ a0.f1 x4).f1), (I (at_ a0.f1 x4).f2), (I (at_ a0.f1 x4).f3)])], [3 = 3 ∧ 1 + 1 ≤ 3, (0 : Int) ≤ x4 ∧ x4 < (a0.f1.length : Int), rdC prog 53 ((a0.f1.flatMap e52).drop (x4.toNat * 4)) = (.ag [(I (at_ a0.f1 x4).f0), (I (at_ a0.f1 x4).f1), (I (at_ a0.f1 x4).f2), (I (at_ a0.f1 x4).f3)]), 4 ≤ ((a0.f1.flatMap e52).drop (x4.toNat * 4)).length, 4 = 4 ∧ 0 + 4 ≤ 4], []⟩ [c_ 15652, c_ 15653, c_ 7827, b_ 3, c_ 979, l_ 122, b_ 2, c_ 31] (alc ⟨rfl, by decide⟩ (alc ⟨c8, c7⟩ (alc (ldA e52_ok rfl rfl c8 c7) (alc (okI e52_ok c8 c7 (by decide)) (alc ⟨rfl, by decide⟩ aln))))) nocal ?_
        obtain ⟨x5, hx5, h⟩ := Option.bind_eq_some_iff.mp h
        by_cases c9 : x5 = true
        · rw [if_pos c9] at h
          obtain ⟨x6, hx6, h⟩ := Option.bind_eq_some_iff.mp h
          by_cases c10 : x6 = true
          · rw [if_pos c10] at h
            obtain ⟨x7, hx7, h⟩ := Option.bind_eq_some_iff.mp h
            by_cases c11 : x7 = true
            · rw [if_pos c11] at h
              obtain ⟨x8, hx8, h⟩ := Option.bind_eq_some_iff.mp h
              refine .reg' [1, 4, 5, 76] [.no, .no, .no, .no, .no, .no, .c ⟨44, [(I (at_ a0.f1 x4).f1), (I 0), (I (wrap64 ((a0.f0.length : Int) - 1)))], [], (B x5), [], [], [], [], (B x5), []⟩, .no, .v (B false), .no, .no, .no, .no, .no, .c ⟨44, [(I (at_ a0.f1 x4).f0), (I 0), (I (wrap64 ((at_ a0.f1 x4).f1 - 1)))], [], (B x6), [], [], [], [], (B x6), []⟩, .no, .no, .v (B false), .no, .no, .c ⟨44, [(I (at_ a0.f1 x4).f2), (I 0), (I 1000)], [], (B x7), [], [], [], [], (B x7), []⟩, .no, .no, .v (B false), .no, .no, .c ⟨44, [(I (at_ a0.f1 x4).f3), (I 0), (I 1)], [], (B x8), [], [], [], [], (B x8), []⟩] ⟨[(1, (.pt 256 0 3)), (4, (I x4)), (5, (.pt 3077 0 4)), (76, (B (!x8)))], [(256, [(.sl true a0.f0.length 1 (a0.f0.flatMap encI)), (.sl true a0.f1.length 4 (a0.f1.flatMap e52)), (I a0.f2)]), (3077, [(I (at_ a0.f1 x4).f0), (I (at_ a0.f1 x4).f1), (I (at_ a0.f1 x4).f2), (I (at_ a0.f1 x4).f3)])], [4 = 4 ∧ 1 + 1 ≤ 4, 3 = 3 ∧ 0 + 1 ≤ 3, COK (hget [(256, [(.sl true a0.f0.length 1 (a0.f0.flatMap encI)), (.sl true a0.f1.length 4 (a0.f1.flatMap e52)), (I a0.f2)]), (3077, [(I (at_ a0.f1 x4).f0), (I (at_ a0.f1 x4).f1), (I (at_ a0.f1 x4).f2), (I (at_ a0.f1 x4).f3)])]) [(I (at_ a0.f1 x4).f1), (I 0), (I (wrap64 ((a0.f0.length : Int) - 1)))] ⟨44, [(I (at_ a0.f1 x4).f1), (I 0), (I (wrap64 ((a0.f0.length : Int) - 1)))], [], (B x5), [], [], [], [], (B x5), []⟩, (B (!x5) : V) = B false, 4 = 4 ∧ 0 + 1 ≤ 4, 4 = 4 ∧ 1 + 1 ≤ 4, COK (hget [(256, [(.sl true a0.f0.length 1 (a0.f0.flatMap encI)), (.sl true a0.f1.length 4 (a0.f1.flatMap e52)), (I a0.f2)]), (3077, [(I (at_ a0.f1 x4).f0), (I (at_ a0.f1 x4).f1), (I (at_ a0.f1 x4).f2), (I (at_ a0.f1 x4).f3)])]) [(I (at_ a0.f1 x4).f0), (I 0), (I (wrap64 ((at_ a0.f1 x4).f1 - 1)))] ⟨44, [(I (at_ a0.f1 x4).f0), (I 0), (I (wrap64 ((at_ a0.f1 x4).f1 - 1)))], [], (B x6), [], [], [], [], (B x6), []⟩, (B (!x6) : V) = B false, 4 = 4 ∧ 2 + 1 ≤ 4, COK (hget [(256, [(.sl true a0.f0.length 1 (a0.f0.flatMap encI)), (.sl true a0.f1.length 4 (a0.f1.flatMap e52)), (I a0.f2)]), (3077, [(I (at_ a0.f1 x4).f0), (I (at_ a0.f1 x4).f1), (I (at_ a0.f1 x4).f2), (I (at_ a0.f1 x4).f3)])]) [(I (at_ a0.f1 x4).f2), (I 0), (I 1000)] ⟨44, [(I (at_ a0.f1 x4).f2), (I 0), (I 1000)], [], (B x7), [], [], [], [], (B x7), []⟩, (B (!x7) : V) = B false, 4 = 4 ∧ 3 + 1 ≤ 4, COK (hget [(256, [(.sl true a0.f0.length 1 (a0.f0.flatMap encI)), (.sl true a0.f1.length 4 (a0.f1.flatMap e52)), (I a0.f2)]), (3077, [(I (at_ a0.f1 x4).f0), (I (at_ a0.f1 x4).f1), (I (at_ a0.f1 x4).f2), (I (at_ a0.f1 x4).f3)])]) [(I (at_ a0.f1 x4).f3), (I 0), (I 1)] ⟨44, [(I (at_ a0.f1 x4).f3), (I 0), (I 1)], [], (B x8), [], [], [], [], (B x8), []⟩], [⟨44, [(I (at_ a0.f1 x4).f1), (I 0), (I (wrap64 ((a0.f0.length : Int) - 1)))], [], (B x5), [], [], [], [], (B x5), []⟩, ⟨44, [(I (at_ a0.f1 x4).f0), (I 0), (I (wrap64 ((at_ a0.f1 x4).f1 - 1)))], [], (B x6), [], [], [], [], (B x6), []⟩, ⟨44, [(I (at_ a0.f1 x4).f2), (I 0), (I 1000)], [], (B x7), [], [], [], [], (B x7), []⟩, ⟨44, [(I (at_ a0.f1 x4).f3), (I 0), (I 1)], [], (B x8), [], [], [], [], (B x8), []⟩]⟩ [c_ 15653, c_ 7827, b_ 3, c_ 979, l_ 122, b_ 2, c_ 31] (alc ⟨rfl, by decide⟩ (alc ⟨rfl, by decide⟩ (alc (cok0 false (a2c (.z .s) (a2c (.z .s) (a2c (.z .s) a2n))) (.z .s) (fun h => absurd h (by decide))) (alc (bF (nF c9)) (alc ⟨rfl, by decide⟩ (alc ⟨rfl, by decide⟩ (alc (cok0 false (a2c (.z .s) (a2c (.z .s) (a2c (.z .s) a2n))) (.z .s) (fun h => absurd h (by decide))) (alc (bF (nF c10)) (alc ⟨rfl, by decide⟩ (alc (cok0 false (a2c (.z .s) (a2c (.z .s) (a2c (.z .s) a2n))) (.z .s) (fun h => absurd h (by decide))) (alc (bF (nF c11)) (alc ⟨rfl, by decide⟩ (alc (cok0 false (a2c (.z .s) (a2c (.z .s) (a2c (.z .s) a2n))) (.z .s) (fun h => absurd h (by decide))) aln))))))))))))) (acal (spec_l01In.J ((at_ a0.f1 x4).f1) 0 (wrap64 ((a0.f0.length : Int) - 1)) _ hx5) (acal (spec_l01In.J ((at_ a0.f1 x4).f0) 0 (wrap64 ((at_ a0.f1 x4).f1 - 1)) _ hx6) (acal (spec_l01In.J ((at_ a0.f1 x4).f2) 0 1000 _ hx7) (acal (spec_l01In.J ((at_ a0.f1 x4).f3) 0 1 _ hx8) nocal)))) ?_
              by_cases c12 : x8 = true
              · rw [if_pos c12] at h
                refine .cond' (.tmp 76) false [c_ 15654, c_ 15655, b_ 3, c_ 979, l_ 122, b_ 2, c_ 31] (bF (nF c12)) ?_
                by_cases c13 : 0 ≤ (at_ a0.f1 x4).f0
                · rw [if_pos c13] at h
                  by_cases c14 : (at_ a0.f1 x4).f0 < (a0.f0.length : Int)
                  · rw [if_pos c14] at h
                    by_cases c15 : 0 ≤ (at_ a0.f1 x4).f1
                    · rw [if_pos c15] at h
                      by_cases c16 : (at_ a0.f1 x4).f1 < (a0.f0.length : Int)
                      · rw [if_pos c16] at h
                        refine .reg' [1, 4, 92] [.no, .no, .no, .no, .no, .v (I (at_ a0.f0 (at_ a0.f1 x4).f0)), .no, .no, .no, .no, .no, .no, .no, .no, .v (I (at_ a0.f0 (at_ a0.f1 x4).f1))] ⟨[(1, (.pt 256 0 3)), (4, (I x4)), (92, (B (decide ((wrap64 ((at_ a0.f0 (at_ a0.f1 x4).f0) + (at_ a0.f1 x4).f2)) > (at_ a0.f0 (at_ a0.f1 x4).f1)))))], [(256, [(.sl true a0.f0.length 1 (a0.f0.flatMap encI)), (.sl true a0.f1.length 4 (a0.f1.flatMap e52)), (I a0.f2)]), (3077, [(I (at_ a0.f1 x4).f0), (I (at_ a0.f1 x4).f1), (I (at_ a0.f1 x4).f2), (I (at_ a0.f1 x4).f3)])], [3 = 3 ∧ 0 + 1 ≤ 3, 4 = 4 ∧ 0 + 1 ≤ 4, (0 : Int) ≤ (at_ a0.f1 x4).f0 ∧ (at_ a0.f1 x4).f0 < (a0.f0.length : Int), rdC prog 3 ((a0.f0.flatMap encI).drop ((at_ a0.f1 x4).f0.toNat * 1)) = (I (at_ a0.f0 (at_ a0.f1 x4).f0)), 1 ≤ ((a0.f0.flatMap encI).drop ((at_ a0.f1 x4).f0.toNat * 1)).length, 4 = 4 ∧ 2 + 1 ≤ 4, 3 = 3 ∧ 0 + 1 ≤ 3, 4 = 4 ∧ 1 + 1 ≤ 4, (0 : Int) ≤ (at_ a0.f1 x4).f1 ∧ (at_ a0.f1 x4).f1 < (a0.f0.length : Int), rdC prog 3 ((a0.f0.flatMap encI).drop ((at_ a0.f1 x4).f1.toNat * 1)) = (I (at_ a0.f0 (at_ a0.f1 x4).f1)), 1 ≤ ((a0.f0.flatMap encI).drop ((at_ a0.f1 x4).f1.toNat * 1)).length], []⟩ [c_ 15655, b_ 3, c_ 979, l_ 122, b_ 2, c_ 31] (alc ⟨rfl, by decide⟩ (alc ⟨rfl, by decide⟩ (alc ⟨c13, c14⟩ (alc (ldC1 encI_ok rfl c13 c14) (alc (okI encI_ok c13 c14 (by decide)) (alc ⟨rfl, by decide⟩ (alc ⟨rfl, by decide⟩ (alc ⟨rfl, by decide⟩ (alc ⟨c15, c16⟩ (alc (ldC1 encI_ok rfl c15 c16) (alc (okI encI_ok c15 c16 (by decide)) aln))))))))))) nocal ?_
                        by_cases c17 : (wrap64 ((at_ a0.f0 (at_ a0.f1 x4).f0) + (at_ a0.f1 x4).f2)) > (at_ a0.f0 (at_ a0.f1 x4).f1)
                        · rw [if_pos c17] at h
                          refine .cond' (.tmp 92) true [c_ 62620, c_ 62621, b_ 3, c_ 979, l_ 122, b_ 2, c_ 31] (bT (dT c17)) ?_
                          refine .reg' [2] [] ⟨[(2, (B false))], [(256, [(.sl true a0.f0.length 1 (a0.f0.flatMap encI)), (.sl true a0.f1.length 4 (a0.f1.flatMap e52)), (I a0.f2)]), (3077, [(I (at_ a0.f1 x4).f0), (I (at_ a0.f1 x4).f1), (I (at_ a0.f1 x4).f2), (I (at_ a0.f1 x4).f3)])], [], []⟩ [c_ 62621, b_ 3, c_ 979, l_ 122, b_ 2, c_ 31] aln nocal ?_
                          have h := Option.some.inj h
                          subst h
                          exact .fin0 [] (B false) [] aln (.z .s)
                        · rw [if_neg c17] at h
                          refine .cond' (.tmp 92) false [c_ 979, l_ 122, b_ 2, c_ 31] (bF (dF c17)) ?_
                          refine .reg' [1, 4] [] ⟨[(1, (.pt 256 0 3)), (4, (I (wrap64 (x4 + 1))))], [(256, [(.sl true a0.f0.length 1 (a0.f0.flatMap encI)), (.sl true a0.f1.length 4 (a0.f1.flatMap e52)), (I a0.f2)]), (3077, [(I (at_ a0.f1 x4).f0), (I (at_ a0.f1 x4).f1), (I (at_ a0.f1 x4).f2), (I (at_ a0.f1 x4).f3)])], [], []⟩ [l_ 122, b_ 2, c_ 31] aln nocal ?_
                          refine .wk' [] [(256, 256)] [(1, (.pt 256 0 3)), (4, (I (wrap64 (x4 + 1))))] [(256, [(.sl true a0.f0.length 1 (a0.f0.flatMap encI)), (.sl true a0.f1.length 4 (a0.f1.flatMap e52)), (I a0.f2)])] (shc 256 (a2c (.z (frz_sl encI_ok (fun h => h))) (a2c (.z (frz_sl e52_ok (fun h => h))) (a2c (.z .s) a2n))) shn) (enc_ (.pt (memP_mem (p := (256, 256)) rfl)) (enc_ (.z .s) enn)) ?_
                          exact ih1 a0 (wrap64 (x4 + 1)) _ h
                      · rw [if_neg c16] at h
                        cases h
                    · rw [if_neg c15] at h
                      cases h
                  · rw [if_neg c14] at h
                    cases h
                · rw [if_neg c13] at h
                  cases h
              · rw [if_neg c12] at h
                refine .cond' (.tmp 76) true [c_ 62612, c_ 62613, c_ 7827, b_ 3, c_ 979, l_ 122, b_ 2, c_ 31] (bT (nT (vF c12))) ?_
                refine .reg' [2] [] ⟨[(2, (B false))], [(256, [(.sl true a0.f0.length 1 (a0.f0.flatMap encI)), (.sl true a0.f1.length 4 (a0.f1.flatMap e52)), (I a0.f2)]), (3077, [(I (at_ a0.f1 x4).f0), (I (at_ a0.f1 x4).f1), (I (at_ a0.f1 x4).f2), (I (at_ a0.f1 x4).f3)])], [], []⟩ [c_ 62613, c_ 7827, b_ 3, c_ 979, l_ 122, b_ 2, c_ 31] aln nocal ?_
                have h := Option.some.inj h
                subst h
                exact .fin0 [] (B false) [] aln (.z .s)
            · rw [if_neg c11] at h
              refine .reg' [1, 4, 5, 76] [.no, .no, .no, .no, .no, .no, .c ⟨44, [(I (at_ a0.f1 x4).f1), (I 0), (I (wrap64 ((a0.f0.length : Int) - 1)))], [], (B x5), [], [], [], [], (B x5), []⟩, .no, .v (B false), .no, .no, .no, .no, .no, .c ⟨44, [(I (at_ a0.f1 x4).f0), (I 0), (I (wrap64 ((at_ a0.f1 x4).f1 - 1)))], [], (B x6), [], [], [], [], (B x6), []⟩, .no, .no, .v (B false), .no, .no, .c ⟨44, [(I (at_ a0.f1 x4).f2), (I 0), (I 1000)], [], (B x7), [], [], [], [], (B x7), []⟩, .no, .no, .v (B true)] ⟨[(1, (.pt 256 0 3)), (4, (I x4)), (5, (.pt 3077 0 4)), (76, (B true))], [(256, [(.sl true a0.f0.length 1 (a0.f0.flatMap encI)), (.sl true a0.f1.length 4 (a0.f1.flatMap e52)), (I a0.f2)]), (3077, [(I (at_ a0.f1 x4).f0), (I (at_ a0.f1 x4).f1), (I (at_ a0.f1 x4).f2), (I (at_ a0.f1 x4).f3)])], [4 = 4 ∧ 1 + 1 ≤ 4, 3 = 3 ∧ 0 + 1 ≤ 3, COK (hget [(256, [(.sl true a0.f0.length 1 (a0.f0.flatMap encI)), (.sl true a0.f1.length 4 (a0.f1.flatMap e52)), (I a0.f2)]), (3077, [(I (at_ a0.f1 x4).f0), (I (at_ a0.f1 x4).f1), (I (at_ a0.f1 x4).f2), (I (at_ a0.f1 x4).f3)])]) [(I (at_ a0.f1 x4).f1), (I 0), (I (wrap64 ((a0.f0.length : Int) - 1)))] ⟨44, [(I (at_ a0.f1 x4).f1), (I 0), (I (wrap64 ((a0.f0.length : Int) - 1)))], [], (B x5), [], [], [], [], (B x5), []⟩, (B (!x5) : V) = B false, 4 = 4 ∧ 0 + 1 ≤ 4, 4 = 4 ∧ 1 + 1 ≤ 4, COK (hget [(256, [(.sl true a0.f0.length 1 (a0.f0.flatMap encI)), (.sl true a0.f1.length 4 (a0.f1.flatMap e52)), (I a0.f2)]), (3077, [(I (at_ a0.f1 x4).f0), (I (at_ a0.f1 x4).f1), (I (at_ a0.f1 x4).f2), (I (at_ a0.f1 x4).f3)])]) [(I (at_ a0.f1 x4).f0), (I 0), (I (wrap64 ((at_ a0.f1 x4).f1 - 1)))] ⟨44, [(I (at_ a0.f1 x4).f0), (I 0), (I (wrap64 ((at_ a0.f1 x4).f1 - 1)))], [], (B x6), [], [], [], [], (B x6), []⟩, (B (!x6) : V) = B false, 4 = 4 ∧ 2 + 1 ≤ 4, COK (hget [(256, [(.sl true a0.f0.length 1 (a0.f0.flatMap encI)), (.sl true a0.f1.length 4 (a0.f1.flatMap e52)), (I a0.f2)]), (3077, [(I (at_ a0.f1 x4).f0), (I (at_ a0.f1 x4).f1), (I (at_ a0.f1 x4).f2), (I (at_ a0.f1 x4).f3)])]) [(I (at_ a0.f1 x4).f2), (I 0), (I 1000)] ⟨44, [(I (at_ a0.f1 x4).f2), (I 0), (I 1000)], [], (B x7), [], [], [], [], (B x7), []⟩, (B (!x7) : V) = B true], [⟨44, [(I (at_ a0.f1 x4).f1), (I 0), (I (wrap64 ((a0.f0.length : Int) - 1)))], [], (B x5), [], [], [], [], (B x5), []⟩, ⟨44, [(I (at_ a0.f1 x4).f0), (I 0), (I (wrap64 ((at_ a0.f1 x4).f1 - 1)))], [], (B x6), [], [], [], [], (B x6), []⟩, ⟨44, [(I (at_ a0.f1 x4).f2), (I 0), (I 1000)], [], (B x7), [], [], [], [], (B x7), []⟩]⟩ [c_ 15653, c_ 7827, b_ 3, c_ 979, l_ 122, b_ 2, c_ 31] (alc ⟨rfl, by decide⟩ (alc ⟨rfl, by decide⟩ (alc (cok0 false (a2c (.z .s) (a2c (.z .s) (a2c (.z .s) a2n))) (.z .s) (fun h => absurd h (by decide))) (alc (bF (nF c9)) (alc ⟨rfl, by decide⟩ (alc ⟨rfl, by decide⟩ (alc (cok0 false (a2c (.z .s) (a2c (.z .s) (a2c (.z .s) a2n))) (.z .s) (fun h => absurd h (by decide))) (alc (bF (nF c10)) (alc ⟨rfl, by decide⟩ (alc (cok0 false (a2c (.z .s) (a2c (.z .s) (a2c (.z .s) a2n))) (.z .s) (fun h => absurd h (by decide))) (alc (bT (nT (vF c11))) aln))))))))))) (acal (spec_l01In.J ((at_ a0.f1 x4).f1) 0 (wrap64 ((a0.f0.length : Int) - 1)) _ hx5) (acal (spec_l01In.J ((at_ a0.f1 x4).f0) 0 (wrap64 ((at_ a0.f1 x4).f1 - 1)) _ hx6) (acal (spec_l01In.J ((at_ a0.f1 x4).f2) 0 1000 _ hx7) nocal))) ?_
              refine .cond' (.tmp 76) true [c_ 62612, c_ 62613, c_ 7827, b_ 3, c_ 979, l_ 122, b_ 2, c_ 31] (rfl) ?_
              refine .reg' [2] [] ⟨[(2, (B false))], [(256, [(.sl true a0.f0.length 1 (a0.f0.flatMap encI)), (.sl true a0.f1.length 4 (a0.f1.flatMap e52)), (I a0.f2)]), (3077, [(I (at_ a0.f1 x4).f0), (I (at_ a0.f1 x4).f1), (I (at_ a0.f1 x4).f2), (I (at_ a0.f1 x4).f3)])], [], []⟩ [c_ 62613, c_ 7827, b_ 3, c_ 979, l_ 122, b_ 2, c_ 31] aln nocal ?_
              have h := Option.some.inj h
              subst h
              exact .fin0 [] (B false) [] aln (.z .s)
          · rw [if_neg c10] at h
            refine .reg' [1, 4, 5, 76] [.no, .no, .no, .no, .no, .no, .c ⟨44, [(I (at_ a0.f1 x4).f1), (I 0), (I (wrap64 ((a0.f0.length : Int) - 1)))], [], (B x5), [], [], [], [], (B x5), []⟩, .no, .v (B false), .no, .no, .no, .no, .no, .c ⟨44, [(I (at_ a0.f1 x4).f0), (I 0), (I (wrap64 ((at_ a0.f1 x4).f1 - 1)))], [], (B x6), [], [], [], [], (B x6), []⟩, .no, .no, .v (B true)] ⟨[(1, (.pt 256 0 3)), (4, (I x4)), (5, (.pt 3077 0 4)), (76, (B true))], [(256, [(.sl true a0.f0.length 1 (a0.f0.flatMap encI)), (.sl true a0.f1.length 4 (a0.f1.flatMap e52)), (I a0.f2)]), (3077, [(I (at_ a0.f1 x4).f0), (I (at_ a0.f1 x4).f1), (I (at_ a0.f1 x4).f2), (I (at_ a0.f1 x4).f3)])], [4 = 4 ∧ 1 + 1 ≤ 4, 3 = 3 ∧ 0 + 1 ≤ 3, COK (hget [(256, [(.sl true a0.f0.length 1 (a0.f0.flatMap encI)), (.sl true a0.f1.length 4 (a0.f1.flatMap e52)), (I a0.f2)]), (3077, [(I (at_ a0.f1 x4).f0), (I (at_ a0.f1 x4).f1), (I (at_ a0.f1 x4).f2), (I (at_ a0.f1 x4).f3)])]) [(I (at_ a0.f1 x4).f1), (I 0), (I (wrap64 ((a0.f0.length : Int) - 1)))] ⟨44, [(I (at_ a0.f1 x4).f1), (I 0), (I (wrap64 ((a0.f0.length : Int) - 1)))], [], (B x5), [], [], [], [], (B x5), []⟩, (B (!x5) : V) = B false, 4 = 4 ∧ 0 + 1 ≤ 4, 4 = 4 ∧ 1 + 1 ≤ 4, COK (hget [(256, [(.sl true a0.f0.length 1 (a0.f0.flatMap encI)), (.sl true a0.f1.length 4 (a0.f1.flatMap e52)), (I a0.f2)]), (3077, [(I (at_ a0.f1 x4).f0), (I (at_ a0.f1 x4).f1), (I (at_ a0.f1 x4).f2), (I (at_ a0.f1 x4).f3)])]) [(I (at_ a0.f1 x4).f0), (I 0), (I (wrap64 ((at_ a0.f1 x4).f1 - 1)))] ⟨44, [(I (at_ a0.f1 x4).f0), (I 0), (I (wrap64 ((at_ a0.f1 x4).f1 - 1)))], [], (B x6), [], [], [], [], (B x6), []⟩, (B (!x6) : V) = B true], [⟨44, [(I (at_ a0.f1 x4).f1), (I 0), (I (wrap64 ((a0.f0.length : Int) - 1)))], [], (B x5), [], [], [], [], (B x5), []⟩, ⟨44, [(I (at_ a0.f1 x4).f0), (I 0), (I (wrap64 ((at_ a0.f1 x4).f1 - 1)))], [], (B x6), [], [], [], [], (B x6), []⟩]⟩ [c_ 15653, c_ 7827, b_ 3, c_ 979, l_ 122, b_ 2, c_ 31] (alc ⟨rfl, by decide⟩ (alc ⟨rfl, by decide⟩ (alc (cok0 false (a2c (.z .s) (a2c (.z .s) (a2c (.z .s) a2n))) (.z .s) (fun h => absurd h (by decide))) (alc (bF (nF c9)) (alc ⟨rfl, by decide⟩ (alc ⟨rfl, by decide⟩ (alc (cok0 false (a2c (.z .s) (a2c (.z .s) (a2c (.z .s) a2n))) (.z .s) (fun h => absurd h (by decide))) (alc (bT (nT (vF c10))) aln)))))))) (acal (spec_l01In.J ((at_ a0.f1 x4).f1) 0 (wrap64 ((a0.f0.length : Int) - 1)) _ hx5) (acal (spec_l01In.J ((at_ a0.f1 x4).f0) 0 (wrap64 ((at_ a0.f1 x4).f1 - 1)) _ hx6) nocal)) ?_
            refine .cond' (.tmp 76) true [c_ 62612, c_ 62613, c_ 7827, b_ 3, c_ 979, l_ 122, b_ 2, c_ 31] (rfl) ?_
            refine .reg' [2] [] ⟨[(2, (B false))], [(256, [(.sl true a0.f0.length 1 (a0.f0.flatMap encI)), (.sl true a0.f1.length 4 (a0.f1.flatMap e52)), (I a0.f2)]), (3077, [(I (at_ a0.f1 x4).f0), (I (at_ a0.f1 x4).f1), (I (at_ a0.f1 x4).f2), (I (at_ a0.f1 x4).f3)])], [], []⟩ [c_ 62613, c_ 7827, b_ 3, c_ 979, l_ 122, b_ 2, c_ 31] aln nocal ?_
            have h := Option.some.inj h
            subst h
            exact .fin0 [] (B false) [] aln (.z .s)
        · rw [if_neg c9] at h
          refine .reg' [1, 4, 5, 76] [.no, .no, .no, .no, .no, .no, .c ⟨44, [(I (at_ a0.f1 x4).f1), (I 0), (I (wrap64 ((a0.f0.length : Int) - 1)))], [], (B x5), [], [], [], [], (B x5), []⟩, .no, .v (B true)] ⟨[(1, (.pt 256 0 3)), (4, (I x4)), (5, (.pt 3077 0 4)), (76, (B true))], [(256, [(.sl true a0.f0.length 1 (a0.f0.flatMap encI)), (.sl true a0.f1.length 4 (a0.f1.flatMap e52)), (I a0.f2)]), (3077, [(I (at_ a0.f1 x4).f0), (I (at_ a0.f1 x4).f1), (I (at_ a0.f1 x4).f2), (I (at_ a0.f1 x4).f3)])], [4 = 4 ∧ 1 + 1 ≤ 4, 3 = 3 ∧ 0 + 1 ≤ 3, COK (hget [(256, [(.sl true a0.f0.length 1 (a0.f0.flatMap encI)), (.sl true a0.f1.length 4 (a0.f1.flatMap e52)), (I a0.f2)]), (3077, [(I (at_ a0.f1 x4).f0), (I (at_ a0.f1 x4).f1), (I (at_ a0.f1 x4).f2), (I (at_ a0.f1 x4).f3)])]) [(I (at_ a0.f1 x4).f1), (I 0), (I (wrap64 ((a0.f0.length : Int) - 1)))] ⟨44, [(I (at_ a0.f1 x4).f1), (I 0), (I (wrap64 ((a0.f0.length : Int) - 1)))], [], (B x5), [], [], [], [], (B x5), []⟩, (B (!x5) : V) = B true], [⟨44, [(I (at_ a0.f1 x4).f1), (I 0), (I (wrap64 ((a0.f0.length : Int) - 1)))], [], (B x5), [], [], [], [], (B x5), []⟩]⟩ [c_ 15653, c_ 7827, b_ 3, c_ 979, l_ 122, b_ 2, c_ 31] (alc ⟨rfl, by decide⟩ (alc ⟨rfl, by decide⟩ (alc (cok0 false (a2c (.z .s) (a2c (.z .s) (a2c (.z .s) a2n))) (.z .s) (fun h => absurd h (by decide))) (alc (bT (nT (vF c9))) aln)))) (acal (spec_l01In.J ((at_ a0.f1 x4).f1) 0 (wrap64 ((a0.f0.length : Int) - 1)) _ hx5) nocal) ?_
          refine .cond' (.tmp 76) true [c_ 62612, c_ 62613, c_ 7827, b_ 3, c_ 979, l_ 122, b_ 2, c_ 31] (rfl) ?_
          refine .reg' [2] [] ⟨[(2, (B false))], [(256, [(.sl true a0.f0.length 1 (a0.f0.flatMap encI)), (.sl true a0.f1.length 4 (a0.f1.flatMap e52)), (I a0.f2)]), (3077, [(I (at_ a0.f1 x4).f0), (I (at_ a0.f1 x4).f1), (I (at_ a0.f1 x4).f2), (I (at_ a0.f1 x4).f3)])], [], []⟩ [c_ 62613, c_ 7827, b_ 3, c_ 979, l_ 122, b_ 2, c_ 31] aln nocal ?_
          have h := Option.some.inj h
          subst h
          exact .fin0 [] (B false) [] aln (.z .s)
      · rw [if_neg c8] at h
        cases h
    · rw [if_neg c7] at h
      refine .cond' (.tmp 40) false [c_ 62, c_ 63] (bF (dF c7)) ?_
      refine .reg' [2] [] ⟨[(2, (B true))], [(256, [(.sl true a0.f0.length 1 (a0.f0.flatMap encI)), (.sl true a0.f1.length 4 (a0.f1.flatMap e52)), (I a0.f2)])], [], []⟩ [c_ 63] aln nocal ?_
      have h := Option.some.inj h
      subst h
      exact .fin0 [] (B true) [] aln (.z .s)
theorem spec_WorkOk.J (k : Nat) (a0 : S29) (r : Bool) (h : spec_WorkOk.f k a0 = some r) : J prog (.call 14 [(.ag [(.sl true a0.f0.length 1 (a0.f0.flatMap encI)), (.sl true a0.f1.length 4 (a0.f1.flatMap e52)), (I a0.f2)])] [] (B r) []) := by
  unfold spec_WorkOk.f at h
  obtain ⟨ih0, ih1⟩ := spec_WorkOk.lab k
  refine .call' [c_ 2, c_ 3] ?_
  refine .reg' [1] [] ⟨[(1, (.pt 256 0 3))], [(256, [(.sl true a0.f0.length 1 (a0.f0.flatMap encI)), (.sl true a0.f1.length 4 (a0.f1.flatMap e52)), (I a0.f2)])], [], []⟩ [c_ 12, c_ 13, c_ 7] aln nocal ?_
  by_cases c1 : (a0.f0.length : Int) > 60
  · rw [if_pos c1] at h
    refine .reg' [1, 21] [.no, .no, .no, .no, .v (B true)] ⟨[(1, (.pt 256 0 3)), (21, (B true))], [(256, [(.sl true a0.f0.length 1 (a0.f0.flatMap encI)), (.sl true a0.f1.length 4 (a0.f1.flatMap e52)), (I a0.f2)])], [3 = 3 ∧ 0 + 1 ≤ 3, (B (decide ((a0.f0.length : Int) > 60)) : V) = B true], []⟩ [c_ 13, c_ 7] (alc ⟨rfl, by decide⟩ (alc (bT (dT c1)) aln)) nocal ?_
    refine .cond' (.tmp 21) true [c_ 52, c_ 53, c_ 7] (rfl) ?_
    refine .reg' [2] [] ⟨[(2, (B false))], [(256, [(.sl true a0.f0.length 1 (a0.f0.flatMap encI)), (.sl true a0.f1.length 4 (a0.f1.flatMap e52)), (I a0.f2)])], [], []⟩ [c_ 53, c_ 7] aln nocal ?_
    have h := Option.some.inj h
    subst h
    exact .fin0 [] (B false) [] aln (.z .s)
  · rw [if_neg c1] at h
    by_cases c2 : (a0.f1.length : Int) > 150
    · rw [if_pos c2] at h
      refine .reg' [1, 21] [.no, .no, .no, .no, .v (B false), .no, .no, .no, .no, .no, .v (B true)] ⟨[(1, (.pt 256 0 3)), (21, (B true))], [(256, [(.sl true a0.f0.length 1 (a0.f0.flatMap encI)), (.sl true a0.f1.length 4 (a0.f1.flatMap e52)), (I a0.f2)])], [3 = 3 ∧ 0 + 1 ≤ 3, (B (decide ((a0.f0.length : Int) > 60)) : V) = B false, 3 = 3 ∧ 1 + 1 ≤ 3, (B (decide ((a0.f1.length : Int) > 150)) : V) = B true], []⟩ [c_ 13, c_ 7] (alc ⟨rfl, by decide⟩ (alc (bF (dF c1)) (alc ⟨rfl, by decide⟩ (alc (bT (dT c2)) aln)))) nocal ?_
      refine .cond' (.tmp 21) true [c_ 52, c_ 53, c_ 7] (rfl) ?_
      refine .reg' [2] [] ⟨[(2, (B false))], [(256, [(.sl true a0.f0.length 1 (a0.f0.flatMap encI)), (.sl true a0.f1.length 4 (a0.f1.flatMap e52)), (I a0.f2)])], [], []⟩ [c_ 53, c_ 7] aln nocal ?_
      have h := Option.some.inj h
      subst h
      exact .fin0 [] (B false) [] aln (.z .s)
    · rw [if_neg c2] at h
      obtain ⟨x1, hx1, h⟩ := Option.bind_eq_some_iff.mp h
      refine .reg' [1, 21] [.no, .no, .no, .no, .v (B false), .no, .no, .no, .no, .no, .v (B false), .no, .no, .c ⟨44, [(I a0.f2), (I 0), (I 60)], [], (B x1), [], [], [], [], (B x1), []⟩] ⟨[(1, (.pt 256 0 3)), (21, (B (!x1)))], [(256, [(.sl true a0.f0.length 1 (a0.f0.flatMap encI)), (.sl true a0.f1.length 4 (a0.f1.flatMap e52)), (I a0.f2)])], [3 = 3 ∧ 0 + 1 ≤ 3, (B (decide ((a0.f0.length : Int) > 60)) : V) = B false, 3 = 3 ∧ 1 + 1 ≤ 3, (B (decide ((a0.f1.length : Int) > 150)) : V) = B false, 3 = 3 ∧ 2 + 1 ≤ 3, COK (hget [(256, [(.sl true a0.f0.length 1 (a0.f0.flatMap encI)), (.sl true a0.f1.length 4 (a0.f1.flatMap e52)), (I a0.f2)])]) [(I a0.f2), (I 0), (I 60)] ⟨44, [(I a0.f2), (I 0), (I 60)], [], (B x1), [], [], [], [], (B x1), []⟩], [⟨44, [(I a0.f2), (I 0), (I 60)], [], (B x1), [], [], [], [], (B x1), []⟩]⟩ [c_ 13, c_ 7] (alc ⟨rfl, by decide⟩ (alc (bF (dF c1)) (alc ⟨rfl, by decide⟩ (alc (bF (dF c2)) (alc ⟨rfl, by decide⟩ (alc (cok0 false (a2c (.z .s) (a2c (.z .s) (a2c (.z .s) a2n))) (.z .s) (fun h => absurd h (by decide))) aln)))))) (acal (spec_l01In.J a0.f2 0 60 _ hx1) nocal) ?_
      by_cases c3 : x1 = true
      · rw [if_pos c3] at h
        refine .cond' (.tmp 21) false [c_ 28, c_ 29, c_ 15] (bF (nF c3)) ?_
        refine .reg' [1, 3] [] ⟨[(1, (.pt 256 0 3)), (3, (I 0))], [(256, [(.sl true a0.f0.length 1 (a0.f0.flatMap encI)), (.sl true a0.f1.length 4 (a0.f1.flatMap e52)), (I a0.f2)])], [], []⟩ [l_ 58, b_ 0, c_ 15] aln nocal ?_
        exact ih0 a0 0 _ h
      · rw [if_neg c3] at h
        refine .cond' (.tmp 21) true [c_ 52, c_ 53, c_ 7] (bT (nT (vF c3))) ?_
        refine .reg' [2] [] ⟨[(2, (B false))], [(256, [(.sl true a0.f0.length 1 (a0.f0.flatMap encI)), (.sl true a0.f1.length 4 (a0.f1.flatMap e52)), (I a0.f2)])], [], []⟩ [c_ 53, c_ 7] aln nocal ?_
        have h := Option.some.inj h
        subst h
        exact .fin0 [] (B false) [] aln (.z .s)
/-! spec_l11Late: function 49 -/
def spec_l11Late.l0 : Nat → (List Int) → Int → Option Bool
 | 0, _, _ => none
 | k + 1, a1, x1 => (if x1 < (a1.length : Int) then (if 0 ≤ x1 then ((spec_l01In.f (at_ a1 x1) 0 10000).bind fun x2 => (if x2 = true then (spec_l11Late.l0 k a1 (wrap64 (x1 + 1))) else (some false))) else none) else (some true))
def spec_l11Late.f (k : Nat) (a0 : S29) (a1 : (List Int)) : Option Bool := (if (a1.length : Int) = (a0.f0.length : Int) then (spec_l11Late.l0 k a1 0) else (some false))
theorem spec_l11Late.lab : ∀ k, (∀ (a1 : (List Int)) (x1 : Int) (r : Bool), spec_l11Late.l0 k a1 x1 = some r → J prog (.run 49 [] [l_ 58, b_ 0, c_ 15] [(1, (.sl true a1.length 1 (a1.flatMap encI))), (5, (I x1))] [] (B r) []))
 | 0 => (by intro a1 x1 r h; unfold spec_l11Late.l0 at h; cases h)
 | k + 1 => by
  have ih := spec_l11Late.lab k
  have ih0 := ih
  · intro a1 x1 r h
    unfold spec_l11Late.l0 at h
    refine .loop' [c_ 464, c_ 465, c_ 233, l_ 58, b_ 0, c_ 15] ?_
    refine .reg' [1, 5, 15] [] ⟨[(1, (.sl true a1.length 1 (a1.flatMap encI))), (5, (I x1)), (15, (B (decide (x1 < (a1.length : Int)))))], [], [], []⟩ [c_ 465, c_ 233, l_ 58, b_ 0, c_ 15] aln nocal ?_
    by_cases c2 : x1 < (a1.length : Int)
    · rw [if_pos c2] at h
      refine .cond' (.tmp 15) true [c_ 1864, c_ 1865, b_ 1, c_ 467, l_ 58, b_ 0, c_ 15] (bT (dT c2)) ?_
      by_cases c3 : 0 ≤ x1
      · rw [if_pos c3] at h
        obtain ⟨x2, hx2, h⟩ := Option.bind_eq_some_iff.mp h
        refine .reg' [1, 5, 23] [.no, .no, .no, .v (I (at_ a1 x1)), .c ⟨44, [(I (at_ a1 x1)), (I 0), (I 10000)], [], (B x2), [], [], [], [], (B x2), []⟩] ⟨[(1, (.sl true a1.length 1 (a1.flatMap encI))), (5, (I x1)), (23, (B (!x2)))], [], [(0 : Int) ≤ x1 ∧ x1 < (a1.length : Int), rdC prog 3 ((a1.flatMap encI).drop (x1.toNat * 1)) = (I (at_ a1 x1)), 1 ≤ ((a1.flatMap encI).drop (x1.toNat * 1)).length, COK (hget []) [(I (at_ a1 x1)), (I 0), (I 10000)] ⟨44, [(I (at_ a1 x1)), (I 0), (I 10000)], [], (B x2), [], [], [], [], (B x2), []⟩], [⟨44, [(I (at_ a1 x1)), (I 0), (I 10000)], [], (B x2), [], [], [], [], (B x2), []⟩]⟩ [c_ 1865, b_ 1, c_ 467, l_ 58, b_ 0, c_ 15] (alc ⟨c3, c2⟩ (alc (ldC1 encI_ok rfl c3 c2) (alc (okI encI_ok c3 c2 (by decide)) (alc (cok0 false (a2c (.z .s) (a2c (.z .s) (a2c (.z .s) a2n))) (.z .s) (fun h => absurd h (by decide))) aln)))) (acal (spec_l01In.J (at_ a1 x1) 0 10000 _ hx2) nocal) ?_
        by_cases c4 : x2 = true
        · rw [if_pos c4] at h
          refine .cond' (.tmp 23) false [c_ 467, l_ 58, b_ 0, c_ 15] (bF (nF c4)) ?_
          refine .reg' [1, 5] [] ⟨[(1, (.sl true a1.length 1 (a1.flatMap encI))), (5, (I (wrap64 (x1 + 1))))], [], [], []⟩ [l_ 58, b_ 0, c_ 15] aln nocal ?_
          exact ih0 a1 (wrap64 (x1 + 1)) _ h
        · rw [if_neg c4] at h
          refine .cond' (.tmp 23) true [c_ 7460, c_ 7461, b_ 1, c_ 467, l_ 58, b_ 0, c_ 15] (bT (nT (vF c4))) ?_
          refine .reg' [4] [] ⟨[(4, (B false))], [], [], []⟩ [c_ 7461, b_ 1, c_ 467, l_ 58, b_ 0, c_ 15] aln nocal ?_
          have h := Option.some.inj h
          subst h
          exact .fin0 [] (B false) [] aln (.z .s)
      · rw [if_neg c3] at h
        cases h
    · rw [if_neg c2] at h
      refine .cond' (.tmp 15) false [c_ 30, c_ 31] (bF (dF c2)) ?_
      refine .reg' [4] [] ⟨[(4, (B true))], [], [], []⟩ [c_ 31] aln nocal ?_
      have h := Option.some.inj h
      subst h
      exact .fin0 [] (B true) [] aln (.z .s)
theorem spec_l11Late.J (k : Nat) (a0 : S29) (a1 : (List Int)) (r : Bool) (h : spec_l11Late.f k a0 a1 = some r) : J prog (.call 49 [(.ag [(.sl true a0.f0.length 1 (a0.f0.flatMap encI)), (.sl true a0.f1.length 4 (a0.f1.flatMap e52)), (I a0.f2)]), (.sl true a1.length 1 (a1.flatMap encI))] [] (B r) []) := by
  unfold spec_l11Late.f at h
  have ih0 := spec_l11Late.lab k
  refine .call' [c_ 2, c_ 3] ?_
  refine .reg' [1, 2] [] ⟨[(1, (.sl true a1.length 1 (a1.flatMap encI))), (2, (.pt 256 0 3))], [(256, [(.sl true a0.f0.length 1 (a0.f0.flatMap encI)), (.sl true a0.f1.length 4 (a0.f1.flatMap e52)), (I a0.f2)])], [], []⟩ [c_ 12, c_ 13, c_ 7] aln nocal ?_
  refine .reg' [1, 11] [] ⟨[(1, (.sl true a1.length 1 (a1.flatMap encI))), (11, (B (!((a1.length : Int) == (a0.f0.length : Int)))))], [(256, [(.sl true a0.f0.length 1 (a0.f0.flatMap encI)), (.sl true a0.f1.length 4 (a0.f1.flatMap e52)), (I a0.f2)])], [3 = 3 ∧ 0 + 1 ≤ 3], []⟩ [c_ 13, c_ 7] (alc ⟨rfl, by decide⟩ aln) nocal ?_
  by_cases c1 : (a1.length : Int) = (a0.f0.length : Int)
  · rw [if_pos c1] at h
    refine .cond' (.tmp 11) false [c_ 28, c_ 29, c_ 15] (bF (nF (qT c1))) ?_
    refine .reg' [1, 5] [] ⟨[(1, (.sl true a1.length 1 (a1.flatMap encI))), (5, (I 0))], [(256, [(.sl true a0.f0.length 1 (a0.f0.flatMap encI)), (.sl true a0.f1.length 4 (a0.f1.flatMap e52)), (I a0.f2)])], [], []⟩ [l_ 58, b_ 0, c_ 15] aln nocal ?_
    refine .wk' [] [] [(1, (.sl true a1.length 1 (a1.flatMap encI))), (5, (I 0))] [] shn (enc_ (.z (frz_sl encI_ok (fun h => h))) (enc_ (.z .s) enn)) ?_
    exact ih0 a1 0 _ h
  · rw [if_neg c1] at h
    refine .cond' (.tmp 11) true [c_ 52, c_ 53, c_ 7] (bT (nT (qF c1))) ?_
    refine .reg' [4] [] ⟨[(4, (B false))], [(256, [(.sl true a0.f0.length 1 (a0.f0.flatMap encI)), (.sl true a0.f1.length 4 (a0.f1.flatMap e52)), (I a0.f2)])], [], []⟩ [c_ 53, c_ 7] aln nocal ?_
    have h := Option.some.inj h
    subst h
    exact .fin0 [] (B false) [] aln (.z .s)
/-! spec_l11Play: function 50 -/
mutual
def spec_l11Play.l0 : Nat → S29 → (List Int) → (List Bool) → Int → Option ((List Int) × (List Bool))
 | 0, _, _, _, _ => none
 | k + 1, a0, a1, x1, x2 => (if x2 < (a0.f1.length : Int) then (if 0 ≤ x2 then (if (x1.length + ([((at_ a0.f1 x2).f3 == 0)] : List Bool).length) * 1 ≤ 70368744177664 then (spec_l11Play.l0 k a0 a1 (x1 ++ ([((at_ a0.f1 x2).f3 == 0)] : List Bool)) (wrap64 (x2 + 1))) else none) else none) else (spec_l11Play.l1 k a0 a1 ([] : List Int) x1 0))
def spec_l11Play.l1 : Nat → S29 → (List Int) → (List Int) → (List Bool) → Int → Option ((List Int) × (List Bool))
 | 0, _, _, _, _, _ => none
 | k + 1, a0, a1, x3, x4, x5 => (if x5 < (a0.f0.length : Int) then (if 0 ≤ x5 then (spec_l11Play.l2 k a0 a1 x3 x4 x5 (at_ a0.f0 x5) 0) else none) else (some (x3, x4)))
def spec_l11Play.l2 : Nat → S29 → (List Int) → (List Int) → (List Bool) → Int → Int → Int → Option ((List Int) × (List Bool))
 | 0, _, _, _, _, _, _, _ => none
 | k + 1, a0, a1, x3, x4, x5, x6, x7 => (if x7 < (a0.f1.length : Int) then (if 0 ≤ x7 then (if (at_ a0.f1 x7).f1 = x5 then (if (at_ a0.f1 x7).f3 = 0 then (if 0 ≤ (at_ a0.f1 x7).f0 then (if (at_ a0.f1 x7).f0 < (x3.length : Int) then (if (wrap64 ((at_ x3 (at_ a0.f1 x7).f0) + (at_ a0.f1 x7).f2)) > x6 then (spec_l11Play.l2 k a0 a1 x3 x4 x5 (wrap64 ((at_ x3 (at_ a0.f1 x7).f0) + (at_ a0.f1 x7).f2)) (wrap64 (x7 + 1))) else (spec_l11Play.l2 k a0 a1 x3 x4 x5 x6 (wrap64 (x7 + 1)))) else none) else none) else (spec_l11Play.l2 k a0 a1 x3 x4 x5 x6 (wrap64 (x7 + 1)))) else (spec_l11Play.l2 k a0 a1 x3 x4 x5 x6 (wrap64 (x7 + 1)))) else none) else (spec_l11Play.l3 k a0 a1 x3 x5 x6 x4 x6 0))
def spec_l11Play.l3 : Nat → S29 → (List Int) → (List Int) → Int → Int → (List Bool) → Int → Int → Option ((List Int) × (List Bool))
 | 0, _, _, _, _, _, _, _, _ => none
 | k + 1, a0, a1, x3, x5, x6, x8, x9, x10 => (if x10 < (a0.f1.length : Int) then (if 0 ≤ x10 then (if (at_ a0.f1 x10).f1 = x5 then (if (at_ a0.f1 x10).f3 = 1 then (if 0 ≤ (at_ a0.f1 x10).f0 then (if (at_ a0.f1 x10).f0 < (x3.length : Int) then (if (wrap64 ((at_ x3 (at_ a0.f1 x10).f0) + (at_ a0.f1 x10).f2)) ≤ (wrap64 (x6 + a0.f2)) then (if x10 < (x8.length : Int) then (if (wrap64 ((at_ x3 (at_ a0.f1 x10).f0) + (at_ a0.f1 x10).f2)) > x9 then (spec_l11Play.l3 k a0 a1 x3 x5 x6 (x8.set x10.toNat true) (wrap64 ((at_ x3 (at_ a0.f1 x10).f0) + (at_ a0.f1 x10).f2)) (wrap64 (x10 + 1))) else (spec_l11Play.l3 k a0 a1 x3 x5 x6 (x8.set x10.toNat true) x9 (wrap64 (x10 + 1)))) else none) else (spec_l11Play.l3 k a0 a1 x3 x5 x6 x8 x9 (wrap64 (x10 + 1)))) else none) else none) else (spec_l11Play.l3 k a0 a1 x3 x5 x6 x8 x9 (wrap64 (x10 + 1)))) else (spec_l11Play.l3 k a0 a1 x3 x5 x6 x8 x9 (wrap64 (x10 + 1)))) else none) else (if 0 ≤ x5 then (if x5 < (a1.length : Int) then (if (x3.length + ([(wrap64 (x9 + (at_ a1 x5)))] : List Int).length) * 8 ≤ 70368744177664 then (spec_l11Play.l1 k a0 a1 (x3 ++ ([(wrap64 (x9 + (at_ a1 x5)))] : List Int)) x8 (wrap64 (x5 + 1))) else none) else none) else none))
end
def spec_l11Play.f (k : Nat) (a0 : S29) (a1 : (List Int)) : Option ((List Int) × (List Bool)) := (spec_l11Play.l0 k a0 a1 ([] : List Bool) 0)
end Go.Proofs.Ytomkglmlhoaniaa.Fns
