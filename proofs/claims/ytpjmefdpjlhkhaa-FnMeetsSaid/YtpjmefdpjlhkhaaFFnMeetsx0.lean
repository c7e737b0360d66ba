/- The functions that the law FnMeets reaches, by the engine. Printed by a program of this seat. -/
import Derived.Test.YtpjmefdpjlhkhaaE5
import Derived.Test.YtpjmefdpjlhkhaaProg
namespace Go.Proofs.Ytpjmefdpjlhkhaa.Fns
open Go.Proofs.Try Go.Proofs.Ytpjmefdpjlhkhaa.Eng Go.RowKit
set_option maxRecDepth 100000
set_option linter.unusedVariables false
set_option linter.unusedSimpArgs false
structure S44 where
  f0 : Int
  f1 : Int
  deriving Inhabited
def e44 (x : S44) : List V := [I x.f0, I x.f1]
theorem e44_ok : Enc (e44) 2 where
  len := fun _ => rfl
  self := fun x v h H tb bor => by
    simp only [e44, List.mem_cons, List.not_mem_nil, or_false] at h
    rcases h with h | h
    · subst h; exact .s
    · subst h; exact .s
  cln := fun x v h => by
    simp only [e44, List.mem_cons, List.not_mem_nil, or_false] at h
    rcases h with h | h
    · subst h; exact .s
    · subst h; exact .s
theorem e44_c {b : Bool} : EncC b e44 := by
  intro x v h
  simp only [e44, List.mem_cons, List.not_mem_nil, or_false] at h
  rcases h with h | h
  · subst h; exact .s
  · subst h; exact .s
structure S65 where
  f0 : (List Int)
  f1 : (List (List Int))
  deriving Inhabited
structure S68 where
  f0 : (List Int)
  f1 : Int
  f2 : Int
  deriving Inhabited
def e68 (t : Bool) (x : S68) : List V := [.sl t x.f0.length 1 (x.f0.flatMap encU), I x.f1, I x.f2]
theorem e68_ok (t : Bool) : Enc (e68 t) 3 where
  len := fun _ => rfl
  self := fun x v h H tb bor => by
    simp only [e68, List.mem_cons, List.not_mem_nil, or_false] at h
    rcases h with h | h | h
    · subst h; exact frz_sl encU_ok id
    · subst h; exact .s
    · subst h; exact .s
  cln := fun x v h => by
    simp only [e68, List.mem_cons, List.not_mem_nil, or_false] at h
    rcases h with h | h | h
    · subst h; exact cln_sl encU_ok
    · subst h; exact .s
    · subst h; exact .s
theorem e68_to (x : S68) {H : Nat → Option (List V)} {tb : Bool} {bor : List Nat} : All2 (Frz H tb bor) (e68 false x) (e68 true x) := (a2c (frz_sl encU_ok (fun h => absurd h (by decide))) (a2c .s (a2c .s a2n)))
theorem e68_c1 : EncC true (e68 true) := by
  intro x v h
  simp only [e68, List.mem_cons, List.not_mem_nil, or_false] at h
  rcases h with h | h | h
  · subst h; exact clnS encU_c (fun h => rfl)
  · subst h; exact .s
  · subst h; exact .s
theorem e68_c0 {b : Bool} : EncC b (e68 false) := by
  intro x v h
  simp only [e68, List.mem_cons, List.not_mem_nil, or_false] at h
  rcases h with h | h | h
  · subst h; exact clnS encU_c (fun h => absurd h (by decide))
  · subst h; exact .s
  · subst h; exact .s
/-! laws_big: function 35 -/
def laws_big.f (a0 : (List Int)) : Option Bool := (some (decide ((a0.length : Int) > 1048576)))
theorem laws_big.J (a0 : (List Int)) (r : Bool) (h : laws_big.f a0 = some r) : J prog (.call 35 [(.sl true a0.length 1 (a0.flatMap encU))] [] (B r) []) := by
  unfold laws_big.f at h
  refine .call' [c_ 2, c_ 3] ?_
  refine .reg' [0] [] ⟨[(0, (.sl true a0.length 1 (a0.flatMap encU)))], [], [], []⟩ [c_ 6, c_ 7] aln nocal ?_
  refine .reg' [2] [] ⟨[(2, (B (decide ((a0.length : Int) > 1048576))))], [], [], []⟩ [c_ 7] aln nocal ?_
  have h := Option.some.inj h
  subst h
  exact .fin0 [] (B (decide ((a0.length : Int) > 1048576))) [] aln (.z .s)
/-! spec_l01New: function 54 -/
def spec_l01New.l0 : Nat → (List Int) → Int → Int → Option S68
 | 0, _, _, _ => none
 | k + 1, a0, x1, x2 => (if x2 < (a0.length : Int) then (if x2 < 4000 then (if 0 ≤ x2 then (spec_l01New.l0 k a0 (bAnd (wrap64 ((wrap64 ((wrap64 (x1 * 137)) + (IntKind.i64.wrap (at_ a0 x2)))) + 11)) 1073741823) (wrap64 (x2 + 1))) else none) else (some (⟨a0, 0, x1⟩ : S68))) else (some (⟨a0, 0, x1⟩ : S68)))
def spec_l01New.f (k : Nat) (a0 : (List Int)) : Option S68 := (spec_l01New.l0 k a0 (wrap64 (75075 + (a0.length : Int))) 0)
theorem spec_l01New.lab : ∀ k, (∀ (a0 : (List Int)) (x1 : Int) (x2 : Int) (r : S68), spec_l01New.l0 k a0 x1 x2 = some r → J prog (.run 54 [] [l_ 58, b_ 0, c_ 15] [(0, (.sl false a0.length 1 (a0.flatMap encU))), (3, (I x1)), (4, (I x2))] [] (.pt 1795 0 3) [(1795, [(.sl false r.f0.length 1 (r.f0.flatMap encU)), (I r.f1), (I r.f2)])]))
 | 0 => (by intro a0 x1 x2 r h; unfold spec_l01New.l0 at h; cases h)
 | k + 1 => by
  have ih0 := spec_l01New.lab k
  · intro a0 x1 x2 r h
    unfold spec_l01New.l0 at h
    refine .loop' [c_ 464, c_ 465, c_ 233, l_ 58, b_ 0, c_ 15] ?_
    by_cases c1 : x2 < (a0.length : Int)
    · rw [if_pos c1] at h
      refine .reg' [0, 3, 4, 15] [.no, .no, .no, .no, .v (B true)] ⟨[(0, (.sl false a0.length 1 (a0.flatMap encU))), (3, (I x1)), (4, (I x2)), (15, (B (decide (x2 < 4000))))], [], [(B (decide (x2 < (a0.length : Int))) : V) = B true], []⟩ [c_ 465, c_ 233, l_ 58, b_ 0, c_ 15] (alc (bT (dT c1)) aln) nocal ?_
      by_cases c2 : x2 < 4000
      · rw [if_pos c2] at h
        refine .cond' (.tmp 15) true [c_ 932, b_ 1, c_ 467, l_ 58, b_ 0, c_ 15] (bT (dT c2)) ?_
        by_cases c3 : 0 ≤ x2
        · rw [if_pos c3] at h
          refine .reg' [0, 3, 4] [.no, .no, .no, .no, .no, .v (U (at_ a0 x2))] ⟨[(0, (.sl false a0.length 1 (a0.flatMap encU))), (3, (I (bAnd (wrap64 ((wrap64 ((wrap64 (x1 * 137)) + (IntKind.i64.wrap (at_ a0 x2)))) + 11)) 1073741823))), (4, (I x2))], [], [(0 : Int) ≤ x2 ∧ x2 < (a0.length : Int), rdC prog 5 ((a0.flatMap encU).drop (x2.toNat * 1)) = (U (at_ a0 x2)), 1 ≤ ((a0.flatMap encU).drop (x2.toNat * 1)).length], []⟩ [c_ 467, l_ 58, b_ 0, c_ 15] (alc ⟨c3, c1⟩ (alc (ldC1 encU_ok rfl c3 c1) (alc (okI encU_ok c3 c1 (by decide)) aln))) nocal ?_
          refine .reg' [0, 3, 4] [] ⟨[(0, (.sl false a0.length 1 (a0.flatMap encU))), (3, (I (bAnd (wrap64 ((wrap64 ((wrap64 (x1 * 137)) + (IntKind.i64.wrap (at_ a0 x2)))) + 11)) 1073741823))), (4, (I (wrap64 (x2 + 1))))], [], [], []⟩ [l_ 58, b_ 0, c_ 15] aln nocal ?_
          exact ih0 a0 (bAnd (wrap64 ((wrap64 ((wrap64 (x1 * 137)) + (IntKind.i64.wrap (at_ a0 x2)))) + 11)) 1073741823) (wrap64 (x2 + 1)) _ h
        · rw [if_neg c3] at h
          cases h
      · rw [if_neg c2] at h
        refine .cond' (.tmp 15) false [c_ 30, c_ 31] (bF (dF c2)) ?_
        refine .reg' [2] [] ⟨[(2, (.pt 1795 0 3))], [(1795, [(.sl false a0.length 1 (a0.flatMap encU)), (I 0), (I x1)])], [], []⟩ [c_ 31] aln nocal ?_
        have h := Option.some.inj h
        subst h
        exact .fin' [] [(1795, 1795)] (.pt 1795 0 3) [] aln (shc 1795 (a2c (.z (frz_sl encU_ok (fun h => h))) (a2c (.z .s) (a2c (.z .s) a2n))) shn) (.pt (memP_mem (p := (1795, 1795)) rfl))
    · rw [if_neg c1] at h
      refine .reg' [0, 3, 4, 15] [.no, .no, .no, .no, .v (B false)] ⟨[(0, (.sl false a0.length 1 (a0.flatMap encU))), (3, (I x1)), (4, (I x2)), (15, (B false))], [], [(B (decide (x2 < (a0.length : Int))) : V) = B false], []⟩ [c_ 465, c_ 233, l_ 58, b_ 0, c_ 15] (alc (bF (dF c1)) aln) nocal ?_
      refine .cond' (.tmp 15) false [c_ 30, c_ 31] (rfl) ?_
      refine .reg' [2] [] ⟨[(2, (.pt 1795 0 3))], [(1795, [(.sl false a0.length 1 (a0.flatMap encU)), (I 0), (I x1)])], [], []⟩ [c_ 31] aln nocal ?_
      have h := Option.some.inj h
      subst h
      exact .fin' [] [(1795, 1795)] (.pt 1795 0 3) [] aln (shc 1795 (a2c (.z (frz_sl encU_ok (fun h => h))) (a2c (.z .s) (a2c (.z .s) a2n))) shn) (.pt (memP_mem (p := (1795, 1795)) rfl))
theorem spec_l01New.J (k : Nat) (a0 : (List Int)) (r : S68) (h : spec_l01New.f k a0 = some r) : J prog (.call 54 [(.sl false a0.length 1 (a0.flatMap encU))] [] (.pt 1795 0 3) [(1795, [(.sl false r.f0.length 1 (r.f0.flatMap encU)), (I r.f1), (I r.f2)])]) := by
  unfold spec_l01New.f at h
  have ih0 := spec_l01New.lab k
  refine .call' [c_ 2, c_ 3] ?_
  refine .reg' [0] [] ⟨[(0, (.sl false a0.length 1 (a0.flatMap encU)))], [], [], []⟩ [c_ 6, c_ 7] aln nocal ?_
  refine .reg' [0, 3] [] ⟨[(0, (.sl false a0.length 1 (a0.flatMap encU))), (3, (I (wrap64 (75075 + (a0.length : Int)))))], [], [], []⟩ [c_ 28, c_ 29, c_ 15] aln nocal ?_
  refine .reg' [0, 3, 4] [] ⟨[(0, (.sl false a0.length 1 (a0.flatMap encU))), (3, (I (wrap64 (75075 + (a0.length : Int))))), (4, (I 0))], [], [], []⟩ [l_ 58, b_ 0, c_ 15] aln nocal ?_
  exact ih0 a0 (wrap64 (75075 + (a0.length : Int))) 0 _ h
/-! spec_l01Byte: function 61 -/
def spec_l01Byte.f (a0 : S68) : Option (Int × S68) := (if a0.f1 < (a0.f0.length : Int) then (if 0 ≤ a0.f1 then (some ((bAnd (wrap64 ((bAnd (bXor ((wrap64 ((wrap64 (a0.f2 * 6364136223846793005)) + 1442695040888963407)).fdiv (2 ^ 33)) ((wrap64 ((wrap64 (a0.f2 * 6364136223846793005)) + 1442695040888963407)).fdiv (2 ^ 45))) 255) + (IntKind.i64.wrap (at_ a0.f0 a0.f1)))) 255), (⟨a0.f0, (wrap64 (a0.f1 + 1)), (wrap64 ((wrap64 (a0.f2 * 6364136223846793005)) + 1442695040888963407))⟩ : S68))) else none) else (some ((bAnd (bXor ((wrap64 ((wrap64 (a0.f2 * 6364136223846793005)) + 1442695040888963407)).fdiv (2 ^ 33)) ((wrap64 ((wrap64 (a0.f2 * 6364136223846793005)) + 1442695040888963407)).fdiv (2 ^ 45))) 255), (⟨a0.f0, a0.f1, (wrap64 ((wrap64 (a0.f2 * 6364136223846793005)) + 1442695040888963407))⟩ : S68))))
theorem spec_l01Byte.J (a0 : S68) (r : (Int × S68)) (h : spec_l01Byte.f a0 = some r) : J prog (.call 61 [(.pt 0 0 3)] [(0, [(.sl false a0.f0.length 1 (a0.f0.flatMap encU)), (I a0.f1), (I a0.f2)])] (I r.1) [(0, [(.sl false r.2.f0.length 1 (r.2.f0.flatMap encU)), (I r.2.f1), (I r.2.f2)])]) := by
  unfold spec_l01Byte.f at h
  refine .call' [c_ 2, c_ 3] ?_
  refine .reg' [0] [] ⟨[(0, (.pt 0 0 3))], [(0, [(.sl false a0.f0.length 1 (a0.f0.flatMap encU)), (I a0.f1), (I a0.f2)])], [], []⟩ [c_ 6, c_ 7] aln nocal ?_
  refine .reg' [0] [] ⟨[(0, (.pt 0 0 3))], [(0, [(.sl false a0.f0.length 1 (a0.f0.flatMap encU)), (I a0.f1), (I (wrap64 ((wrap64 (a0.f2 * 6364136223846793005)) + 1442695040888963407)))])], [3 = 3 ∧ 2 + 1 ≤ 3, 3 = 3 ∧ 2 + 1 ≤ 3], []⟩ [c_ 14, c_ 15] (alc ⟨rfl, by decide⟩ (alc ⟨rfl, by decide⟩ aln)) nocal ?_
  refine .reg' [0, 3] [] ⟨[(0, (.pt 0 0 3)), (3, (I (bAnd (bXor ((wrap64 ((wrap64 (a0.f2 * 6364136223846793005)) + 1442695040888963407)).fdiv (2 ^ 33)) ((wrap64 ((wrap64 (a0.f2 * 6364136223846793005)) + 1442695040888963407)).fdiv (2 ^ 45))) 255)))], [(0, [(.sl false a0.f0.length 1 (a0.f0.flatMap encU)), (I a0.f1), (I (wrap64 ((wrap64 (a0.f2 * 6364136223846793005)) + 1442695040888963407)))])], [3 = 3 ∧ 2 + 1 ≤ 3, 3 = 3 ∧ 2 + 1 ≤ 3], []⟩ [c_ 60, c_ 61, c_ 31] (alc ⟨rfl, by decide⟩ (alc ⟨rfl, by decide⟩ aln)) nocal ?_
  refine .reg' [0, 3, 34] [] ⟨[(0, (.pt 0 0 3)), (3, (I (bAnd (bXor ((wrap64 ((wrap64 (a0.f2 * 6364136223846793005)) + 1442695040888963407)).fdiv (2 ^ 33)) ((wrap64 ((wrap64 (a0.f2 * 6364136223846793005)) + 1442695040888963407)).fdiv (2 ^ 45))) 255))), (34, (B (decide (a0.f1 < (a0.f0.length : Int)))))], [(0, [(.sl false a0.f0.length 1 (a0.f0.flatMap encU)), (I a0.f1), (I (wrap64 ((wrap64 (a0.f2 * 6364136223846793005)) + 1442695040888963407)))])], [3 = 3 ∧ 1 + 1 ≤ 3, 3 = 3 ∧ 0 + 1 ≤ 3], []⟩ [c_ 61, c_ 31] (alc ⟨rfl, by decide⟩ (alc ⟨rfl, by decide⟩ aln)) nocal ?_
  by_cases c1 : a0.f1 < (a0.f0.length : Int)
  · rw [if_pos c1] at h
    refine .cond' (.tmp 34) true [c_ 244, c_ 245, c_ 31] (bT (dT c1)) ?_
    by_cases c2 : 0 ≤ a0.f1
    · rw [if_pos c2] at h
      refine .reg' [0, 3] [.no, .no, .no, .no, .no, .no, .no, .no, .no, .no, .v (U (at_ a0.f0 a0.f1))] ⟨[(0, (.pt 0 0 3)), (3, (I (bAnd (wrap64 ((bAnd (bXor ((wrap64 ((wrap64 (a0.f2 * 6364136223846793005)) + 1442695040888963407)).fdiv (2 ^ 33)) ((wrap64 ((wrap64 (a0.f2 * 6364136223846793005)) + 1442695040888963407)).fdiv (2 ^ 45))) 255) + (IntKind.i64.wrap (at_ a0.f0 a0.f1)))) 255)))], [(0, [(.sl false a0.f0.length 1 (a0.f0.flatMap encU)), (I a0.f1), (I (wrap64 ((wrap64 (a0.f2 * 6364136223846793005)) + 1442695040888963407)))])], [3 = 3 ∧ 0 + 1 ≤ 3, 3 = 3 ∧ 1 + 1 ≤ 3, (0 : Int) ≤ a0.f1 ∧ a0.f1 < (a0.f0.length : Int), rdC prog 5 ((a0.f0.flatMap encU).drop (a0.f1.toNat * 1)) = (U (at_ a0.f0 a0.f1)), 1 ≤ ((a0.f0.flatMap encU).drop (a0.f1.toNat * 1)).length], []⟩ [c_ 245, c_ 31] (alc ⟨rfl, by decide⟩ (alc ⟨rfl, by decide⟩ (alc ⟨c2, c1⟩ (alc (ldC1 encU_ok rfl c2 c1) (alc (okI encU_ok c2 c1 (by decide)) aln))))) nocal ?_
      refine .reg' [3] [] ⟨[(3, (I (bAnd (wrap64 ((bAnd (bXor ((wrap64 ((wrap64 (a0.f2 * 6364136223846793005)) + 1442695040888963407)).fdiv (2 ^ 33)) ((wrap64 ((wrap64 (a0.f2 * 6364136223846793005)) + 1442695040888963407)).fdiv (2 ^ 45))) 255) + (IntKind.i64.wrap (at_ a0.f0 a0.f1)))) 255)))], [(0, [(.sl false a0.f0.length 1 (a0.f0.flatMap encU)), (I (wrap64 (a0.f1 + 1))), (I (wrap64 ((wrap64 (a0.f2 * 6364136223846793005)) + 1442695040888963407)))])], [3 = 3 ∧ 1 + 1 ≤ 3, 3 = 3 ∧ 1 + 1 ≤ 3], []⟩ [c_ 62, c_ 63] (alc ⟨rfl, by decide⟩ (alc ⟨rfl, by decide⟩ aln)) nocal ?_
      refine .reg' [2] [] ⟨[(2, (I (bAnd (wrap64 ((bAnd (bXor ((wrap64 ((wrap64 (a0.f2 * 6364136223846793005)) + 1442695040888963407)).fdiv (2 ^ 33)) ((wrap64 ((wrap64 (a0.f2 * 6364136223846793005)) + 1442695040888963407)).fdiv (2 ^ 45))) 255) + (IntKind.i64.wrap (at_ a0.f0 a0.f1)))) 255)))], [(0, [(.sl false a0.f0.length 1 (a0.f0.flatMap encU)), (I (wrap64 (a0.f1 + 1))), (I (wrap64 ((wrap64 (a0.f2 * 6364136223846793005)) + 1442695040888963407)))])], [], []⟩ [c_ 63] aln nocal ?_
      have h := Option.some.inj h
      subst h
      exact .fin' [] [(0, 0)] (I (bAnd (wrap64 ((bAnd (bXor ((wrap64 ((wrap64 (a0.f2 * 6364136223846793005)) + 1442695040888963407)).fdiv (2 ^ 33)) ((wrap64 ((wrap64 (a0.f2 * 6364136223846793005)) + 1442695040888963407)).fdiv (2 ^ 45))) 255) + (IntKind.i64.wrap (at_ a0.f0 a0.f1)))) 255)) [] aln (shc 0 (a2c (.z (frz_sl encU_ok (fun h => h))) (a2c (.z .s) (a2c (.z .s) a2n))) shn) (.z .s)
    · rw [if_neg c2] at h
      cases h
  · rw [if_neg c1] at h
    refine .cond' (.tmp 34) false [c_ 62, c_ 63] (bF (dF c1)) ?_
    refine .reg' [2] [] ⟨[(2, (I (bAnd (bXor ((wrap64 ((wrap64 (a0.f2 * 6364136223846793005)) + 1442695040888963407)).fdiv (2 ^ 33)) ((wrap64 ((wrap64 (a0.f2 * 6364136223846793005)) + 1442695040888963407)).fdiv (2 ^ 45))) 255)))], [(0, [(.sl false a0.f0.length 1 (a0.f0.flatMap encU)), (I a0.f1), (I (wrap64 ((wrap64 (a0.f2 * 6364136223846793005)) + 1442695040888963407)))])], [], []⟩ [c_ 63] aln nocal ?_
    have h := Option.some.inj h
    subst h
    exact .fin' [] [(0, 0)] (I (bAnd (bXor ((wrap64 ((wrap64 (a0.f2 * 6364136223846793005)) + 1442695040888963407)).fdiv (2 ^ 33)) ((wrap64 ((wrap64 (a0.f2 * 6364136223846793005)) + 1442695040888963407)).fdiv (2 ^ 45))) 255)) [] aln (shc 0 (a2c (.z (frz_sl encU_ok (fun h => h))) (a2c (.z .s) (a2c (.z .s) a2n))) shn) (.z .s)
/-! spec_l01Below: function 59 -/
def spec_l01Below.f (a0 : S68) (a1 : Int) : Option (Int × S68) := (if a1 ≤ 0 then (some (0, a0)) else (if a1 ≤ 256 then ((spec_l01Byte.f a0).bind fun x1 => (if a1 ≠ 0 then (some ((x1.1.tmod a1), x1.2)) else none)) else ((spec_l01Byte.f a0).bind fun x2 => ((spec_l01Byte.f x2.2).bind fun x3 => ((spec_l01Byte.f x3.2).bind fun x4 => (if a1 ≠ 0 then (some (((wrap64 ((wrap64 ((wrap64 (x2.1 * 65536)) + (wrap64 (x3.1 * 256)))) + x4.1)).tmod a1), x4.2)) else none))))))
theorem spec_l01Below.J (a0 : S68) (a1 : Int) (r : (Int × S68)) (h : spec_l01Below.f a0 a1 = some r) : J prog (.call 59 [(.pt 0 0 3), (I a1)] [(0, [(.sl false a0.f0.length 1 (a0.f0.flatMap encU)), (I a0.f1), (I a0.f2)])] (I r.1) [(0, [(.sl false r.2.f0.length 1 (r.2.f0.flatMap encU)), (I r.2.f1), (I r.2.f2)])]) := by
  unfold spec_l01Below.f at h
  refine .call' [c_ 2, c_ 3] ?_
  refine .reg' [0, 1] [] ⟨[(0, (.pt 0 0 3)), (1, (I a1))], [(0, [(.sl false a0.f0.length 1 (a0.f0.flatMap encU)), (I a0.f1), (I a0.f2)])], [], []⟩ [c_ 12, c_ 13, c_ 7] aln nocal ?_
  refine .reg' [0, 1, 9] [] ⟨[(0, (.pt 0 0 3)), (1, (I a1)), (9, (B (decide (a1 ≤ 0))))], [(0, [(.sl false a0.f0.length 1 (a0.f0.flatMap encU)), (I a0.f1), (I a0.f2)])], [], []⟩ [c_ 13, c_ 7] aln nocal ?_
  by_cases c1 : a1 ≤ 0
  · rw [if_pos c1] at h
    refine .cond' (.tmp 9) true [c_ 52, c_ 53, c_ 7] (bT (dT c1)) ?_
    refine .reg' [4] [] ⟨[(4, (I 0))], [(0, [(.sl false a0.f0.length 1 (a0.f0.flatMap encU)), (I a0.f1), (I a0.f2)])], [], []⟩ [c_ 53, c_ 7] aln nocal ?_
    have h := Option.some.inj h
    subst h
    exact .fin' [] [(0, 0)] (I 0) [] aln (shc 0 (a2c (.z (frz_sl encU_ok (fun h => h))) (a2c (.z .s) (a2c (.z .s) a2n))) shn) (.z .s)
  · rw [if_neg c1] at h
    refine .cond' (.tmp 9) false [c_ 28, c_ 29, c_ 15] (bF (dF c1)) ?_
    refine .reg' [0, 1, 11] [] ⟨[(0, (.pt 0 0 3)), (1, (I a1)), (11, (B (decide (a1 ≤ 256))))], [(0, [(.sl false a0.f0.length 1 (a0.f0.flatMap encU)), (I a0.f1), (I a0.f2)])], [], []⟩ [c_ 29, c_ 15] aln nocal ?_
    by_cases c2 : a1 ≤ 256
    · rw [if_pos c2] at h
      refine .cond' (.tmp 11) true [c_ 116, c_ 117, c_ 15] (bT (dT c2)) ?_
      obtain ⟨x1, hx1, h⟩ := Option.bind_eq_some_iff.mp h
      by_cases c3 : a1 ≠ 0
      · rw [if_pos c3] at h
        refine .reg' [4] [.no, .c ⟨61, [(.pt 0 0 3)], [(0, [(.sl false a0.f0.length 1 (a0.f0.flatMap encU)), (I a0.f1), (I a0.f2)])], (I x1.1), [(0, [(.sl false x1.2.f0.length 1 (x1.2.f0.flatMap encU)), (I x1.2.f1), (I x1.2.f2)])], [], [(0, 0)], [(0, 0)], (I x1.1), [(0, [(.sl false x1.2.f0.length 1 (x1.2.f0.flatMap encU)), (I x1.2.f1), (I x1.2.f2)])]⟩] ⟨[(4, (I (x1.1.tmod a1)))], [(0, [(.sl false x1.2.f0.length 1 (x1.2.f0.flatMap encU)), (I x1.2.f1), (I x1.2.f2)])], [COK (hget [(0, [(.sl false a0.f0.length 1 (a0.f0.flatMap encU)), (I a0.f1), (I a0.f2)])]) [(.pt 0 0 3)] ⟨61, [(.pt 0 0 3)], [(0, [(.sl false a0.f0.length 1 (a0.f0.flatMap encU)), (I a0.f1), (I a0.f2)])], (I x1.1), [(0, [(.sl false x1.2.f0.length 1 (x1.2.f0.flatMap encU)), (I x1.2.f1), (I x1.2.f2)])], [], [(0, 0)], [(0, 0)], (I x1.1), [(0, [(.sl false x1.2.f0.length 1 (x1.2.f0.flatMap encU)), (I x1.2.f1), (I x1.2.f2)])]⟩, a1 ≠ 0], [⟨61, [(.pt 0 0 3)], [(0, [(.sl false a0.f0.length 1 (a0.f0.flatMap encU)), (I a0.f1), (I a0.f2)])], (I x1.1), [(0, [(.sl false x1.2.f0.length 1 (x1.2.f0.flatMap encU)), (I x1.2.f1), (I x1.2.f2)])], [], [(0, 0)], [(0, 0)], (I x1.1), [(0, [(.sl false x1.2.f0.length 1 (x1.2.f0.flatMap encU)), (I x1.2.f1), (I x1.2.f2)])]⟩]⟩ [c_ 117, c_ 15] (alc (cokW false (a2c (.pt (memP_mem (p := (0, 0)) rfl)) a2n) (akc ⟨_, _, rfl, rfl, (a2c (.z (frz_sl encU_ok (fun h => h))) (a2c (.z .s) (a2c (.z .s) a2n)))⟩ akn) (akc (.inl rfl) akn) (.z .s) (akc ⟨_, _, rfl, rfl, (a2c (.z (clnS encU_c (fun h => absurd h (by decide)))) (a2c (.z .s) (a2c (.z .s) a2n)))⟩ akn) (fun h => absurd h (by decide))) (alc c3 aln)) (acal (spec_l01Byte.J a0 _ hx1) nocal) ?_
        have h := Option.some.inj h
        subst h
        exact .fin' [] [(0, 0)] (I (x1.1.tmod a1)) [] aln (shc 0 (a2c (.z (frz_sl encU_ok (fun h => h))) (a2c (.z .s) (a2c (.z .s) a2n))) shn) (.z .s)
      · rw [if_neg c3] at h
        cases h
    · rw [if_neg c2] at h
      refine .cond' (.tmp 11) false [c_ 30, c_ 31] (bF (dF c2)) ?_
      obtain ⟨x2, hx2, h⟩ := Option.bind_eq_some_iff.mp h
      refine .reg' [0, 1, 5] [.no, .c ⟨61, [(.pt 0 0 3)], [(0, [(.sl false a0.f0.length 1 (a0.f0.flatMap encU)), (I a0.f1), (I a0.f2)])], (I x2.1), [(0, [(.sl false x2.2.f0.length 1 (x2.2.f0.flatMap encU)), (I x2.2.f1), (I x2.2.f2)])], [], [(0, 0)], [(0, 0)], (I x2.1), [(0, [(.sl false x2.2.f0.length 1 (x2.2.f0.flatMap encU)), (I x2.2.f1), (I x2.2.f2)])]⟩] ⟨[(0, (.pt 0 0 3)), (1, (I a1)), (5, (I x2.1))], [(0, [(.sl false x2.2.f0.length 1 (x2.2.f0.flatMap encU)), (I x2.2.f1), (I x2.2.f2)])], [COK (hget [(0, [(.sl false a0.f0.length 1 (a0.f0.flatMap encU)), (I a0.f1), (I a0.f2)])]) [(.pt 0 0 3)] ⟨61, [(.pt 0 0 3)], [(0, [(.sl false a0.f0.length 1 (a0.f0.flatMap encU)), (I a0.f1), (I a0.f2)])], (I x2.1), [(0, [(.sl false x2.2.f0.length 1 (x2.2.f0.flatMap encU)), (I x2.2.f1), (I x2.2.f2)])], [], [(0, 0)], [(0, 0)], (I x2.1), [(0, [(.sl false x2.2.f0.length 1 (x2.2.f0.flatMap encU)), (I x2.2.f1), (I x2.2.f2)])]⟩], [⟨61, [(.pt 0 0 3)], [(0, [(.sl false a0.f0.length 1 (a0.f0.flatMap encU)), (I a0.f1), (I a0.f2)])], (I x2.1), [(0, [(.sl false x2.2.f0.length 1 (x2.2.f0.flatMap encU)), (I x2.2.f1), (I x2.2.f2)])], [], [(0, 0)], [(0, 0)], (I x2.1), [(0, [(.sl false x2.2.f0.length 1 (x2.2.f0.flatMap encU)), (I x2.2.f1), (I x2.2.f2)])]⟩]⟩ [c_ 62, c_ 63] (alc (cokW false (a2c (.pt (memP_mem (p := (0, 0)) rfl)) a2n) (akc ⟨_, _, rfl, rfl, (a2c (.z (frz_sl encU_ok (fun h => h))) (a2c (.z .s) (a2c (.z .s) a2n)))⟩ akn) (akc (.inl rfl) akn) (.z .s) (akc ⟨_, _, rfl, rfl, (a2c (.z (clnS encU_c (fun h => absurd h (by decide)))) (a2c (.z .s) (a2c (.z .s) a2n)))⟩ akn) (fun h => absurd h (by decide))) aln) (acal (spec_l01Byte.J a0 _ hx2) nocal) ?_
      obtain ⟨x3, hx3, h⟩ := Option.bind_eq_some_iff.mp h
      refine .reg' [0, 1, 5, 6] [.no, .c ⟨61, [(.pt 0 0 3)], [(0, [(.sl false x2.2.f0.length 1 (x2.2.f0.flatMap encU)), (I x2.2.f1), (I x2.2.f2)])], (I x3.1), [(0, [(.sl false x3.2.f0.length 1 (x3.2.f0.flatMap encU)), (I x3.2.f1), (I x3.2.f2)])], [], [(0, 0)], [(0, 0)], (I x3.1), [(0, [(.sl false x3.2.f0.length 1 (x3.2.f0.flatMap encU)), (I x3.2.f1), (I x3.2.f2)])]⟩] ⟨[(0, (.pt 0 0 3)), (1, (I a1)), (5, (I x2.1)), (6, (I x3.1))], [(0, [(.sl false x3.2.f0.length 1 (x3.2.f0.flatMap encU)), (I x3.2.f1), (I x3.2.f2)])], [COK (hget [(0, [(.sl false x2.2.f0.length 1 (x2.2.f0.flatMap encU)), (I x2.2.f1), (I x2.2.f2)])]) [(.pt 0 0 3)] ⟨61, [(.pt 0 0 3)], [(0, [(.sl false x2.2.f0.length 1 (x2.2.f0.flatMap encU)), (I x2.2.f1), (I x2.2.f2)])], (I x3.1), [(0, [(.sl false x3.2.f0.length 1 (x3.2.f0.flatMap encU)), (I x3.2.f1), (I x3.2.f2)])], [], [(0, 0)], [(0, 0)], (I x3.1), [(0, [(.sl false x3.2.f0.length 1 (x3.2.f0.flatMap encU)), (I x3.2.f1), (I x3.2.f2)])]⟩], [⟨61, [(.pt 0 0 3)], [(0, [(.sl false x2.2.f0.length 1 (x2.2.f0.flatMap encU)), (I x2.2.f1), (I x2.2.f2)])], (I x3.1), [(0, [(.sl false x3.2.f0.length 1 (x3.2.f0.flatMap encU)), (I x3.2.f1), (I x3.2.f2)])], [], [(0, 0)], [(0, 0)], (I x3.1), [(0, [(.sl false x3.2.f0.length 1 (x3.2.f0.flatMap encU)), (I x3.2.f1), (I x3.2.f2)])]⟩]⟩ [c_ 126, c_ 127] (alc (cokW false (a2c (.pt (memP_mem (p := (0, 0)) rfl)) a2n) (akc ⟨_, _, rfl, rfl, (a2c (.z (frz_sl encU_ok (fun h => h))) (a2c (.z .s) (a2c (.z .s) a2n)))⟩ akn) (akc (.inl rfl) akn) (.z .s) (akc ⟨_, _, rfl, rfl, (a2c (.z (clnS encU_c (fun h => absurd h (by decide)))) (a2c (.z .s) (a2c (.z .s) a2n)))⟩ akn) (fun h => absurd h (by decide))) aln) (acal (spec_l01Byte.J x2.2 _ hx3) nocal) ?_
      obtain ⟨x4, hx4, h⟩ := Option.bind_eq_some_iff.mp h
      refine .reg' [1, 5, 6, 7] [.no, .c ⟨61, [(.pt 0 0 3)], [(0, [(.sl false x3.2.f0.length 1 (x3.2.f0.flatMap encU)), (I x3.2.f1), (I x3.2.f2)])], (I x4.1), [(0, [(.sl false x4.2.f0.length 1 (x4.2.f0.flatMap encU)), (I x4.2.f1), (I x4.2.f2)])], [], [(0, 0)], [(0, 0)], (I x4.1), [(0, [(.sl false x4.2.f0.length 1 (x4.2.f0.flatMap encU)), (I x4.2.f1), (I x4.2.f2)])]⟩] ⟨[(1, (I a1)), (5, (I x2.1)), (6, (I x3.1)), (7, (I x4.1))], [(0, [(.sl false x4.2.f0.length 1 (x4.2.f0.flatMap encU)), (I x4.2.f1), (I x4.2.f2)])], [COK (hget [(0, [(.sl false x3.2.f0.length 1 (x3.2.f0.flatMap encU)), (I x3.2.f1), (I x3.2.f2)])]) [(.pt 0 0 3)] ⟨61, [(.pt 0 0 3)], [(0, [(.sl false x3.2.f0.length 1 (x3.2.f0.flatMap encU)), (I x3.2.f1), (I x3.2.f2)])], (I x4.1), [(0, [(.sl false x4.2.f0.length 1 (x4.2.f0.flatMap encU)), (I x4.2.f1), (I x4.2.f2)])], [], [(0, 0)], [(0, 0)], (I x4.1), [(0, [(.sl false x4.2.f0.length 1 (x4.2.f0.flatMap encU)), (I x4.2.f1), (I x4.2.f2)])]⟩], [⟨61, [(.pt 0 0 3)], [(0, [(.sl false x3.2.f0.length 1 (x3.2.f0.flatMap encU)), (I x3.2.f1), (I x3.2.f2)])], (I x4.1), [(0, [(.sl false x4.2.f0.length 1 (x4.2.f0.flatMap encU)), (I x4.2.f1), (I x4.2.f2)])], [], [(0, 0)], [(0, 0)], (I x4.1), [(0, [(.sl false x4.2.f0.length 1 (x4.2.f0.flatMap encU)), (I x4.2.f1), (I x4.2.f2)])]⟩]⟩ [c_ 254, c_ 255] (alc (cokW false (a2c (.pt (memP_mem (p := (0, 0)) rfl)) a2n) (akc ⟨_, _, rfl, rfl, (a2c (.z (frz_sl encU_ok (fun h => h))) (a2c (.z .s) (a2c (.z .s) a2n)))⟩ akn) (akc (.inl rfl) akn) (.z .s) (akc ⟨_, _, rfl, rfl, (a2c (.z (clnS encU_c (fun h => absurd h (by decide)))) (a2c (.z .s) (a2c (.z .s) a2n)))⟩ akn) (fun h => absurd h (by decide))) aln) (acal (spec_l01Byte.J x3.2 _ hx4) nocal) ?_
      by_cases c4 : a1 ≠ 0
      · rw [if_pos c4] at h
        refine .reg' [4] [] ⟨[(4, (I ((wrap64 ((wrap64 ((wrap64 (x2.1 * 65536)) + (wrap64 (x3.1 * 256)))) + x4.1)).tmod a1)))], [(0, [(.sl false x4.2.f0.length 1 (x4.2.f0.flatMap encU)), (I x4.2.f1), (I x4.2.f2)])], [a1 ≠ 0], []⟩ [c_ 255] (alc c4 aln) nocal ?_
        have h := Option.some.inj h
        subst h
        exact .fin' [] [(0, 0)] (I ((wrap64 ((wrap64 ((wrap64 (x2.1 * 65536)) + (wrap64 (x3.1 * 256)))) + x4.1)).tmod a1)) [] aln (shc 0 (a2c (.z (frz_sl encU_ok (fun h => h))) (a2c (.z .s) (a2c (.z .s) a2n))) shn) (.z .s)
      · rw [if_neg c4] at h
        cases h
/-! spec_l07DrawLine: function 55 -/
def spec_l07DrawLine.l0 : Nat → S68 → (List Int) → Int → Option ((List Int) × S68)
 | 0, _, _, _ => none
 | k + 1, x2, x3, x4 => (if x4 > 0 then ((spec_l01Below.f x2 3).bind fun x5 => (if (x3.length + ([(wrap64 (1 + x5.1))] : List Int).length) * 8 ≤ 70368744177664 then (spec_l07DrawLine.l0 k x5.2 (x3 ++ ([(wrap64 (1 + x5.1))] : List Int)) (wrap64 (x4 - 1))) else none)) else (some (x3, x2)))
def spec_l07DrawLine.f (k : Nat) (a0 : S68) : Option ((List Int) × S68) := ((spec_l01Below.f a0 4).bind fun x1 => (spec_l07DrawLine.l0 k x1.2 ([] : List Int) (wrap64 (2 + x1.1))))
theorem spec_l07DrawLine.lab : ∀ k, (∀ (x2 : S68) (x3 : (List Int)) (x4 : Int) (r : ((List Int) × S68)), spec_l07DrawLine.l0 k x2 x3 x4 = some r → J prog (.run 55 [0] [l_ 58, b_ 0, c_ 15] [(0, (.pt 0 0 3)), (3, (.rf 512 0 x3.length 1 (x3.length * 1))), (4, (I x4))] [(0, [(.sl false x2.f0.length 1 (x2.f0.flatMap encU)), (I x2.f1), (I x2.f2)]), (512, (x3.flatMap encI))] (.rf 512 0 r.1.length 1 (r.1.length * 1)) [(0, [(.sl false r.2.f0.length 1 (r.2.f0.flatMap encU)), (I r.2.f1), (I r.2.f2)]), (512, (r.1.flatMap encI))]))
 | 0 => (by intro x2 x3 x4 r h; unfold spec_l07DrawLine.l0 at h; cases h)
 | k + 1 => by
  have ih0 := spec_l07DrawLine.lab k
  · intro x2 x3 x4 r h
    unfold spec_l07DrawLine.l0 at h
    refine .loop' [c_ 464, c_ 465, c_ 233, l_ 58, b_ 0, c_ 15] ?_
    refine .reg' [0, 3, 4, 10] [] ⟨[(0, (.pt 0 0 3)), (3, (.rf 512 0 x3.length 1 (x3.length * 1))), (4, (I x4)), (10, (B (decide (x4 > 0))))], [(0, [(.sl false x2.f0.length 1 (x2.f0.flatMap encU)), (I x2.f1), (I x2.f2)]), (512, (x3.flatMap encI))], [], []⟩ [c_ 465, c_ 233, l_ 58, b_ 0, c_ 15] aln nocal ?_
    by_cases c1 : x4 > 0
    · rw [if_pos c1] at h
      refine .cond' (.tmp 10) true [c_ 932, b_ 1, c_ 467, l_ 58, b_ 0, c_ 15] (bT (dT c1)) ?_
      obtain ⟨x5, hx5, h⟩ := Option.bind_eq_some_iff.mp h
      by_cases c2 : (x3.length + ([(wrap64 (1 + x5.1))] : List Int).length) * 8 ≤ 70368744177664
      · rw [if_pos c2] at h
        refine .reg' [0, 3, 4] [.no, .no, .c ⟨59, [(.pt 0 0 3), (I 3)], [(0, [(.sl false x2.f0.length 1 (x2.f0.flatMap encU)), (I x2.f1), (I x2.f2)])], (I x5.1), [(0, [(.sl false x5.2.f0.length 1 (x5.2.f0.flatMap encU)), (I x5.2.f1), (I x5.2.f2)])], [], [(0, 0)], [(0, 0)], (I x5.1), [(0, [(.sl false x5.2.f0.length 1 (x5.2.f0.flatMap encU)), (I x5.2.f1), (I x5.2.f2)])]⟩, .no, .no, .w (.rf 512 0 ((x3 ++ ([(wrap64 (1 + x5.1))] : List Int)).length) 1 ((x3 ++ ([(wrap64 (1 + x5.1))] : List Int)).length * 1)) ((x3 ++ ([(wrap64 (1 + x5.1))] : List Int)).flatMap encI)] ⟨[(0, (.pt 0 0 3)), (3, (.rf 512 0 ((x3 ++ ([(wrap64 (1 + x5.1))] : List Int)).length) 1 ((x3 ++ ([(wrap64 (1 + x5.1))] : List Int)).length * 1))), (4, (I x4))], [(0, [(.sl false x5.2.f0.length 1 (x5.2.f0.flatMap encU)), (I x5.2.f1), (I x5.2.f2)]), (512, ((x3 ++ ([(wrap64 (1 + x5.1))] : List Int)).flatMap encI)), (1540, (([(wrap64 (1 + x5.1))] : List Int).flatMap encI))], [COK (hget [(0, [(.sl false x2.f0.length 1 (x2.f0.flatMap encU)), (I x2.f1), (I x2.f2)]), (512, (x3.flatMap encI))]) [(.pt 0 0 3), (I 3)] ⟨59, [(.pt 0 0 3), (I 3)], [(0, [(.sl false x2.f0.length 1 (x2.f0.flatMap encU)), (I x2.f1), (I x2.f2)])], (I x5.1), [(0, [(.sl false x5.2.f0.length 1 (x5.2.f0.flatMap encU)), (I x5.2.f1), (I x5.2.f2)])], [], [(0, 0)], [(0, 0)], (I x5.1), [(0, [(.sl false x5.2.f0.length 1 (x5.2.f0.flatMap encU)), (I x5.2.f1), (I x5.2.f2)])]⟩, V.rf 512 0 (x3.length + ([(wrap64 (1 + x5.1))] : List Int).length) 1 (x3.length * 1 + ([(wrap64 (1 + x5.1))] : List Int).length * 1) = (.rf 512 0 ((x3 ++ ([(wrap64 (1 + x5.1))] : List Int)).length) 1 ((x3 ++ ([(wrap64 (1 + x5.1))] : List Int)).length * 1)), x3.flatMap encI ++ (((([(wrap64 (1 + x5.1))] : List Int).flatMap encI).drop 0).take (([(wrap64 (1 + x5.1))] : List Int).length * 1)) = ((x3 ++ ([(wrap64 (1 + x5.1))] : List Int)).flatMap encI), (([(wrap64 (1 + x5.1))] : List Int).length * 1 = (([(wrap64 (1 + x5.1))] : List Int).flatMap encI).length ∧ 0 + ([(wrap64 (1 + x5.1))] : List Int).length * 1 ≤ (([(wrap64 (1 + x5.1))] : List Int).flatMap encI).length) ∧ x3.length * 1 = (x3.flatMap encI).length ∧ x3.length * 1 = (x3.flatMap encI).length ∧ (x3.length + ([(wrap64 (1 + x5.1))] : List Int).length) * 8 ≤ 70368744177664], [⟨59, [(.pt 0 0 3), (I 3)], [(0, [(.sl false x2.f0.length 1 (x2.f0.flatMap encU)), (I x2.f1), (I x2.f2)])], (I x5.1), [(0, [(.sl false x5.2.f0.length 1 (x5.2.f0.flatMap encU)), (I x5.2.f1), (I x5.2.f2)])], [], [(0, 0)], [(0, 0)], (I x5.1), [(0, [(.sl false x5.2.f0.length 1 (x5.2.f0.flatMap encU)), (I x5.2.f1), (I x5.2.f2)])]⟩]⟩ [c_ 467, l_ 58, b_ 0, c_ 15] (alc (cokW false (a2c (.pt (memP_mem (p := (0, 0)) rfl)) (a2c (.z .s) a2n)) (akc ⟨_, _, rfl, rfl, (a2c (.z (frz_sl encU_ok (fun h => h))) (a2c (.z .s) (a2c (.z .s) a2n)))⟩ akn) (akc (.inl rfl) akn) (.z .s) (akc ⟨_, _, rfl, rfl, (a2c (.z (clnS encU_c (fun h => absurd h (by decide)))) (a2c (.z .s) (a2c (.z .s) a2n)))⟩ akn) (fun h => absurd h (by decide))) (alc (apV rfl) (alc (apR encI_ok rfl) (alc (apO encI_ok rfl c2 rfl) aln)))) (acal (spec_l01Below.J x2 3 _ hx5) nocal) ?_
        refine .reg' [0, 3, 4] [] ⟨[(0, (.pt 0 0 3)), (3, (.rf 512 0 ((x3 ++ ([(wrap64 (1 + x5.1))] : List Int)).length) 1 ((x3 ++ ([(wrap64 (1 + x5.1))] : List Int)).length * 1))), (4, (I (wrap64 (x4 - 1))))], [(0, [(.sl false x5.2.f0.length 1 (x5.2.f0.flatMap encU)), (I x5.2.f1), (I x5.2.f2)]), (512, ((x3 ++ ([(wrap64 (1 + x5.1))] : List Int)).flatMap encI)), (1540, (([(wrap64 (1 + x5.1))] : List Int).flatMap encI))], [], []⟩ [l_ 58, b_ 0, c_ 15] aln nocal ?_
        refine .wk' [] [(0, 0), (512, 512)] [(0, (.pt 0 0 3)), (3, (.rf 512 0 ((x3 ++ ([(wrap64 (1 + x5.1))] : List Int)).length) 1 ((x3 ++ ([(wrap64 (1 + x5.1))] : List Int)).length * 1))), (4, (I (wrap64 (x4 - 1))))] [(0, [(.sl false x5.2.f0.length 1 (x5.2.f0.flatMap encU)), (I x5.2.f1), (I x5.2.f2)]), (512, ((x3 ++ ([(wrap64 (1 + x5.1))] : List Int)).flatMap encI))] (shc 0 (a2c (.z (frz_sl encU_ok (fun h => h))) (a2c (.z .s) (a2c (.z .s) a2n))) (shc 512 (rowF encI_ok _) shn)) (enc_ (.pt (memP_mem (p := (0, 0)) rfl)) (enc_ (.rf (memP_mem (p := (512, 512)) rfl)) (enc_ (.z .s) enn))) ?_
        exact ih0 x5.2 (x3 ++ ([(wrap64 (1 + x5.1))] : List Int)) (wrap64 (x4 - 1)) _ h
      · rw [if_neg c2] at h
        cases h
    · rw [if_neg c1] at h
      refine .cond' (.tmp 10) false [c_ 30, c_ 31] (bF (dF c1)) ?_
      refine .reg' [2] [] ⟨[(2, (.rf 512 0 x3.length 1 (x3.length * 1)))], [(0, [(.sl false x2.f0.length 1 (x2.f0.flatMap encU)), (I x2.f1), (I x2.f2)]), (512, (x3.flatMap encI))], [], []⟩ [c_ 31] aln nocal ?_
      have h := Option.some.inj h
      subst h
      exact .fin' [] [(0, 0), (512, 512)] (.rf 512 0 x3.length 1 (x3.length * 1)) [] aln (shc 0 (a2c (.z (frz_sl encU_ok (fun h => h))) (a2c (.z .s) (a2c (.z .s) a2n))) (shc 512 (rowF encI_ok _) shn)) (.rf (memP_mem (p := (512, 512)) rfl))
theorem spec_l07DrawLine.J (k : Nat) (a0 : S68) (r : ((List Int) × S68)) (h : spec_l07DrawLine.f k a0 = some r) : J prog (.call 55 [(.pt 0 0 3)] [(0, [(.sl false a0.f0.length 1 (a0.f0.flatMap encU)), (I a0.f1), (I a0.f2)])] (.rf 512 0 r.1.length 1 (r.1.length * 1)) [(0, [(.sl false r.2.f0.length 1 (r.2.f0.flatMap encU)), (I r.2.f1), (I r.2.f2)]), (512, (r.1.flatMap encI))]) := by
  unfold spec_l07DrawLine.f at h
  have ih0 := spec_l07DrawLine.lab k
  refine .call' [c_ 2, c_ 3] ?_
  refine .reg' [0] [] ⟨[(0, (.pt 0 0 3))], [(0, [(.sl false a0.f0.length 1 (a0.f0.flatMap encU)), (I a0.f1), (I a0.f2)])], [], []⟩ [c_ 6, c_ 7] aln nocal ?_
  refine .reg' [0, 3] [] ⟨[(0, (.pt 0 0 3)), (3, (.rf 512 0 (([] : List Int).length) 1 (([] : List Int).length * 1)))], [(0, [(.sl false a0.f0.length 1 (a0.f0.flatMap encU)), (I a0.f1), (I a0.f2)]), (512, (([] : List Int).flatMap encI))], [], []⟩ [c_ 28, c_ 29, c_ 15] aln nocal ?_
  obtain ⟨x1, hx1, h⟩ := Option.bind_eq_some_iff.mp h
  refine .reg' [0, 3, 4] [.no, .c ⟨59, [(.pt 0 0 3), (I 4)], [(0, [(.sl false a0.f0.length 1 (a0.f0.flatMap encU)), (I a0.f1), (I a0.f2)])], (I x1.1), [(0, [(.sl false x1.2.f0.length 1 (x1.2.f0.flatMap encU)), (I x1.2.f1), (I x1.2.f2)])], [], [(0, 0)], [(0, 0)], (I x1.1), [(0, [(.sl false x1.2.f0.length 1 (x1.2.f0.flatMap encU)), (I x1.2.f1), (I x1.2.f2)])]⟩] ⟨[(0, (.pt 0 0 3)), (3, (.rf 512 0 (([] : List Int).length) 1 (([] : List Int).length * 1))), (4, (I (wrap64 (2 + x1.1))))], [(0, [(.sl false x1.2.f0.length 1 (x1.2.f0.flatMap encU)), (I x1.2.f1), (I x1.2.f2)]), (512, (([] : List Int).flatMap encI))], [COK (hget [(0, [(.sl false a0.f0.length 1 (a0.f0.flatMap encU)), (I a0.f1), (I a0.f2)]), (512, (([] : List Int).flatMap encI))]) [(.pt 0 0 3), (I 4)] ⟨59, [(.pt 0 0 3), (I 4)], [(0, [(.sl false a0.f0.length 1 (a0.f0.flatMap encU)), (I a0.f1), (I a0.f2)])], (I x1.1), [(0, [(.sl false x1.2.f0.length 1 (x1.2.f0.flatMap encU)), (I x1.2.f1), (I x1.2.f2)])], [], [(0, 0)], [(0, 0)], (I x1.1), [(0, [(.sl false x1.2.f0.length 1 (x1.2.f0.flatMap encU)), (I x1.2.f1), (I x1.2.f2)])]⟩], [⟨59, [(.pt 0 0 3), (I 4)], [(0, [(.sl false a0.f0.length 1 (a0.f0.flatMap encU)), (I a0.f1), (I a0.f2)])], (I x1.1), [(0, [(.sl false x1.2.f0.length 1 (x1.2.f0.flatMap encU)), (I x1.2.f1), (I x1.2.f2)])], [], [(0, 0)], [(0, 0)], (I x1.1), [(0, [(.sl false x1.2.f0.length 1 (x1.2.f0.flatMap encU)), (I x1.2.f1), (I x1.2.f2)])]⟩]⟩ [l_ 58, b_ 0, c_ 15] (alc (cokW false (a2c (.pt (memP_mem (p := (0, 0)) rfl)) (a2c (.z .s) a2n)) (akc ⟨_, _, rfl, rfl, (a2c (.z (frz_sl encU_ok (fun h => h))) (a2c (.z .s) (a2c (.z .s) a2n)))⟩ akn) (akc (.inl rfl) akn) (.z .s) (akc ⟨_, _, rfl, rfl, (a2c (.z (clnS encU_c (fun h => absurd h (by decide)))) (a2c (.z .s) (a2c (.z .s) a2n)))⟩ akn) (fun h => absurd h (by decide))) aln) (acal (spec_l01Below.J a0 4 _ hx1) nocal) ?_
  exact ih0 x1.2 ([] : List Int) (wrap64 (2 + x1.1)) _ h
/-! spec_l01PickInt: function 60 -/
def spec_l01PickInt.f (a0 : S68) (a1 : (List Int)) : Option (Int × S68) := ((spec_l01Below.f a0 (a1.length : Int)).bind fun x1 => (if 0 ≤ x1.1 then (if x1.1 < (a1.length : Int) then (some ((at_ a1 x1.1), x1.2)) else none) else none))
theorem spec_l01PickInt.J (a0 : S68) (a1 : (List Int)) (r : (Int × S68)) (h : spec_l01PickInt.f a0 a1 = some r) : J prog (.call 60 [(.pt 0 0 3), (.sl true a1.length 1 (a1.flatMap encI))] [(0, [(.sl false a0.f0.length 1 (a0.f0.flatMap encU)), (I a0.f1), (I a0.f2)])] (I r.1) [(0, [(.sl false r.2.f0.length 1 (r.2.f0.flatMap encU)), (I r.2.f1), (I r.2.f2)])]) := by
  unfold spec_l01PickInt.f at h
  refine .call' [c_ 2, c_ 3] ?_
  refine .reg' [0, 1] [] ⟨[(0, (.pt 0 0 3)), (1, (.sl true a1.length 1 (a1.flatMap encI)))], [(0, [(.sl false a0.f0.length 1 (a0.f0.flatMap encU)), (I a0.f1), (I a0.f2)])], [], []⟩ [c_ 6, c_ 7] aln nocal ?_
  obtain ⟨x1, hx1, h⟩ := Option.bind_eq_some_iff.mp h
  by_cases c1 : 0 ≤ x1.1
  · rw [if_pos c1] at h
    by_cases c2 : x1.1 < (a1.length : Int)
    · rw [if_pos c2] at h
      refine .reg' [4] [.no, .no, .no, .no, .c ⟨59, [(.pt 0 0 3), (I (a1.length : Int))], [(0, [(.sl false a0.f0.length 1 (a0.f0.flatMap encU)), (I a0.f1), (I a0.f2)])], (I x1.1), [(0, [(.sl false x1.2.f0.length 1 (x1.2.f0.flatMap encU)), (I x1.2.f1), (I x1.2.f2)])], [], [(0, 0)], [(0, 0)], (I x1.1), [(0, [(.sl false x1.2.f0.length 1 (x1.2.f0.flatMap encU)), (I x1.2.f1), (I x1.2.f2)])]⟩, .no, .v (I (at_ a1 x1.1))] ⟨[(4, (I (at_ a1 x1.1)))], [(0, [(.sl false x1.2.f0.length 1 (x1.2.f0.flatMap encU)), (I x1.2.f1), (I x1.2.f2)])], [COK (hget [(0, [(.sl false a0.f0.length 1 (a0.f0.flatMap encU)), (I a0.f1), (I a0.f2)])]) [(.pt 0 0 3), (I (a1.length : Int))] ⟨59, [(.pt 0 0 3), (I (a1.length : Int))], [(0, [(.sl false a0.f0.length 1 (a0.f0.flatMap encU)), (I a0.f1), (I a0.f2)])], (I x1.1), [(0, [(.sl false x1.2.f0.length 1 (x1.2.f0.flatMap encU)), (I x1.2.f1), (I x1.2.f2)])], [], [(0, 0)], [(0, 0)], (I x1.1), [(0, [(.sl false x1.2.f0.length 1 (x1.2.f0.flatMap encU)), (I x1.2.f1), (I x1.2.f2)])]⟩, (0 : Int) ≤ x1.1 ∧ x1.1 < (a1.length : Int), rdC prog 3 ((a1.flatMap encI).drop (x1.1.toNat * 1)) = (I (at_ a1 x1.1)), 1 ≤ ((a1.flatMap encI).drop (x1.1.toNat * 1)).length], [⟨59, [(.pt 0 0 3), (I (a1.length : Int))], [(0, [(.sl false a0.f0.length 1 (a0.f0.flatMap encU)), (I a0.f1), (I a0.f2)])], (I x1.1), [(0, [(.sl false x1.2.f0.length 1 (x1.2.f0.flatMap encU)), (I x1.2.f1), (I x1.2.f2)])], [], [(0, 0)], [(0, 0)], (I x1.1), [(0, [(.sl false x1.2.f0.length 1 (x1.2.f0.flatMap encU)), (I x1.2.f1), (I x1.2.f2)])]⟩]⟩ [c_ 7] (alc (cokW false (a2c (.pt (memP_mem (p := (0, 0)) rfl)) (a2c (.z .s) a2n)) (akc ⟨_, _, rfl, rfl, (a2c (.z (frz_sl encU_ok (fun h => h))) (a2c (.z .s) (a2c (.z .s) a2n)))⟩ akn) (akc (.inl rfl) akn) (.z .s) (akc ⟨_, _, rfl, rfl, (a2c (.z (clnS encU_c (fun h => absurd h (by decide)))) (a2c (.z .s) (a2c (.z .s) a2n)))⟩ akn) (fun h => absurd h (by decide))) (alc ⟨c1, c2⟩ (alc (ldC1 encI_ok rfl c1 c2) (alc (okI encI_ok c1 c2 (by decide)) aln)))) (acal (spec_l01Below.J a0 (a1.length : Int) _ hx1) nocal) ?_
      have h := Option.some.inj h
      subst h
      exact .fin' [] [(0, 0)] (I (at_ a1 x1.1)) [] aln (shc 0 (a2c (.z (frz_sl encU_ok (fun h => h))) (a2c (.z .s) (a2c (.z .s) a2n))) shn) (.z .s)
    · rw [if_neg c2] at h
      cases h
  · rw [if_neg c1] at h
    cases h
/-! spec_l07At: function 39 -/
def spec_l07At.l0 : Nat → (List S44) → Int → Int → Int → Option Int
 | 0, _, _, _, _ => none
 | k + 1, a0, a1, x1, x2 => (if x2 < (a0.length : Int) then (if 0 ≤ x2 then (if (at_ a0 x2).f0 = a1 then (spec_l07At.l0 k a0 a1 (wrap64 (x1 + 1)) (wrap64 (x2 + 1))) else (spec_l07At.l0 k a0 a1 x1 (wrap64 (x2 + 1)))) else none) else (some x1))
def spec_l07At.f (k : Nat) (a0 : (List S44)) (a1 : Int) : Option Int := (spec_l07At.l0 k a0 a1 0 0)
theorem spec_l07At.lab : ∀ k, (∀ (a0 : (List S44)) (a1 : Int) (x1 : Int) (x2 : Int) (r : Int), spec_l07At.l0 k a0 a1 x1 x2 = some r → J prog (.run 39 [] [l_ 58, b_ 0, c_ 15] [(0, (.sl true a0.length 2 (a0.flatMap e44))), (1, (I a1)), (5, (I x1)), (6, (I x2))] [] (I r) []))
 | 0 => (by intro a0 a1 x1 x2 r h; unfold spec_l07At.l0 at h; cases h)
 | k + 1 => by
  have ih0 := spec_l07At.lab k
  · intro a0 a1 x1 x2 r h
    unfold spec_l07At.l0 at h
    refine .loop' [c_ 464, c_ 465, c_ 233, l_ 58, b_ 0, c_ 15] ?_
    refine .reg' [0, 1, 5, 6, 10] [] ⟨[(0, (.sl true a0.length 2 (a0.flatMap e44))), (1, (I a1)), (5, (I x1)), (6, (I x2)), (10, (B (decide (x2 < (a0.length : Int)))))], [], [], []⟩ [c_ 465, c_ 233, l_ 58, b_ 0, c_ 15] aln nocal ?_
    by_cases c1 : x2 < (a0.length : Int)
    · rw [if_pos c1] at h
      refine .cond' (.tmp 10) true [c_ 1864, c_ 1865, b_ 1, c_ 467, l_ 58, b_ 0, c_ 15] (bT (dT c1)) ?_
      by_cases c2 : 0 ≤ x2
      · rw [if_pos c2] at h
        refine .reg' [0, 1, 5, 6, 19] [.no, .no, .no, .no, .v (I (at_ a0 x2).f0)] ⟨[(0, (.sl true a0.length 2 (a0.flatMap e44))), (1, (I a1)), (5, (I x1)), (6, (I x2)), (19, (B ((at_ a0 x2).f0 == a1)))], [], [(0 : Int) ≤ x2 ∧ x2 < (a0.length : Int), rdC prog 3 (((a0.flatMap e44).drop (x2.toNat * 2)).drop 0) = (I (at_ a0 x2).f0), 1 ≤ (((a0.flatMap e44).drop (x2.toNat * 2)).drop 0).length], []⟩ [c_ 1865, b_ 1, c_ 467, l_ 58, b_ 0, c_ 15] (alc ⟨c2, c1⟩ (alc (ldC e44_ok 0 (by decide) rfl c2 c1) (alc (okIj e44_ok c2 c1 (by decide)) aln))) nocal ?_
        by_cases c3 : (at_ a0 x2).f0 = a1
        · rw [if_pos c3] at h
          refine .cond' (.tmp 19) true [c_ 3730, b_ 1, c_ 467, l_ 58, b_ 0, c_ 15] (bT (qT c3)) ?_
          refine .reg' [0, 1, 5, 6] [] ⟨[(0, (.sl true a0.length 2 (a0.flatMap e44))), (1, (I a1)), (5, (I (wrap64 (x1 + 1)))), (6, (I x2))], [], [], []⟩ [c_ 467, l_ 58, b_ 0, c_ 15] aln nocal ?_
          refine .reg' [0, 1, 5, 6] [] ⟨[(0, (.sl true a0.length 2 (a0.flatMap e44))), (1, (I a1)), (5, (I (wrap64 (x1 + 1)))), (6, (I (wrap64 (x2 + 1))))], [], [], []⟩ [l_ 58, b_ 0, c_ 15] aln nocal ?_
          exact ih0 a0 a1 (wrap64 (x1 + 1)) (wrap64 (x2 + 1)) _ h
        · rw [if_neg c3] at h
          refine .cond' (.tmp 19) false [c_ 467, l_ 58, b_ 0, c_ 15] (bF (qF c3)) ?_
          refine .reg' [0, 1, 5, 6] [] ⟨[(0, (.sl true a0.length 2 (a0.flatMap e44))), (1, (I a1)), (5, (I x1)), (6, (I (wrap64 (x2 + 1))))], [], [], []⟩ [l_ 58, b_ 0, c_ 15] aln nocal ?_
          exact ih0 a0 a1 x1 (wrap64 (x2 + 1)) _ h
      · rw [if_neg c2] at h
        cases h
    · rw [if_neg c1] at h
      refine .cond' (.tmp 10) false [c_ 30, c_ 31] (bF (dF c1)) ?_
      refine .reg' [4] [] ⟨[(4, (I x1))], [], [], []⟩ [c_ 31] aln nocal ?_
      have h := Option.some.inj h
      subst h
      exact .fin0 [] (I x1) [] aln (.z .s)
theorem spec_l07At.J (k : Nat) (a0 : (List S44)) (a1 : Int) (r : Int) (h : spec_l07At.f k a0 a1 = some r) : J prog (.call 39 [(.sl true a0.length 2 (a0.flatMap e44)), (I a1)] [] (I r) []) := by
  unfold spec_l07At.f at h
  have ih0 := spec_l07At.lab k
  refine .call' [c_ 2, c_ 3] ?_
  refine .reg' [0, 1] [] ⟨[(0, (.sl true a0.length 2 (a0.flatMap e44))), (1, (I a1))], [], [], []⟩ [c_ 6, c_ 7] aln nocal ?_
  refine .reg' [0, 1, 5] [] ⟨[(0, (.sl true a0.length 2 (a0.flatMap e44))), (1, (I a1)), (5, (I 0))], [], [], []⟩ [c_ 28, c_ 29, c_ 15] aln nocal ?_
  refine .reg' [0, 1, 5, 6] [] ⟨[(0, (.sl true a0.length 2 (a0.flatMap e44))), (1, (I a1)), (5, (I 0)), (6, (I 0))], [], [], []⟩ [l_ 58, b_ 0, c_ 15] aln nocal ?_
  exact ih0 a0 a1 0 0 _ h
/-! spec_l07Fits: function 40 -/
def spec_l07Fits.f (a0 : (List Int)) (a1 : Int) : Option Int := (if (a1.tmod (2 : Int)) = 1 then (some 1) else (if 0 ≤ (wrap64 (a1.tdiv (2 : Int))) then (if (wrap64 (a1.tdiv (2 : Int))) < (a0.length : Int) then (some (at_ a0 (wrap64 (a1.tdiv (2 : Int))))) else none) else none))
theorem spec_l07Fits.J (a0 : (List Int)) (a1 : Int) (r : Int) (h : spec_l07Fits.f a0 a1 = some r) : J prog (.call 40 [(.sl true a0.length 1 (a0.flatMap encI)), (I a1)] [] (I r) []) := by
  unfold spec_l07Fits.f at h
  refine .call' [c_ 2, c_ 3] ?_
  refine .reg' [0, 1] [] ⟨[(0, (.sl true a0.length 1 (a0.flatMap encI))), (1, (I a1))], [], [], []⟩ [c_ 12, c_ 13, c_ 7] aln nocal ?_
  refine .reg' [0, 1, 7] [] ⟨[(0, (.sl true a0.length 1 (a0.flatMap encI))), (1, (I a1)), (7, (B ((a1.tmod (2 : Int)) == 1)))], [], [(2 : Int) ≠ 0], []⟩ [c_ 13, c_ 7] (alc (by decide) aln) nocal ?_
  by_cases c1 : (a1.tmod (2 : Int)) = 1
  · rw [if_pos c1] at h
    refine .cond' (.tmp 7) true [c_ 52, c_ 53, c_ 7] (bT (qT c1)) ?_
    refine .reg' [4] [] ⟨[(4, (I 1))], [], [], []⟩ [c_ 53, c_ 7] aln nocal ?_
    have h := Option.some.inj h
    subst h
    exact .fin0 [] (I 1) [] aln (.z .s)
  · rw [if_neg c1] at h
    refine .cond' (.tmp 7) false [c_ 14, c_ 15] (bF (qF c1)) ?_
    by_cases c2 : 0 ≤ (wrap64 (a1.tdiv (2 : Int)))
    · rw [if_pos c2] at h
      by_cases c3 : (wrap64 (a1.tdiv (2 : Int))) < (a0.length : Int)
      · rw [if_pos c3] at h
        refine .reg' [4] [.no, .no, .no, .no, .v (I (at_ a0 (wrap64 (a1.tdiv (2 : Int)))))] ⟨[(4, (I (at_ a0 (wrap64 (a1.tdiv (2 : Int))))))], [], [(2 : Int) ≠ 0, (0 : Int) ≤ (wrap64 (a1.tdiv (2 : Int))) ∧ (wrap64 (a1.tdiv (2 : Int))) < (a0.length : Int), rdC prog 3 ((a0.flatMap encI).drop ((wrap64 (a1.tdiv (2 : Int))).toNat * 1)) = (I (at_ a0 (wrap64 (a1.tdiv (2 : Int))))), 1 ≤ ((a0.flatMap encI).drop ((wrap64 (a1.tdiv (2 : Int))).toNat * 1)).length], []⟩ [c_ 15] (alc (by decide) (alc ⟨c2, c3⟩ (alc (ldC1 encI_ok rfl c2 c3) (alc (okI encI_ok c2 c3 (by decide)) aln)))) nocal ?_
        have h := Option.some.inj h
        subst h
        exact .fin0 [] (I (at_ a0 (wrap64 (a1.tdiv (2 : Int))))) [] aln (.z .s)
      · rw [if_neg c3] at h
        cases h
    · rw [if_neg c2] at h
      cases h
/-! spec_l07DrawRight: function 56 -/
def spec_l07DrawRight.l0 : Nat → (List Int) → S68 → (List S44) → Int → Option ((List S44) × S68)
 | 0, _, _, _, _ => none
 | k + 1, a1, x2, x3, x4 => (if x4 > 0 then ((spec_l01Below.f x2 (wrap64 ((wrap64 (2 * (a1.length : Int))) - 1))).bind fun x5 => ((spec_l01Below.f x5.2 (a1.length : Int)).bind fun x6 => ((spec_l01PickInt.f x6.2 ([0, (wrap64 ((wrap64 (2 * (a1.length : Int))) - 2)), (wrap64 (2 * x6.1))] : List Int)).bind fun x7 => ((spec_l07At.f k x3 x5.1).bind fun x8 => ((spec_l07Fits.f a1 x5.1).bind fun x9 => (if x8 < x9 then (if (x3.length + ([(⟨x5.1, x7.1⟩ : S44)] : List S44).length) * 16 ≤ 70368744177664 then (spec_l07DrawRight.l0 k a1 x7.2 (x3 ++ ([(⟨x5.1, x7.1⟩ : S44)] : List S44)) (wrap64 (x4 - 1))) else none) else (spec_l07DrawRight.l0 k a1 x7.2 x3 (wrap64 (x4 - 1))))))))) else (some (x3, x2)))
def spec_l07DrawRight.f (k : Nat) (a0 : S68) (a1 : (List Int)) : Option ((List S44) × S68) := ((spec_l01Below.f a0 4).bind fun x1 => (spec_l07DrawRight.l0 k a1 x1.2 ([] : List S44) (wrap64 (1 + x1.1))))
theorem spec_l07DrawRight.lab : ∀ k, (∀ (a1 : (List Int)) (x2 : S68) (x3 : (List S44)) (x4 : Int) (r : ((List S44) × S68)), spec_l07DrawRight.l0 k a1 x2 x3 x4 = some r → J prog (.run 56 [0] [l_ 58, b_ 0, c_ 15] [(0, (.pt 0 0 3)), (1, (.sl true a1.length 1 (a1.flatMap encI))), (5, (.rf 512 0 x3.length 2 (x3.length * 2))), (6, (I x4))] [(0, [(.sl false x2.f0.length 1 (x2.f0.flatMap encU)), (I x2.f1), (I x2.f2)]), (512, (x3.flatMap e44))] (.rf 512 0 r.1.length 2 (r.1.length * 2)) [(0, [(.sl false r.2.f0.length 1 (r.2.f0.flatMap encU)), (I r.2.f1), (I r.2.f2)]), (512, (r.1.flatMap e44))]))
 | 0 => (by intro a1 x2 x3 x4 r h; unfold spec_l07DrawRight.l0 at h; cases h)
 | k + 1 => by
  have ih0 := spec_l07DrawRight.lab k
  · intro a1 x2 x3 x4 r h
    unfold spec_l07DrawRight.l0 at h
    refine .loop' [c_ 464, c_ 465, c_ 233, l_ 58, b_ 0, c_ 15] ?_
    refine .reg' [0, 1, 5, 6, 13] [] ⟨[(0, (.pt 0 0 3)), (1, (.sl true a1.length 1 (a1.flatMap encI))), (5, (.rf 512 0 x3.length 2 (x3.length * 2))), (6, (I x4)), (13, (B (decide (x4 > 0))))], [(0, [(.sl false x2.f0.length 1 (x2.f0.flatMap encU)), (I x2.f1), (I x2.f2)]), (512, (x3.flatMap e44))], [], []⟩ [c_ 465, c_ 233, l_ 58, b_ 0, c_ 15] aln nocal ?_
    by_cases c1 : x4 > 0
    · rw [if_pos c1] at h
      refine .cond' (.tmp 13) true [c_ 1864, c_ 1865, b_ 1, c_ 467, l_ 58, b_ 0, c_ 15] (bT (dT c1)) ?_
      obtain ⟨x5, hx5, h⟩ := Option.bind_eq_some_iff.mp h
      obtain ⟨x6, hx6, h⟩ := Option.bind_eq_some_iff.mp h
      obtain ⟨x7, hx7, h⟩ := Option.bind_eq_some_iff.mp h
      refine .reg' [0, 1, 5, 6, 7] [.no, .no, .no, .no, .no, .c ⟨59, [(.pt 0 0 3), (I (wrap64 ((wrap64 (2 * (a1.length : Int))) - 1)))], [(0, [(.sl false x2.f0.length 1 (x2.f0.flatMap encU)), (I x2.f1), (I x2.f2)])], (I x5.1), [(0, [(.sl false x5.2.f0.length 1 (x5.2.f0.flatMap encU)), (I x5.2.f1), (I x5.2.f2)])], [], [(0, 0)], [(0, 0)], (I x5.1), [(0, [(.sl false x5.2.f0.length 1 (x5.2.f0.flatMap encU)), (I x5.2.f1), (I x5.2.f2)])]⟩, .no, .no, .no, .no, .no, .no, .no, .no, .c ⟨59, [(.pt 0 0 3), (I (a1.length : Int))], [(0, [(.sl false x5.2.f0.length 1 (x5.2.f0.flatMap encU)), (I x5.2.f1), (I x5.2.f2)])], (I x6.1), [(0, [(.sl false x6.2.f0.length 1 (x6.2.f0.flatMap encU)), (I x6.2.f1), (I x6.2.f2)])], [], [(0, 0)], [(0, 0)], (I x6.1), [(0, [(.sl false x6.2.f0.length 1 (x6.2.f0.flatMap encU)), (I x6.2.f1), (I x6.2.f2)])]⟩, .no, .no, .c ⟨60, [(.pt 0 0 3), (.sl true ([0, (wrap64 ((wrap64 (2 * (a1.length : Int))) - 2)), (wrap64 (2 * x6.1))] : List Int).length 1 (([0, (wrap64 ((wrap64 (2 * (a1.length : Int))) - 2)), (wrap64 (2 * x6.1))] : List Int).flatMap encI))], [(0, [(.sl false x6.2.f0.length 1 (x6.2.f0.flatMap encU)), (I x6.2.f1), (I x6.2.f2)])], (I x7.1), [(0, [(.sl false x7.2.f0.length 1 (x7.2.f0.flatMap encU)), (I x7.2.f1), (I x7.2.f2)])], [1552], [(0, 0)], [(0, 0)], (I x7.1), [(0, [(.sl false x7.2.f0.length 1 (x7.2.f0.flatMap encU)), (I x7.2.f1), (I x7.2.f2)])]⟩] ⟨[(0, (.pt 0 0 3)), (1, (.sl true a1.length 1 (a1.flatMap encI))), (5, (.rf 512 0 x3.length 2 (x3.length * 2))), (6, (I x4)), (7, (.pt 1555 0 2))], [(0, [(.sl false x7.2.f0.length 1 (x7.2.f0.flatMap encU)), (I x7.2.f1), (I x7.2.f2)]), (512, (x3.flatMap e44)), (1552, (([0, (wrap64 ((wrap64 (2 * (a1.length : Int))) - 2)), (wrap64 (2 * x6.1))] : List Int).flatMap encI)), (1555, [(I x5.1), (I x7.1)])], [COK (hget [(0, [(.sl false x2.f0.length 1 (x2.f0.flatMap encU)), (I x2.f1), (I x2.f2)]), (512, (x3.flatMap e44))]) [(.pt 0 0 3), (I (wrap64 ((wrap64 (2 * (a1.length : Int))) - 1)))] ⟨59, [(.pt 0 0 3), (I (wrap64 ((wrap64 (2 * (a1.length : Int))) - 1)))], [(0, [(.sl false x2.f0.length 1 (x2.f0.flatMap encU)), (I x2.f1), (I x2.f2)])], (I x5.1), [(0, [(.sl false x5.2.f0.length 1 (x5.2.f0.flatMap encU)), (I x5.2.f1), (I x5.2.f2)])], [], [(0, 0)], [(0, 0)], (I x5.1), [(0, [(.sl false x5.2.f0.length 1 (x5.2.f0.flatMap encU)), (I x5.2.f1), (I x5.2.f2)])]⟩, COK (hget [(0, [(.sl false x5.2.f0.length 1 (x5.2.f0.flatMap encU)), (I x5.2.f1), (I x5.2.f2)]), (512, (x3.flatMap e44))]) [(.pt 0 0 3), (I (a1.length : Int))] ⟨59, [(.pt 0 0 3), (I (a1.length : Int))], [(0, [(.sl false x5.2.f0.length 1 (x5.2.f0.flatMap encU)), (I x5.2.f1), (I x5.2.f2)])], (I x6.1), [(0, [(.sl false x6.2.f0.length 1 (x6.2.f0.flatMap encU)), (I x6.2.f1), (I x6.2.f2)])], [], [(0, 0)], [(0, 0)], (I x6.1), [(0, [(.sl false x6.2.f0.length 1 (x6.2.f0.flatMap encU)), (I x6.2.f1), (I x6.2.f2)])]⟩, COK (hget [(0, [(.sl false x6.2.f0.length 1 (x6.2.f0.flatMap encU)), (I x6.2.f1), (I x6.2.f2)]), (512, (x3.flatMap e44)), (1552, (([0, (wrap64 ((wrap64 (2 * (a1.length : Int))) - 2)), (wrap64 (2 * x6.1))] : List Int).flatMap encI))]) [(.pt 0 0 3), (.rf 1552 0 (([0, (wrap64 ((wrap64 (2 * (a1.length : Int))) - 2)), (wrap64 (2 * x6.1))] : List Int).length) 1 (([0, (wrap64 ((wrap64 (2 * (a1.length : Int))) - 2)), (wrap64 (2 * x6.1))] : List Int).length * 1))] ⟨60, [(.pt 0 0 3), (.sl true ([0, (wrap64 ((wrap64 (2 * (a1.length : Int))) - 2)), (wrap64 (2 * x6.1))] : List Int).length 1 (([0, (wrap64 ((wrap64 (2 * (a1.length : Int))) - 2)), (wrap64 (2 * x6.1))] : List Int).flatMap encI))], [(0, [(.sl false x6.2.f0.length 1 (x6.2.f0.flatMap encU)), (I x6.2.f1), (I x6.2.f2)])], (I x7.1), [(0, [(.sl false x7.2.f0.length 1 (x7.2.f0.flatMap encU)), (I x7.2.f1), (I x7.2.f2)])], [1552], [(0, 0)], [(0, 0)], (I x7.1), [(0, [(.sl false x7.2.f0.length 1 (x7.2.f0.flatMap encU)), (I x7.2.f1), (I x7.2.f2)])]⟩, 2 = 2 ∧ 0 + 2 ≤ 2], [⟨59, [(.pt 0 0 3), (I (wrap64 ((wrap64 (2 * (a1.length : Int))) - 1)))], [(0, [(.sl false x2.f0.length 1 (x2.f0.flatMap encU)), (I x2.f1), (I x2.f2)])], (I x5.1), [(0, [(.sl false x5.2.f0.length 1 (x5.2.f0.flatMap encU)), (I x5.2.f1), (I x5.2.f2)])], [], [(0, 0)], [(0, 0)], (I x5.1), [(0, [(.sl false x5.2.f0.length 1 (x5.2.f0.flatMap encU)), (I x5.2.f1), (I x5.2.f2)])]⟩, ⟨59, [(.pt 0 0 3), (I (a1.length : Int))], [(0, [(.sl false x5.2.f0.length 1 (x5.2.f0.flatMap encU)), (I x5.2.f1), (I x5.2.f2)])], (I x6.1), [(0, [(.sl false x6.2.f0.length 1 (x6.2.f0.flatMap encU)), (I x6.2.f1), (I x6.2.f2)])], [], [(0, 0)], [(0, 0)], (I x6.1), [(0, [(.sl false x6.2.f0.length 1 (x6.2.f0.flatMap encU)), (I x6.2.f1), (I x6.2.f2)])]⟩, ⟨60, [(.pt 0 0 3), (.sl true ([0, (wrap64 ((wrap64 (2 * (a1.length : Int))) - 2)), (wrap64 (2 * x6.1))] : List Int).length 1 (([0, (wrap64 ((wrap64 (2 * (a1.length : Int))) - 2)), (wrap64 (2 * x6.1))] : List Int).flatMap encI))], [(0, [(.sl false x6.2.f0.length 1 (x6.2.f0.flatMap encU)), (I x6.2.f1), (I x6.2.f2)])], (I x7.1), [(0, [(.sl false x7.2.f0.length 1 (x7.2.f0.flatMap encU)), (I x7.2.f1), (I x7.2.f2)])], [1552], [(0, 0)], [(0, 0)], (I x7.1), [(0, [(.sl false x7.2.f0.length 1 (x7.2.f0.flatMap encU)), (I x7.2.f1), (I x7.2.f2)])]⟩]⟩ [c_ 3730, c_ 3731, b_ 1, c_ 467, l_ 58, b_ 0, c_ 15] (alc (cokW false (a2c (.pt (memP_mem (p := (0, 0)) rfl)) (a2c (.z .s) a2n)) (akc ⟨_, _, rfl, rfl, (a2c (.z (frz_sl encU_ok (fun h => h))) (a2c (.z .s) (a2c (.z .s) a2n)))⟩ akn) (akc (.inl rfl) akn) (.z .s) (akc ⟨_, _, rfl, rfl, (a2c (.z (clnS encU_c (fun h => absurd h (by decide)))) (a2c (.z .s) (a2c (.z .s) a2n)))⟩ akn) (fun h => absurd h (by decide))) (alc (cokW false (a2c (.pt (memP_mem (p := (0, 0)) rfl)) (a2c (.z .s) a2n)) (akc ⟨_, _, rfl, rfl, (a2c (.z (frz_sl encU_ok (fun h => h))) (a2c (.z .s) (a2c (.z .s) a2n)))⟩ akn) (akc (.inl rfl) akn) (.z .s) (akc ⟨_, _, rfl, rfl, (a2c (.z (clnS encU_c (fun h => absurd h (by decide)))) (a2c (.z .s) (a2c (.z .s) a2n)))⟩ akn) (fun h => absurd h (by decide))) (alc (cokW false (a2c (.pt (memP_mem (p := (0, 0)) rfl)) (a2c (.z (frz_rf (k := 1552) encI_ok (by simp) rfl rfl (row_len encI_ok _).symm)) a2n)) (akc ⟨_, _, rfl, rfl, (a2c (.z (frz_sl encU_ok (fun h => h))) (a2c (.z .s) (a2c (.z .s) a2n)))⟩ akn) (akc (.inl rfl) akn) (.z .s) (akc ⟨_, _, rfl, rfl, (a2c (.z (clnS encU_c (fun h => absurd h (by decide)))) (a2c (.z .s) (a2c (.z .s) a2n)))⟩ akn) (fun h => absurd h (by decide))) (alc ⟨rfl, by decide⟩ aln)))) (acal (spec_l01Below.J x2 (wrap64 ((wrap64 (2 * (a1.length : Int))) - 1)) _ hx5) (acal (spec_l01Below.J x5.2 (a1.length : Int) _ hx6) (acal (spec_l01PickInt.J x6.2 ([0, (wrap64 ((wrap64 (2 * (a1.length : Int))) - 2)), (wrap64 (2 * x6.1))] : List Int) _ hx7) nocal))) ?_
      obtain ⟨x8, hx8, h⟩ := Option.bind_eq_some_iff.mp h
      obtain ⟨x9, hx9, h⟩ := Option.bind_eq_some_iff.mp h
      refine .reg' [0, 1, 5, 6, 7, 43] [.no, .no, .no, .c ⟨39, [(.sl true x3.length 2 (x3.flatMap e44)), (I x5.1)], [], (I x8), [], [512], [], [], (I x8), []⟩, .no, .no, .no, .c ⟨40, [(.sl true a1.length 1 (a1.flatMap encI)), (I x5.1)], [], (I x9), [], [], [], [], (I x9), []⟩] ⟨[(0, (.pt 0 0 3)), (1, (.sl true a1.length 1 (a1.flatMap encI))), (5, (.rf 512 0 x3.length 2 (x3.length * 2))), (6, (I x4)), (7, (.pt 1555 0 2)), (43, (B (decide (x8 < x9))))], [(0, [(.sl false x7.2.f0.length 1 (x7.2.f0.flatMap encU)), (I x7.2.f1), (I x7.2.f2)]), (512, (x3.flatMap e44)), (1552, (([0, (wrap64 ((wrap64 (2 * (a1.length : Int))) - 2)), (wrap64 (2 * x6.1))] : List Int).flatMap encI)), (1555, [(I x5.1), (I x7.1)])], [2 = 2 ∧ 0 + 1 ≤ 2, COK (hget [(0, [(.sl false x7.2.f0.length 1 (x7.2.f0.flatMap encU)), (I x7.2.f1), (I x7.2.f2)]), (512, (x3.flatMap e44)), (1552, (([0, (wrap64 ((wrap64 (2 * (a1.length : Int))) - 2)), (wrap64 (2 * x6.1))] : List Int).flatMap encI)), (1555, [(I x5.1), (I x7.1)])]) [(.rf 512 0 x3.length 2 (x3.length * 2)), (I x5.1)] ⟨39, [(.sl true x3.length 2 (x3.flatMap e44)), (I x5.1)], [], (I x8), [], [512], [], [], (I x8), []⟩, 2 = 2 ∧ 0 + 1 ≤ 2, COK (hget [(0, [(.sl false x7.2.f0.length 1 (x7.2.f0.flatMap encU)), (I x7.2.f1), (I x7.2.f2)]), (512, (x3.flatMap e44)), (1552, (([0, (wrap64 ((wrap64 (2 * (a1.length : Int))) - 2)), (wrap64 (2 * x6.1))] : List Int).flatMap encI)), (1555, [(I x5.1), (I x7.1)])]) [(.sl true a1.length 1 (a1.flatMap encI)), (I x5.1)] ⟨40, [(.sl true a1.length 1 (a1.flatMap encI)), (I x5.1)], [], (I x9), [], [], [], [], (I x9), []⟩], [⟨39, [(.sl true x3.length 2 (x3.flatMap e44)), (I x5.1)], [], (I x8), [], [512], [], [], (I x8), []⟩, ⟨40, [(.sl true a1.length 1 (a1.flatMap encI)), (I x5.1)], [], (I x9), [], [], [], [], (I x9), []⟩]⟩ [c_ 3731, b_ 1, c_ 467, l_ 58, b_ 0, c_ 15] (alc ⟨rfl, by decide⟩ (alc (cok0 false (a2c (.z (frz_rf (k := 512) e44_ok (by simp) rfl rfl (row_len e44_ok _).symm)) (a2c (.z .s) a2n)) (.z .s) (fun h => absurd h (by decide))) (alc ⟨rfl, by decide⟩ (alc (cok0 false (a2c (.z (frz_sl encI_ok (fun h => h))) (a2c (.z .s) a2n)) (.z .s) (fun h => absurd h (by decide))) aln)))) (acal (spec_l07At.J k x3 x5.1 _ hx8) (acal (spec_l07Fits.J a1 x5.1 _ hx9) nocal)) ?_
      by_cases c2 : x8 < x9
      · rw [if_pos c2] at h
        refine .cond' (.tmp 43) true [c_ 7462, b_ 1, c_ 467, l_ 58, b_ 0, c_ 15] (bT (dT c2)) ?_
        by_cases c3 : (x3.length + ([(⟨x5.1, x7.1⟩ : S44)] : List S44).length) * 16 ≤ 70368744177664
        · rw [if_pos c3] at h
          refine .reg' [0, 1, 5, 6] [.no, .no, .no, .w (.rf 512 0 ((x3 ++ ([(⟨x5.1, x7.1⟩ : S44)] : List S44)).length) 2 ((x3 ++ ([(⟨x5.1, x7.1⟩ : S44)] : List S44)).length * 2)) ((x3 ++ ([(⟨x5.1, x7.1⟩ : S44)] : List S44)).flatMap e44)] ⟨[(0, (.pt 0 0 3)), (1, (.sl true a1.length 1 (a1.flatMap encI))), (5, (.rf 512 0 ((x3 ++ ([(⟨x5.1, x7.1⟩ : S44)] : List S44)).length) 2 ((x3 ++ ([(⟨x5.1, x7.1⟩ : S44)] : List S44)).length * 2))), (6, (I x4))], [(0, [(.sl false x7.2.f0.length 1 (x7.2.f0.flatMap encU)), (I x7.2.f1), (I x7.2.f2)]), (512, ((x3 ++ ([(⟨x5.1, x7.1⟩ : S44)] : List S44)).flatMap e44)), (1552, (([0, (wrap64 ((wrap64 (2 * (a1.length : Int))) - 2)), (wrap64 (2 * x6.1))] : List Int).flatMap encI)), (1555, [(I x5.1), (I x7.1)]), (2050, (([(⟨x5.1, x7.1⟩ : S44)] : List S44).flatMap e44))], [2 = 2 ∧ 0 + 2 ≤ 2, V.rf 512 0 (x3.length + ([(⟨x5.1, x7.1⟩ : S44)] : List S44).length) 2 (x3.length * 2 + ([(⟨x5.1, x7.1⟩ : S44)] : List S44).length * 2) = (.rf 512 0 ((x3 ++ ([(⟨x5.1, x7.1⟩ : S44)] : List S44)).length) 2 ((x3 ++ ([(⟨x5.1, x7.1⟩ : S44)] : List S44)).length * 2)), x3.flatMap e44 ++ (((([(⟨x5.1, x7.1⟩ : S44)] : List S44).flatMap e44).drop 0).take (([(⟨x5.1, x7.1⟩ : S44)] : List S44).length * 2)) = ((x3 ++ ([(⟨x5.1, x7.1⟩ : S44)] : List S44)).flatMap e44), (([(⟨x5.1, x7.1⟩ : S44)] : List S44).length * 2 = (([(⟨x5.1, x7.1⟩ : S44)] : List S44).flatMap e44).length ∧ 0 + ([(⟨x5.1, x7.1⟩ : S44)] : List S44).length * 2 ≤ (([(⟨x5.1, x7.1⟩ : S44)] : List S44).flatMap e44).length) ∧ x3.length * 2 = (x3.flatMap e44).length ∧ x3.length * 2 = (x3.flatMap e44).length ∧ (x3.length + ([(⟨x5.1, x7.1⟩ : S44)] : List S44).length) * 16 ≤ 70368744177664], []⟩ [c_ 467, l_ 58, b_ 0, c_ 15] (alc ⟨rfl, by decide⟩ (alc (apV rfl) (alc (apR e44_ok rfl) (alc (apO e44_ok rfl c3 rfl) aln)))) nocal ?_
          refine .reg' [0, 1, 5, 6] [] ⟨[(0, (.pt 0 0 3)), (1, (.sl true a1.length 1 (a1.flatMap encI))), (5, (.rf 512 0 ((x3 ++ ([(⟨x5.1, x7.1⟩ : S44)] : List S44)).length) 2 ((x3 ++ ([(⟨x5.1, x7.1⟩ : S44)] : List S44)).length * 2))), (6, (I (wrap64 (x4 - 1))))], [(0, [(.sl false x7.2.f0.length 1 (x7.2.f0.flatMap encU)), (I x7.2.f1), (I x7.2.f2)]), (512, ((x3 ++ ([(⟨x5.1, x7.1⟩ : S44)] : List S44)).flatMap e44)), (1552, (([0, (wrap64 ((wrap64 (2 * (a1.length : Int))) - 2)), (wrap64 (2 * x6.1))] : List Int).flatMap encI)), (1555, [(I x5.1), (I x7.1)]), (2050, (([(⟨x5.1, x7.1⟩ : S44)] : List S44).flatMap e44))], [], []⟩ [l_ 58, b_ 0, c_ 15] aln nocal ?_
          refine .wk' [] [(0, 0), (512, 512)] [(0, (.pt 0 0 3)), (1, (.sl true a1.length 1 (a1.flatMap encI))), (5, (.rf 512 0 ((x3 ++ ([(⟨x5.1, x7.1⟩ : S44)] : List S44)).length) 2 ((x3 ++ ([(⟨x5.1, x7.1⟩ : S44)] : List S44)).length * 2))), (6, (I (wrap64 (x4 - 1))))] [(0, [(.sl false x7.2.f0.length 1 (x7.2.f0.flatMap encU)), (I x7.2.f1), (I x7.2.f2)]), (512, ((x3 ++ ([(⟨x5.1, x7.1⟩ : S44)] : List S44)).flatMap e44))] (shc 0 (a2c (.z (frz_sl encU_ok (fun h => h))) (a2c (.z .s) (a2c (.z .s) a2n))) (shc 512 (rowF e44_ok _) shn)) (enc_ (.pt (memP_mem (p := (0, 0)) rfl)) (enc_ (.z (frz_sl encI_ok (fun h => h))) (enc_ (.rf (memP_mem (p := (512, 512)) rfl)) (enc_ (.z .s) enn)))) ?_
          exact ih0 a1 x7.2 (x3 ++ ([(⟨x5.1, x7.1⟩ : S44)] : List S44)) (wrap64 (x4 - 1)) _ h
        · rw [if_neg c3] at h
          cases h
      · rw [if_neg c2] at h
        refine .cond' (.tmp 43) false [c_ 467, l_ 58, b_ 0, c_ 15] (bF (dF c2)) ?_
        refine .reg' [0, 1, 5, 6] [] ⟨[(0, (.pt 0 0 3)), (1, (.sl true a1.length 1 (a1.flatMap encI))), (5, (.rf 512 0 x3.length 2 (x3.length * 2))), (6, (I (wrap64 (x4 - 1))))], [(0, [(.sl false x7.2.f0.length 1 (x7.2.f0.flatMap encU)), (I x7.2.f1), (I x7.2.f2)]), (512, (x3.flatMap e44)), (1552, (([0, (wrap64 ((wrap64 (2 * (a1.length : Int))) - 2)), (wrap64 (2 * x6.1))] : List Int).flatMap encI)), (1555, [(I x5.1), (I x7.1)])], [], []⟩ [l_ 58, b_ 0, c_ 15] aln nocal ?_
        refine .wk' [] [(0, 0), (512, 512)] [(0, (.pt 0 0 3)), (1, (.sl true a1.length 1 (a1.flatMap encI))), (5, (.rf 512 0 x3.length 2 (x3.length * 2))), (6, (I (wrap64 (x4 - 1))))] [(0, [(.sl false x7.2.f0.length 1 (x7.2.f0.flatMap encU)), (I x7.2.f1), (I x7.2.f2)]), (512, (x3.flatMap e44))] (shc 0 (a2c (.z (frz_sl encU_ok (fun h => h))) (a2c (.z .s) (a2c (.z .s) a2n))) (shc 512 (rowF e44_ok _) shn)) (enc_ (.pt (memP_mem (p := (0, 0)) rfl)) (enc_ (.z (frz_sl encI_ok (fun h => h))) (enc_ (.rf (memP_mem (p := (512, 512)) rfl)) (enc_ (.z .s) enn)))) ?_
        exact ih0 a1 x7.2 x3 (wrap64 (x4 - 1)) _ h
    · rw [if_neg c1] at h
      refine .cond' (.tmp 13) false [c_ 30, c_ 31] (bF (dF c1)) ?_
      refine .reg' [4] [] ⟨[(4, (.rf 512 0 x3.length 2 (x3.length * 2)))], [(0, [(.sl false x2.f0.length 1 (x2.f0.flatMap encU)), (I x2.f1), (I x2.f2)]), (512, (x3.flatMap e44))], [], []⟩ [c_ 31] aln nocal ?_
      have h := Option.some.inj h
      subst h
      exact .fin' [] [(0, 0), (512, 512)] (.rf 512 0 x3.length 2 (x3.length * 2)) [] aln (shc 0 (a2c (.z (frz_sl encU_ok (fun h => h))) (a2c (.z .s) (a2c (.z .s) a2n))) (shc 512 (rowF e44_ok _) shn)) (.rf (memP_mem (p := (512, 512)) rfl))
theorem spec_l07DrawRight.J (k : Nat) (a0 : S68) (a1 : (List Int)) (r : ((List S44) × S68)) (h : spec_l07DrawRight.f k a0 a1 = some r) : J prog (.call 56 [(.pt 0 0 3), (.sl true a1.length 1 (a1.flatMap encI))] [(0, [(.sl false a0.f0.length 1 (a0.f0.flatMap encU)), (I a0.f1), (I a0.f2)])] (.rf 512 0 r.1.length 2 (r.1.length * 2)) [(0, [(.sl false r.2.f0.length 1 (r.2.f0.flatMap encU)), (I r.2.f1), (I r.2.f2)]), (512, (r.1.flatMap e44))]) := by
  unfold spec_l07DrawRight.f at h
  have ih0 := spec_l07DrawRight.lab k
  refine .call' [c_ 2, c_ 3] ?_
  refine .reg' [0, 1] [] ⟨[(0, (.pt 0 0 3)), (1, (.sl true a1.length 1 (a1.flatMap encI)))], [(0, [(.sl false a0.f0.length 1 (a0.f0.flatMap encU)), (I a0.f1), (I a0.f2)])], [], []⟩ [c_ 6, c_ 7] aln nocal ?_
  refine .reg' [0, 1, 5] [] ⟨[(0, (.pt 0 0 3)), (1, (.sl true a1.length 1 (a1.flatMap encI))), (5, (.rf 512 0 (([] : List S44).length) 2 (([] : List S44).length * 2)))], [(0, [(.sl false a0.f0.length 1 (a0.f0.flatMap encU)), (I a0.f1), (I a0.f2)]), (512, (([] : List S44).flatMap e44))], [], []⟩ [c_ 28, c_ 29, c_ 15] aln nocal ?_
  obtain ⟨x1, hx1, h⟩ := Option.bind_eq_some_iff.mp h
  refine .reg' [0, 1, 5, 6] [.no, .c ⟨59, [(.pt 0 0 3), (I 4)], [(0, [(.sl false a0.f0.length 1 (a0.f0.flatMap encU)), (I a0.f1), (I a0.f2)])], (I x1.1), [(0, [(.sl false x1.2.f0.length 1 (x1.2.f0.flatMap encU)), (I x1.2.f1), (I x1.2.f2)])], [], [(0, 0)], [(0, 0)], (I x1.1), [(0, [(.sl false x1.2.f0.length 1 (x1.2.f0.flatMap encU)), (I x1.2.f1), (I x1.2.f2)])]⟩] ⟨[(0, (.pt 0 0 3)), (1, (.sl true a1.length 1 (a1.flatMap encI))), (5, (.rf 512 0 (([] : List S44).length) 2 (([] : List S44).length * 2))), (6, (I (wrap64 (1 + x1.1))))], [(0, [(.sl false x1.2.f0.length 1 (x1.2.f0.flatMap encU)), (I x1.2.f1), (I x1.2.f2)]), (512, (([] : List S44).flatMap e44))], [COK (hget [(0, [(.sl false a0.f0.length 1 (a0.f0.flatMap encU)), (I a0.f1), (I a0.f2)]), (512, (([] : List S44).flatMap e44))]) [(.pt 0 0 3), (I 4)] ⟨59, [(.pt 0 0 3), (I 4)], [(0, [(.sl false a0.f0.length 1 (a0.f0.flatMap encU)), (I a0.f1), (I a0.f2)])], (I x1.1), [(0, [(.sl false x1.2.f0.length 1 (x1.2.f0.flatMap encU)), (I x1.2.f1), (I x1.2.f2)])], [], [(0, 0)], [(0, 0)], (I x1.1), [(0, [(.sl false x1.2.f0.length 1 (x1.2.f0.flatMap encU)), (I x1.2.f1), (I x1.2.f2)])]⟩], [⟨59, [(.pt 0 0 3), (I 4)], [(0, [(.sl false a0.f0.length 1 (a0.f0.flatMap encU)), (I a0.f1), (I a0.f2)])], (I x1.1), [(0, [(.sl false x1.2.f0.length 1 (x1.2.f0.flatMap encU)), (I x1.2.f1), (I x1.2.f2)])], [], [(0, 0)], [(0, 0)], (I x1.1), [(0, [(.sl false x1.2.f0.length 1 (x1.2.f0.flatMap encU)), (I x1.2.f1), (I x1.2.f2)])]⟩]⟩ [l_ 58, b_ 0, c_ 15] (alc (cokW false (a2c (.pt (memP_mem (p := (0, 0)) rfl)) (a2c (.z .s) a2n)) (akc ⟨_, _, rfl, rfl, (a2c (.z (frz_sl encU_ok (fun h => h))) (a2c (.z .s) (a2c (.z .s) a2n)))⟩ akn) (akc (.inl rfl) akn) (.z .s) (akc ⟨_, _, rfl, rfl, (a2c (.z (clnS encU_c (fun h => absurd h (by decide)))) (a2c (.z .s) (a2c (.z .s) a2n)))⟩ akn) (fun h => absurd h (by decide))) aln) (acal (spec_l01Below.J a0 4 _ hx1) nocal) ?_
  exact ih0 a1 x1.2 ([] : List S44) (wrap64 (1 + x1.1)) _ h
/-! spec_DrawRightSingles: function 36 -/
def spec_DrawRightSingles.f (k : Nat) (a0 : (List Int)) : Option ((List Int) × (List S44)) := ((spec_l01New.f k a0).bind fun x1 => ((spec_l07DrawLine.f k x1).bind fun x2 => ((spec_l07DrawRight.f k x2.2 x2.1).bind fun x3 => (some (x2.1, x3.1)))))
theorem spec_DrawRightSingles.J (k : Nat) (a0 : (List Int)) (r : ((List Int) × (List S44))) (h : spec_DrawRightSingles.f k a0 = some r) : J prog (.call 36 [(.sl false a0.length 1 (a0.flatMap encU))] [] (.tp [(.rf 1000769 0 r.1.length 1 (r.1.length * 1)), (.rf 1001027 0 r.2.length 2 (r.2.length * 2))]) [(1000769, (r.1.flatMap encI)), (1001027, (r.2.flatMap e44))]) := by
  unfold spec_DrawRightSingles.f at h
  refine .call' [c_ 2, c_ 3] ?_
  refine .reg' [0] [] ⟨[(0, (.sl false a0.length 1 (a0.flatMap encU)))], [], [], []⟩ [c_ 6, c_ 7] aln nocal ?_
  obtain ⟨x1, hx1, h⟩ := Option.bind_eq_some_iff.mp h
  refine .reg' [4] [.no, .c ⟨54, [(.sl false a0.length 1 (a0.flatMap encU))], [], (.pt 1795 0 3), [(1795, [(.sl false x1.f0.length 1 (x1.f0.flatMap encU)), (I x1.f1), (I x1.f2)])], [], [], [(1000513, 1795)], (.pt 1000513 0 3), [(1000513, [(.sl false x1.f0.length 1 (x1.f0.flatMap encU)), (I x1.f1), (I x1.f2)])]⟩] ⟨[(4, (.pt 1000513 0 3))], [(1000513, [(.sl false x1.f0.length 1 (x1.f0.flatMap encU)), (I x1.f1), (I x1.f2)])], [COK (hget []) [(.sl false a0.length 1 (a0.flatMap encU))] ⟨54, [(.sl false a0.length 1 (a0.flatMap encU))], [], (.pt 1795 0 3), [(1795, [(.sl false x1.f0.length 1 (x1.f0.flatMap encU)), (I x1.f1), (I x1.f2)])], [], [], [(1000513, 1795)], (.pt 1000513 0 3), [(1000513, [(.sl false x1.f0.length 1 (x1.f0.flatMap encU)), (I x1.f1), (I x1.f2)])]⟩], [⟨54, [(.sl false a0.length 1 (a0.flatMap encU))], [], (.pt 1795 0 3), [(1795, [(.sl false x1.f0.length 1 (x1.f0.flatMap encU)), (I x1.f1), (I x1.f2)])], [], [], [(1000513, 1795)], (.pt 1000513 0 3), [(1000513, [(.sl false x1.f0.length 1 (x1.f0.flatMap encU)), (I x1.f1), (I x1.f2)])]⟩]⟩ [c_ 14, c_ 15] (alc (cokW false (a2c (.z (frz_sl encU_ok (fun h => h))) a2n) akn (akc (.inr rfl) akn) (.pt (memP_mem (p := (1000513, 1795)) rfl)) (akc ⟨_, _, rfl, rfl, (a2c (.z (clnS encU_c (fun h => absurd h (by decide)))) (a2c (.z .s) (a2c (.z .s) a2n)))⟩ akn) (fun h => absurd h (by decide))) aln) (acal (spec_l01New.J k a0 _ hx1) nocal) ?_
  obtain ⟨x2, hx2, h⟩ := Option.bind_eq_some_iff.mp h
  refine .reg' [4, 5] [.no, .c ⟨55, [(.pt 0 0 3)], [(0, [(.sl false x1.f0.length 1 (x1.f0.flatMap encU)), (I x1.f1), (I x1.f2)])], (.rf 512 0 x2.1.length 1 (x2.1.length * 1)), [(0, [(.sl false x2.2.f0.length 1 (x2.2.f0.flatMap encU)), (I x2.2.f1), (I x2.2.f2)]), (512, (x2.1.flatMap encI))], [], [(1000513, 0)], [(1000513, 0), (1000769, 512)], (.rf 1000769 0 x2.1.length 1 (x2.1.length * 1)), [(1000513, [(.sl false x2.2.f0.length 1 (x2.2.f0.flatMap encU)), (I x2.2.f1), (I x2.2.f2)]), (1000769, (x2.1.flatMap encI))]⟩] ⟨[(4, (.pt 1000513 0 3)), (5, (.rf 1000769 0 x2.1.length 1 (x2.1.length * 1)))], [(1000513, [(.sl false x2.2.f0.length 1 (x2.2.f0.flatMap encU)), (I x2.2.f1), (I x2.2.f2)]), (1000769, (x2.1.flatMap encI))], [COK (hget [(1000513, [(.sl false x1.f0.length 1 (x1.f0.flatMap encU)), (I x1.f1), (I x1.f2)])]) [(.pt 1000513 0 3)] ⟨55, [(.pt 0 0 3)], [(0, [(.sl false x1.f0.length 1 (x1.f0.flatMap encU)), (I x1.f1), (I x1.f2)])], (.rf 512 0 x2.1.length 1 (x2.1.length * 1)), [(0, [(.sl false x2.2.f0.length 1 (x2.2.f0.flatMap encU)), (I x2.2.f1), (I x2.2.f2)]), (512, (x2.1.flatMap encI))], [], [(1000513, 0)], [(1000513, 0), (1000769, 512)], (.rf 1000769 0 x2.1.length 1 (x2.1.length * 1)), [(1000513, [(.sl false x2.2.f0.length 1 (x2.2.f0.flatMap encU)), (I x2.2.f1), (I x2.2.f2)]), (1000769, (x2.1.flatMap encI))]⟩], [⟨55, [(.pt 0 0 3)], [(0, [(.sl false x1.f0.length 1 (x1.f0.flatMap encU)), (I x1.f1), (I x1.f2)])], (.rf 512 0 x2.1.length 1 (x2.1.length * 1)), [(0, [(.sl false x2.2.f0.length 1 (x2.2.f0.flatMap encU)), (I x2.2.f1), (I x2.2.f2)]), (512, (x2.1.flatMap encI))], [], [(1000513, 0)], [(1000513, 0), (1000769, 512)], (.rf 1000769 0 x2.1.length 1 (x2.1.length * 1)), [(1000513, [(.sl false x2.2.f0.length 1 (x2.2.f0.flatMap encU)), (I x2.2.f1), (I x2.2.f2)]), (1000769, (x2.1.flatMap encI))]⟩]⟩ [c_ 30, c_ 31] (alc (cokW false (a2c (.pt (memP_mem (p := (1000513, 0)) rfl)) a2n) (akc ⟨_, _, rfl, rfl, (a2c (.z (frz_sl encU_ok (fun h => h))) (a2c (.z .s) (a2c (.z .s) a2n)))⟩ akn) (akc (.inl rfl) (akc (.inr rfl) akn)) (.rf (memP_mem (p := (1000769, 512)) rfl)) (akc ⟨_, _, rfl, rfl, (a2c (.z (clnS encU_c (fun h => absurd h (by decide)))) (a2c (.z .s) (a2c (.z .s) a2n)))⟩ (akc ⟨_, _, rfl, rfl, rowB encI_c _⟩ akn)) (fun h => absurd h (by decide))) aln) (acal (spec_l07DrawLine.J k x1 _ hx2) nocal) ?_
  obtain ⟨x3, hx3, h⟩ := Option.bind_eq_some_iff.mp h
  refine .reg' [2, 3] [.no, .no, .no, .c ⟨56, [(.pt 0 0 3), (.sl true x2.1.length 1 (x2.1.flatMap encI))], [(0, [(.sl false x2.2.f0.length 1 (x2.2.f0.flatMap encU)), (I x2.2.f1), (I x2.2.f2)])], (.rf 512 0 x3.1.length 2 (x3.1.length * 2)), [(0, [(.sl false x3.2.f0.length 1 (x3.2.f0.flatMap encU)), (I x3.2.f1), (I x3.2.f2)]), (512, (x3.1.flatMap e44))], [1000769], [(1000513, 0)], [(1000513, 0), (1001027, 512)], (.rf 1001027 0 x3.1.length 2 (x3.1.length * 2)), [(1000513, [(.sl false x3.2.f0.length 1 (x3.2.f0.flatMap encU)), (I x3.2.f1), (I x3.2.f2)]), (1001027, (x3.1.flatMap e44))]⟩] ⟨[(2, (.rf 1000769 0 x2.1.length 1 (x2.1.length * 1))), (3, (.rf 1001027 0 x3.1.length 2 (x3.1.length * 2)))], [(1000513, [(.sl false x3.2.f0.length 1 (x3.2.f0.flatMap encU)), (I x3.2.f1), (I x3.2.f2)]), (1000769, (x2.1.flatMap encI)), (1001027, (x3.1.flatMap e44))], [COK (hget [(1000513, [(.sl false x2.2.f0.length 1 (x2.2.f0.flatMap encU)), (I x2.2.f1), (I x2.2.f2)]), (1000769, (x2.1.flatMap encI))]) [(.pt 1000513 0 3), (.rf 1000769 0 x2.1.length 1 (x2.1.length * 1))] ⟨56, [(.pt 0 0 3), (.sl true x2.1.length 1 (x2.1.flatMap encI))], [(0, [(.sl false x2.2.f0.length 1 (x2.2.f0.flatMap encU)), (I x2.2.f1), (I x2.2.f2)])], (.rf 512 0 x3.1.length 2 (x3.1.length * 2)), [(0, [(.sl false x3.2.f0.length 1 (x3.2.f0.flatMap encU)), (I x3.2.f1), (I x3.2.f2)]), (512, (x3.1.flatMap e44))], [1000769], [(1000513, 0)], [(1000513, 0), (1001027, 512)], (.rf 1001027 0 x3.1.length 2 (x3.1.length * 2)), [(1000513, [(.sl false x3.2.f0.length 1 (x3.2.f0.flatMap encU)), (I x3.2.f1), (I x3.2.f2)]), (1001027, (x3.1.flatMap e44))]⟩], [⟨56, [(.pt 0 0 3), (.sl true x2.1.length 1 (x2.1.flatMap encI))], [(0, [(.sl false x2.2.f0.length 1 (x2.2.f0.flatMap encU)), (I x2.2.f1), (I x2.2.f2)])], (.rf 512 0 x3.1.length 2 (x3.1.length * 2)), [(0, [(.sl false x3.2.f0.length 1 (x3.2.f0.flatMap encU)), (I x3.2.f1), (I x3.2.f2)]), (512, (x3.1.flatMap e44))], [1000769], [(1000513, 0)], [(1000513, 0), (1001027, 512)], (.rf 1001027 0 x3.1.length 2 (x3.1.length * 2)), [(1000513, [(.sl false x3.2.f0.length 1 (x3.2.f0.flatMap encU)), (I x3.2.f1), (I x3.2.f2)]), (1001027, (x3.1.flatMap e44))]⟩]⟩ [c_ 31] (alc (cokW false (a2c (.pt (memP_mem (p := (1000513, 0)) rfl)) (a2c (.z (frz_rf (k := 1000769) encI_ok (by simp) rfl rfl (row_len encI_ok _).symm)) a2n)) (akc ⟨_, _, rfl, rfl, (a2c (.z (frz_sl encU_ok (fun h => h))) (a2c (.z .s) (a2c (.z .s) a2n)))⟩ akn) (akc (.inl rfl) (akc (.inr rfl) akn)) (.rf (memP_mem (p := (1001027, 512)) rfl)) (akc ⟨_, _, rfl, rfl, (a2c (.z (clnS encU_c (fun h => absurd h (by decide)))) (a2c (.z .s) (a2c (.z .s) a2n)))⟩ (akc ⟨_, _, rfl, rfl, rowB e44_c _⟩ akn)) (fun h => absurd h (by decide))) aln) (acal (spec_l07DrawRight.J k x2.2 x2.1 _ hx3) nocal) ?_
  have h := Option.some.inj h
  subst h
  exact .fin' [] [(1000769, 1000769), (1001027, 1001027)] (.tp [(.rf 1000769 0 x2.1.length 1 (x2.1.length * 1)), (.rf 1001027 0 x3.1.length 2 (x3.1.length * 2))]) [] aln (shc 1000769 (rowF encI_ok _) (shc 1001027 (rowF e44_ok _) shn)) (cnv_tp (a2c (.rf (memP_mem (p := (1000769, 1000769)) rfl)) (a2c (.rf (memP_mem (p := (1001027, 1001027)) rfl)) a2n)))
/-! impl_between: function 42 -/
def impl_between.f (a0 : Int) (a1 : Int) (a2 : Int) : Option Bool := (if a0 ≥ a1 then (some (decide (a0 ≤ a2))) else (some false))
theorem impl_between.J (a0 : Int) (a1 : Int) (a2 : Int) (r : Bool) (h : impl_between.f a0 a1 a2 = some r) : J prog (.call 42 [(I a0), (I a1), (I a2)] [] (B r) []) := by
  unfold impl_between.f at h
  refine .call' [c_ 2, c_ 3] ?_
  refine .reg' [0, 1, 2] [] ⟨[(0, (I a0)), (1, (I a1)), (2, (I a2))], [], [], []⟩ [c_ 6, c_ 7] aln nocal ?_
  by_cases c1 : a0 ≥ a1
  · rw [if_pos c1] at h
    refine .reg' [6] [.no, .no, .no, .v (B true)] ⟨[(6, (B (decide (a0 ≤ a2))))], [], [(B (decide (a0 ≥ a1)) : V) = B true], []⟩ [c_ 7] (alc (bT (dT c1)) aln) nocal ?_
    have h := Option.some.inj h
    subst h
    exact .fin0 [] (B (decide (a0 ≤ a2))) [] aln (.z .s)
  · rw [if_neg c1] at h
    refine .reg' [6] [.no, .no, .no, .v (B false)] ⟨[(6, (B false))], [], [(B (decide (a0 ≥ a1)) : V) = B false], []⟩ [c_ 7] (alc (bF (dF c1)) aln) nocal ?_
    have h := Option.some.inj h
    subst h
    exact .fin0 [] (B false) [] aln (.z .s)
/-! impl_fits: function 43 -/
def impl_fits.f (a0 : (List Int)) (a1 : Int) : Option Int := (if (a1.tmod (2 : Int)) = 0 then (if 0 ≤ (wrap64 (a1.tdiv (2 : Int))) then (if (wrap64 (a1.tdiv (2 : Int))) < (a0.length : Int) then (some (at_ a0 (wrap64 (a1.tdiv (2 : Int))))) else none) else none) else (some 1))
theorem impl_fits.J (a0 : (List Int)) (a1 : Int) (r : Int) (h : impl_fits.f a0 a1 = some r) : J prog (.call 43 [(.sl true a0.length 1 (a0.flatMap encI)), (I a1)] [] (I r) []) := by
  unfold impl_fits.f at h
  refine .call' [c_ 2, c_ 3] ?_
  refine .reg' [0, 1] [] ⟨[(0, (.sl true a0.length 1 (a0.flatMap encI))), (1, (I a1))], [], [], []⟩ [c_ 12, c_ 13, c_ 7] aln nocal ?_
  refine .reg' [0, 1, 7] [] ⟨[(0, (.sl true a0.length 1 (a0.flatMap encI))), (1, (I a1)), (7, (B ((a1.tmod (2 : Int)) == 0)))], [], [(2 : Int) ≠ 0], []⟩ [c_ 13, c_ 7] (alc (by decide) aln) nocal ?_
  by_cases c1 : (a1.tmod (2 : Int)) = 0
  · rw [if_pos c1] at h
    refine .cond' (.tmp 7) true [c_ 52, c_ 53, c_ 7] (bT (qT c1)) ?_
    by_cases c2 : 0 ≤ (wrap64 (a1.tdiv (2 : Int)))
    · rw [if_pos c2] at h
      by_cases c3 : (wrap64 (a1.tdiv (2 : Int))) < (a0.length : Int)
      · rw [if_pos c3] at h
        refine .reg' [4] [.no, .no, .no, .no, .v (I (at_ a0 (wrap64 (a1.tdiv (2 : Int)))))] ⟨[(4, (I (at_ a0 (wrap64 (a1.tdiv (2 : Int))))))], [], [(2 : Int) ≠ 0, (0 : Int) ≤ (wrap64 (a1.tdiv (2 : Int))) ∧ (wrap64 (a1.tdiv (2 : Int))) < (a0.length : Int), rdC prog 3 ((a0.flatMap encI).drop ((wrap64 (a1.tdiv (2 : Int))).toNat * 1)) = (I (at_ a0 (wrap64 (a1.tdiv (2 : Int))))), 1 ≤ ((a0.flatMap encI).drop ((wrap64 (a1.tdiv (2 : Int))).toNat * 1)).length], []⟩ [c_ 53, c_ 7] (alc (by decide) (alc ⟨c2, c3⟩ (alc (ldC1 encI_ok rfl c2 c3) (alc (okI encI_ok c2 c3 (by decide)) aln)))) nocal ?_
        have h := Option.some.inj h
        subst h
        exact .fin0 [] (I (at_ a0 (wrap64 (a1.tdiv (2 : Int))))) [] aln (.z .s)
      · rw [if_neg c3] at h
        cases h
    · rw [if_neg c2] at h
      cases h
  · rw [if_neg c1] at h
    refine .cond' (.tmp 7) false [c_ 14, c_ 15] (bF (qF c1)) ?_
    refine .reg' [4] [] ⟨[(4, (I 1))], [], [], []⟩ [c_ 15] aln nocal ?_
    have h := Option.some.inj h
    subst h
    exact .fin0 [] (I 1) [] aln (.z .s)
/-! impl_SinglesOk: function 16 -/
mutual
def impl_SinglesOk.l0 : Nat → (List Int) → (List S44) → Int → Option Bool
 | 0, _, _, _ => none
 | k + 1, a0, a1, x2 => (if x2 < (a0.length : Int) then (if 0 ≤ x2 then ((impl_between.f (at_ a0 x2) 1 4).bind fun x3 => (if x3 = true then (impl_SinglesOk.l0 k a0 a1 (wrap64 (x2 + 1))) else (some false))) else none) else (impl_SinglesOk.l1 k a0 a1 (List.replicate 9 (0 : Int)) 0))
def impl_SinglesOk.l1 : Nat → (List Int) → (List S44) → (List Int) → Int → Option Bool
 | 0, _, _, _, _ => none
 | k + 1, a0, a1, x4, x5 => (if x5 < (a1.length : Int) then (if 0 ≤ x5 then ((impl_between.f ((at_ a1 x5).f0) 0 (wrap64 ((wrap64 (2 * (a0.length : Int))) - 2))).bind fun x6 => (if x6 = true then ((impl_between.f ((at_ a1 x5).f1) 0 (wrap64 ((wrap64 (2 * (a0.length : Int))) - 2))).bind fun x7 => (if x7 = true then (if ((at_ a1 x5).f1.tmod (2 : Int)) = 0 then (if 0 ≤ (at_ a1 x5).f0 then (if (at_ a1 x5).f0 < 9 then (if (at_ a1 x5).f0 < (x4.length : Int) then ((impl_fits.f a0 ((at_ a1 x5).f0)).bind fun x8 => (if (wrap64 ((at_ x4 (at_ a1 x5).f0) + 1)) > x8 then (some false) else (impl_SinglesOk.l1 k a0 a1 (x4.set (at_ a1 x5).f0.toNat (wrap64 ((at_ x4 (at_ a1 x5).f0) + 1))) (wrap64 (x5 + 1))))) else none) else none) else none) else (some false)) else (some false))) else (some false))) else none) else (some true))
end
def impl_SinglesOk.f (k : Nat) (a0 : (List Int)) (a1 : (List S44)) : Option Bool := ((impl_between.f (a0.length : Int) 2 5).bind fun x1 => (if x1 = true then (if (a1.length : Int) > 4 then (some false) else (impl_SinglesOk.l0 k a0 a1 0)) else (some false)))
end Go.Proofs.Ytpjmefdpjlhkhaa.Fns
