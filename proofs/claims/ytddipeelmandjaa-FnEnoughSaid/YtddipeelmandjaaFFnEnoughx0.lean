/- The functions that the law FnEnough reaches, by the engine. Printed by a program of this seat. -/
import Derived.Test.YtddipeelmandjaaE5
import Derived.Test.YtddipeelmandjaaProg
namespace Go.Proofs.Ytddipeelmandjaa.Fns
open Go.Proofs.Try Go.Proofs.Ytddipeelmandjaa.Eng Go.RowKit
set_option maxRecDepth 100000
set_option linter.unusedVariables false
set_option linter.unusedSimpArgs false
structure S49 where
  f0 : Int
  f1 : Int
  f2 : Int
  deriving Inhabited
def e49 (x : S49) : List V := [I x.f0, I x.f1, I x.f2]
theorem e49_ok : Enc (e49) 3 where
  len := fun _ => rfl
  self := fun x v h H tb bor => by
    simp only [e49, List.mem_cons, List.not_mem_nil, or_false] at h
    rcases h with h | h | h
    · subst h; exact .s
    · subst h; exact .s
    · subst h; exact .s
  cln := fun x v h => by
    simp only [e49, List.mem_cons, List.not_mem_nil, or_false] at h
    rcases h with h | h | h
    · subst h; exact .s
    · subst h; exact .s
    · subst h; exact .s
theorem e49_c {b : Bool} : EncC b e49 := by
  intro x v h
  simp only [e49, List.mem_cons, List.not_mem_nil, or_false] at h
  rcases h with h | h | h
  · subst h; exact .s
  · subst h; exact .s
  · subst h; exact .s
structure S69 where
  f0 : (List Int)
  f1 : Int
  f2 : Int
  deriving Inhabited
def e69 (t : Bool) (x : S69) : List V := [.sl t x.f0.length 1 (x.f0.flatMap encU), I x.f1, I x.f2]
theorem e69_ok (t : Bool) : Enc (e69 t) 3 where
  len := fun _ => rfl
  self := fun x v h H tb bor => by
    simp only [e69, List.mem_cons, List.not_mem_nil, or_false] at h
    rcases h with h | h | h
    · subst h; exact frz_sl encU_ok id
    · subst h; exact .s
    · subst h; exact .s
  cln := fun x v h => by
    simp only [e69, List.mem_cons, List.not_mem_nil, or_false] at h
    rcases h with h | h | h
    · subst h; exact cln_sl encU_ok
    · subst h; exact .s
    · subst h; exact .s
theorem e69_to (x : S69) {H : Nat → Option (List V)} {tb : Bool} {bor : List Nat} : All2 (Frz H tb bor) (e69 false x) (e69 true x) := (a2c (frz_sl encU_ok (fun h => absurd h (by decide))) (a2c .s (a2c .s a2n)))
theorem e69_c1 : EncC true (e69 true) := by
  intro x v h
  simp only [e69, List.mem_cons, List.not_mem_nil, or_false] at h
  rcases h with h | h | h
  · subst h; exact clnS encU_c (fun h => rfl)
  · subst h; exact .s
  · subst h; exact .s
theorem e69_c0 {b : Bool} : EncC b (e69 false) := by
  intro x v h
  simp only [e69, List.mem_cons, List.not_mem_nil, or_false] at h
  rcases h with h | h | h
  · subst h; exact clnS encU_c (fun h => absurd h (by decide))
  · subst h; exact .s
  · subst h; exact .s
/-! laws_big: function 34 -/
def laws_big.f (a0 : (List Int)) : Option Bool := (some (decide ((a0.length : Int) > 1048576)))
theorem laws_big.J (a0 : (List Int)) (r : Bool) (h : laws_big.f a0 = some r) : J prog (.call 34 [(.sl true a0.length 1 (a0.flatMap encU))] [] (B r) []) := by
  unfold laws_big.f at h
  refine .call' [c_ 2, c_ 3] ?_
  refine .reg' [0] [] ⟨[(0, (.sl true a0.length 1 (a0.flatMap encU)))], [], [], []⟩ [c_ 6, c_ 7] aln nocal ?_
  refine .reg' [2] [] ⟨[(2, (B (decide ((a0.length : Int) > 1048576))))], [], [], []⟩ [c_ 7] aln nocal ?_
  have h := Option.some.inj h
  subst h
  exact .fin0 [] (B (decide ((a0.length : Int) > 1048576))) [] aln (.z .s)
/-! spec_l01New: function 52 -/
def spec_l01New.l0 : Nat → (List Int) → Int → Int → Option S69
 | 0, _, _, _ => none
 | k + 1, a0, x1, x2 => (if x2 < (a0.length : Int) then (if x2 < 4000 then (if 0 ≤ x2 then (spec_l01New.l0 k a0 (bAnd (wrap64 ((wrap64 ((wrap64 (x1 * 137)) + (IntKind.i64.wrap (at_ a0 x2)))) + 11)) 1073741823) (wrap64 (x2 + 1))) else none) else (some (⟨a0, 0, x1⟩ : S69))) else (some (⟨a0, 0, x1⟩ : S69)))
def spec_l01New.f (k : Nat) (a0 : (List Int)) : Option S69 := (spec_l01New.l0 k a0 (wrap64 (75075 + (a0.length : Int))) 0)
theorem spec_l01New.lab : ∀ k, (∀ (a0 : (List Int)) (x1 : Int) (x2 : Int) (r : S69), spec_l01New.l0 k a0 x1 x2 = some r → J prog (.run 52 [] [l_ 58, b_ 0, c_ 15] [(0, (.sl false a0.length 1 (a0.flatMap encU))), (3, (I x1)), (4, (I x2))] [] (.pt 1795 0 3) [(1795, [(.sl false r.f0.length 1 (r.f0.flatMap encU)), (I r.f1), (I r.f2)])]))
 | 0 => (by intro a0 x1 x2 r h; unfold spec_l01New.l0 at h; cases h)
 | k + 1 => by
  have ih0 := spec_l01New.lab k
  · intro a0 x1 x2 r h
    unfold spec_l01New.l0 at h
    refine .loop' [c_ 464, c_ 465, c_ 233, l_ 58, b_ 0, c_ 15] ?_
    by_cases c1 : x2 < (a0.length : Int)
    · rw [if_pos c1] at h
      refine .reg' [0, 3, 4, 15] [.no, .no, .no, .no, .v (B true)] ⟨[(0, (.sl false a0.length 1 (a0.flatMap encU))), (3, (I x1)), (4, (I x2)), (15, (B (decide (x2 < 4000))))], [], [(B (decide (x2 < (a0.length : Int))) : V) = B true], []⟩ [c_ 465, c_ 233, l_ 58, b_ 0, c_ 15] (alc (bT (dT c1)) aln) nocal ?_
      by_cases c2 : x2 < 4000
      · rw [if_pos c2] at h
        refine .cond' (.tmp 15) true [c_ 932, b_ 1, c_ 467, l_ 58, b_ 0, c_ 15] (bT (dT c2)) ?_
        by_cases c3 : 0 ≤ x2
        · rw [if_pos c3] at h
          refine .reg' [0, 3, 4] [.no, .no, .no, .no, .no, .v (U (at_ a0 x2))] ⟨[(0, (.sl false a0.length 1 (a0.flatMap encU))), (3, (I (bAnd (wrap64 ((wrap64 ((wrap64 (x1 * 137)) + (IntKind.i64.wrap (at_ a0 x2)))) + 11)) 1073741823))), (4, (I x2))], [], [(0 : Int) ≤ x2 ∧ x2 < (a0.length : Int), rdC prog 5 ((a0.flatMap encU).drop (x2.toNat * 1)) = (U (at_ a0 x2)), 1 ≤ ((a0.flatMap encU).drop (x2.toNat * 1)).length], []⟩ [c_ 467, l_ 58, b_ 0, c_ 15] (alc ⟨c3, c1⟩ (alc (ldC1 encU_ok rfl c3 c1) (alc (okI encU_ok c3 c1 (by decide)) aln))) nocal ?_
          refine .reg' [0, 3, 4] [] ⟨[(0, (.sl false a0.length 1 (a0.flatMap encU))), (3, (I (bAnd (wrap64 ((wrap64 ((wrap64 (x1 * 137)) + (IntKind.i64.wrap (at_ a0 x2)))) + 11)) 1073741823))), (4, (I (wrap64 (x2 + 1))))], [], [], []⟩ [l_ 58, b_ 0, c_ 15] aln nocal ?_
          exact ih0 a0 (bAnd (wrap64 ((wrap64 ((wrap64 (x1 * 137)) + (IntKind.i64.wrap (at_ a0 x2)))) + 11)) 1073741823) (wrap64 (x2 + 1)) _ h
        · rw [if_neg c3] at h
          cases h
      · rw [if_neg c2] at h
        refine .cond' (.tmp 15) false [c_ 30, c_ 31] (bF (dF c2)) ?_
        refine .reg' [2] [] ⟨[(2, (.pt 1795 0 3))], [(1795, [(.sl false a0.length 1 (a0.flatMap encU)), (I 0), (I x1)])], [], []⟩ [c_ 31] aln nocal ?_
        have h := Option.some.inj h
        subst h
        exact .fin' [] [(1795, 1795)] (.pt 1795 0 3) [] aln (shc 1795 (a2c (.z (frz_sl encU_ok (fun h => h))) (a2c (.z .s) (a2c (.z .s) a2n))) shn) (.pt (memP_mem (p := (1795, 1795)) rfl))
    · rw [if_neg c1] at h
      refine .reg' [0, 3, 4, 15] [.no, .no, .no, .no, .v (B false)] ⟨[(0, (.sl false a0.length 1 (a0.flatMap encU))), (3, (I x1)), (4, (I x2)), (15, (B false))], [], [(B (decide (x2 < (a0.length : Int))) : V) = B false], []⟩ [c_ 465, c_ 233, l_ 58, b_ 0, c_ 15] (alc (bF (dF c1)) aln) nocal ?_
      refine .cond' (.tmp 15) false [c_ 30, c_ 31] (rfl) ?_
      refine .reg' [2] [] ⟨[(2, (.pt 1795 0 3))], [(1795, [(.sl false a0.length 1 (a0.flatMap encU)), (I 0), (I x1)])], [], []⟩ [c_ 31] aln nocal ?_
      have h := Option.some.inj h
      subst h
      exact .fin' [] [(1795, 1795)] (.pt 1795 0 3) [] aln (shc 1795 (a2c (.z (frz_sl encU_ok (fun h => h))) (a2c (.z .s) (a2c (.z .s) a2n))) shn) (.pt (memP_mem (p := (1795, 1795)) rfl))
theorem spec_l01New.J (k : Nat) (a0 : (List Int)) (r : S69) (h : spec_l01New.f k a0 = some r) : J prog (.call 52 [(.sl false a0.length 1 (a0.flatMap encU))] [] (.pt 1795 0 3) [(1795, [(.sl false r.f0.length 1 (r.f0.flatMap encU)), (I r.f1), (I r.f2)])]) := by
  unfold spec_l01New.f at h
  have ih0 := spec_l01New.lab k
  refine .call' [c_ 2, c_ 3] ?_
  refine .reg' [0] [] ⟨[(0, (.sl false a0.length 1 (a0.flatMap encU)))], [], [], []⟩ [c_ 6, c_ 7] aln nocal ?_
  refine .reg' [0, 3] [] ⟨[(0, (.sl false a0.length 1 (a0.flatMap encU))), (3, (I (wrap64 (75075 + (a0.length : Int)))))], [], [], []⟩ [c_ 28, c_ 29, c_ 15] aln nocal ?_
  refine .reg' [0, 3, 4] [] ⟨[(0, (.sl false a0.length 1 (a0.flatMap encU))), (3, (I (wrap64 (75075 + (a0.length : Int))))), (4, (I 0))], [], [], []⟩ [l_ 58, b_ 0, c_ 15] aln nocal ?_
  exact ih0 a0 (wrap64 (75075 + (a0.length : Int))) 0 _ h
/-! spec_l01Byte: function 62 -/
def spec_l01Byte.f (a0 : S69) : Option (Int × S69) := (if a0.f1 < (a0.f0.length : Int) then (if 0 ≤ a0.f1 then (some ((bAnd (wrap64 ((bAnd (bXor ((wrap64 ((wrap64 (a0.f2 * 6364136223846793005)) + 1442695040888963407)).fdiv (2 ^ 33)) ((wrap64 ((wrap64 (a0.f2 * 6364136223846793005)) + 1442695040888963407)).fdiv (2 ^ 45))) 255) + (IntKind.i64.wrap (at_ a0.f0 a0.f1)))) 255), (⟨a0.f0, (wrap64 (a0.f1 + 1)), (wrap64 ((wrap64 (a0.f2 * 6364136223846793005)) + 1442695040888963407))⟩ : S69))) else none) else (some ((bAnd (bXor ((wrap64 ((wrap64 (a0.f2 * 6364136223846793005)) + 1442695040888963407)).fdiv (2 ^ 33)) ((wrap64 ((wrap64 (a0.f2 * 6364136223846793005)) + 1442695040888963407)).fdiv (2 ^ 45))) 255), (⟨a0.f0, a0.f1, (wrap64 ((wrap64 (a0.f2 * 6364136223846793005)) + 1442695040888963407))⟩ : S69))))
theorem spec_l01Byte.J (a0 : S69) (r : (Int × S69)) (h : spec_l01Byte.f a0 = some r) : J prog (.call 62 [(.pt 0 0 3)] [(0, [(.sl false a0.f0.length 1 (a0.f0.flatMap encU)), (I a0.f1), (I a0.f2)])] (I r.1) [(0, [(.sl false r.2.f0.length 1 (r.2.f0.flatMap encU)), (I r.2.f1), (I r.2.f2)])]) := by
  unfold spec_l01Byte.f at h
  refine .call' [c_ 2, c_ 3] ?_
  refine .reg' [0] [] ⟨[(0, (.pt 0 0 3))], [(0, [(.sl false a0.f0.length 1 (a0.f0.flatMap encU)), (I a0.f1), (I a0.f2)])], [], []⟩ [c_ 6, c_ 7] aln nocal ?_
  refine .reg' [0] [] ⟨[(0, (.pt 0 0 3))], [(0, [(.sl false a0.f0.length 1 (a0.f0.flatMap encU)), (I a0.f1), (I (wrap64 ((wrap64 (a0.f2 * 6364136223846793005)) + 1442695040888963407)))])], [3 = 3 ∧ 2 + 1 ≤ 3, 3 = 3 ∧ 2 + 1 ≤ 3], []⟩ [c_ 14, c_ 15] (alc ⟨rfl, by decide⟩ (alc ⟨rfl, by decide⟩ aln)) nocal ?_
  refine .reg' [0, 3] [] ⟨[(0, (.pt 0 0 3)), (3, (I (bAnd (bXor ((wrap64 ((wrap64 (a0.f2 * 6364136223846793005)) + 1442695040888963407)).fdiv (2 ^ 33)) ((wrap64 ((wrap64 (a0.f2 * 6364136223846793005)) + 1442695040888963407)).fdiv (2 ^ 45))) 255)))], [(0, [(.sl false a0.f0.length 1 (a0.f0.flatMap encU)), (I a0.f1), (I (wrap64 ((wrap64 (a0.f2 * 6364136223846793005)) + 1442695040888963407)))])], [3 = 3 ∧ 2 + 1 ≤ 3, 3 = 3 ∧ 2 + 1 ≤ 3], []⟩ [c_ 60, c_ 61, c_ 31] (alc ⟨rfl, by decide⟩ (alc ⟨rfl, by decide⟩ aln)) nocal ?_
  refine .reg' [0, 3, 34] [] ⟨[(0, (.pt 0 0 3)), (3, (I (bAnd (bXor ((wrap64 ((wrap64 (a0.f2 * 6364136223846793005)) + 1442695040888963407)).fdiv (2 ^ 33)) ((wrap64 ((wrap64 (a0.f2 * 6364136223846793005)) + 1442695040888963407)).fdiv (2 ^ 45))) 255))), (34, (B (decide (a0.f1 < (a0.f0.length : Int)))))], [(0, [(.sl false a0.f0.length 1 (a0.f0.flatMap encU)), (I a0.f1), (I (wrap64 ((wrap64 (a0.f2 * 6364136223846793005)) + 1442695040888963407)))])], [3 = 3 ∧ 1 + 1 ≤ 3, 3 = 3 ∧ 0 + 1 ≤ 3], []⟩ [c_ 61, c_ 31] (alc ⟨rfl, by decide⟩ (alc ⟨rfl, by decide⟩ aln)) nocal ?_
  by_cases c1 : a0.f1 < (a0.f0.length : Int)
  · rw [if_pos c1] at h
    refine .cond' (.tmp 34) true [c_ 244, c_ 245, c_ 31] (bT (dT c1)) ?_
    by_cases c2 : 0 ≤ a0.f1
    · rw [if_pos c2] at h
      refine .reg' [0, 3] [.no, .no, .no, .no, .no, .no, .no, .no, .no, .no, .v (U (at_ a0.f0 a0.f1))] ⟨[(0, (.pt 0 0 3)), (3, (I (bAnd (wrap64 ((bAnd (bXor ((wrap64 ((wrap64 (a0.f2 * 6364136223846793005)) + 1442695040888963407)).fdiv (2 ^ 33)) ((wrap64 ((wrap64 (a0.f2 * 6364136223846793005)) + 1442695040888963407)).fdiv (2 ^ 45))) 255) + (IntKind.i64.wrap (at_ a0.f0 a0.f1)))) 255)))], [(0, [(.sl false a0.f0.length 1 (a0.f0.flatMap encU)), (I a0.f1), (I (wrap64 ((wrap64 (a0.f2 * 6364136223846793005)) + 1442695040888963407)))])], [3 = 3 ∧ 0 + 1 ≤ 3, 3 = 3 ∧ 1 + 1 ≤ 3, (0 : Int) ≤ a0.f1 ∧ a0.f1 < (a0.f0.length : Int), rdC prog 5 ((a0.f0.flatMap encU).drop (a0.f1.toNat * 1)) = (U (at_ a0.f0 a0.f1)), 1 ≤ ((a0.f0.flatMap encU).drop (a0.f1.toNat * 1)).length], []⟩ [c_ 245, c_ 31] (alc ⟨rfl, by decide⟩ (alc ⟨rfl, by decide⟩ (alc ⟨c2, c1⟩ (alc (ldC1 encU_ok rfl c2 c1) (alc (okI encU_ok c2 c1 (by decide)) aln))))) nocal ?_
      refine .reg' [3] [] ⟨[(3, (I (bAnd (wrap64 ((bAnd (bXor ((wrap64 ((wrap64 (a0.f2 * 6364136223846793005)) + 1442695040888963407)).fdiv (2 ^ 33)) ((wrap64 ((wrap64 (a0.f2 * 6364136223846793005)) + 1442695040888963407)).fdiv (2 ^ 45))) 255) + (IntKind.i64.wrap (at_ a0.f0 a0.f1)))) 255)))], [(0, [(.sl false a0.f0.length 1 (a0.f0.flatMap encU)), (I (wrap64 (a0.f1 + 1))), (I (wrap64 ((wrap64 (a0.f2 * 6364136223846793005)) + 1442695040888963407)))])], [3 = 3 ∧ 1 + 1 ≤ 3, 3 = 3 ∧ 1 + 1 ≤ 3], []⟩ [c_ 62, c_ 63] (alc ⟨rfl, by decide⟩ (alc ⟨rfl, by decide⟩ aln)) nocal ?_
      refine .reg' [2] [] ⟨[(2, (I (bAnd (wrap64 ((bAnd (bXor ((wrap64 ((wrap64 (a0.f2 * 6364136223846793005)) + 1442695040888963407)).fdiv (2 ^ 33)) ((wrap64 ((wrap64 (a0.f2 * 6364136223846793005)) + 1442695040888963407)).fdiv (2 ^ 45))) 255) + (IntKind.i64.wrap (at_ a0.f0 a0.f1)))) 255)))], [(0, [(.sl false a0.f0.length 1 (a0.f0.flatMap encU)), (I (wrap64 (a0.f1 + 1))), (I (wrap64 ((wrap64 (a0.f2 * 6364136223846793005)) + 1442695040888963407)))])], [], []⟩ [c_ 63] aln nocal ?_
      have h := Option.some.inj h
      subst h
      exact .fin' [] [(0, 0)] (I (bAnd (wrap64 ((bAnd (bXor ((wrap64 ((wrap64 (a0.f2 * 6364136223846793005)) + 1442695040888963407)).fdiv (2 ^ 33)) ((wrap64 ((wrap64 (a0.f2 * 6364136223846793005)) + 1442695040888963407)).fdiv (2 ^ 45))) 255) + (IntKind.i64.wrap (at_ a0.f0 a0.f1)))) 255)) [] aln (shc 0 (a2c (.z (frz_sl encU_ok (fun h => h))) (a2c (.z .s) (a2c (.z .s) a2n))) shn) (.z .s)
    · rw [if_neg c2] at h
      cases h
  · rw [if_neg c1] at h
    refine .cond' (.tmp 34) false [c_ 62, c_ 63] (bF (dF c1)) ?_
    refine .reg' [2] [] ⟨[(2, (I (bAnd (bXor ((wrap64 ((wrap64 (a0.f2 * 6364136223846793005)) + 1442695040888963407)).fdiv (2 ^ 33)) ((wrap64 ((wrap64 (a0.f2 * 6364136223846793005)) + 1442695040888963407)).fdiv (2 ^ 45))) 255)))], [(0, [(.sl false a0.f0.length 1 (a0.f0.flatMap encU)), (I a0.f1), (I (wrap64 ((wrap64 (a0.f2 * 6364136223846793005)) + 1442695040888963407)))])], [], []⟩ [c_ 63] aln nocal ?_
    have h := Option.some.inj h
    subst h
    exact .fin' [] [(0, 0)] (I (bAnd (bXor ((wrap64 ((wrap64 (a0.f2 * 6364136223846793005)) + 1442695040888963407)).fdiv (2 ^ 33)) ((wrap64 ((wrap64 (a0.f2 * 6364136223846793005)) + 1442695040888963407)).fdiv (2 ^ 45))) 255)) [] aln (shc 0 (a2c (.z (frz_sl encU_ok (fun h => h))) (a2c (.z .s) (a2c (.z .s) a2n))) shn) (.z .s)
/-! spec_l01Below: function 55 -/
def spec_l01Below.f (a0 : S69) (a1 : Int) : Option (Int × S69) := (if a1 ≤ 0 then (some (0, a0)) else (if a1 ≤ 256 then ((spec_l01Byte.f a0).bind fun x1 => (if a1 ≠ 0 then (some ((x1.1.tmod a1), x1.2)) else none)) else ((spec_l01Byte.f a0).bind fun x2 => ((spec_l01Byte.f x2.2).bind fun x3 => ((spec_l01Byte.f x3.2).bind fun x4 => (if a1 ≠ 0 then (some (((wrap64 ((wrap64 ((wrap64 (x2.1 * 65536)) + (wrap64 (x3.1 * 256)))) + x4.1)).tmod a1), x4.2)) else none))))))
theorem spec_l01Below.J (a0 : S69) (a1 : Int) (r : (Int × S69)) (h : spec_l01Below.f a0 a1 = some r) : J prog (.call 55 [(.pt 0 0 3), (I a1)] [(0, [(.sl false a0.f0.length 1 (a0.f0.flatMap encU)), (I a0.f1), (I a0.f2)])] (I r.1) [(0, [(.sl false r.2.f0.length 1 (r.2.f0.flatMap encU)), (I r.2.f1), (I r.2.f2)])]) := by
  unfold spec_l01Below.f at h
  refine .call' [c_ 2, c_ 3] ?_
  refine .reg' [0, 1] [] ⟨[(0, (.pt 0 0 3)), (1, (I a1))], [(0, [(.sl false a0.f0.length 1 (a0.f0.flatMap encU)), (I a0.f1), (I a0.f2)])], [], []⟩ [c_ 12, c_ 13, c_ 7] aln nocal ?_
  refine .reg' [0, 1, 9] [] ⟨[(0, (.pt 0 0 3)), (1, (I a1)), (9, (B (decide (a1 ≤ 0))))], [(0, [(.sl false a0.f0.length 1 (a0.f0.flatMap encU)), (I a0.f1), (I a0.f2)])], [], []⟩ [c_ 13, c_ 7] aln nocal ?_
  by_cases c1 : a1 ≤ 0
  · rw [if_pos c1] at h
    refine .cond' (.tmp 9) true [c_ 52, c_ 53, c_ 7] (bT (dT c1)) ?_
    refine .reg' [4] [] ⟨[(4, (I 0))], [(0, [(.sl false a0.f0.length 1 (a0.f0.flatMap encU)), (I a0.f1), (I a0.f2)])], [], []⟩ [c_ 53, c_ 7] aln nocal ?_
    have h := Option.some.inj h
    subst h
    exact .fin' [] [(0, 0)] (I 0) [] aln (shc 0 (a2c (.z (frz_sl encU_ok (fun h => h))) (a2c (.z .s) (a2c (.z .s) a2n))) shn) (.z .s)
  · rw [if_neg c1] at h
    refine .cond' (.tmp 9) false [c_ 28, c_ 29, c_ 15] (bF (dF c1)) ?_
    refine .reg' [0, 1, 11] [] ⟨[(0, (.pt 0 0 3)), (1, (I a1)), (11, (B (decide (a1 ≤ 256))))], [(0, [(.sl false a0.f0.length 1 (a0.f0.flatMap encU)), (I a0.f1), (I a0.f2)])], [], []⟩ [c_ 29, c_ 15] aln nocal ?_
    by_cases c2 : a1 ≤ 256
    · rw [if_pos c2] at h
      refine .cond' (.tmp 11) true [c_ 116, c_ 117, c_ 15] (bT (dT c2)) ?_
      obtain ⟨x1, hx1, h⟩ := Option.bind_eq_some_iff.mp h
      by_cases c3 : a1 ≠ 0
      · rw [if_pos c3] at h
        refine .reg' [4] [.no, .c ⟨62, [(.pt 0 0 3)], [(0, [(.sl false a0.f0.length 1 (a0.f0.flatMap encU)), (I a0.f1), (I a0.f2)])], (I x1.1), [(0, [(.sl false x1.2.f0.length 1 (x1.2.f0.flatMap encU)), (I x1.2.f1), (I x1.2.f2)])], [], [(0, 0)], [(0, 0)], (I x1.1), [(0, [(.sl false x1.2.f0.length 1 (x1.2.f0.flatMap encU)), (I x1.2.f1), (I x1.2.f2)])]⟩] ⟨[(4, (I (x1.1.tmod a1)))], [(0, [(.sl false x1.2.f0.length 1 (x1.2.f0.flatMap encU)), (I x1.2.f1), (I x1.2.f2)])], [COK (hget [(0, [(.sl false a0.f0.length 1 (a0.f0.flatMap encU)), (I a0.f1), (I a0.f2)])]) [(.pt 0 0 3)] ⟨62, [(.pt 0 0 3)], [(0, [(.sl false a0.f0.length 1 (a0.f0.flatMap encU)), (I a0.f1), (I a0.f2)])], (I x1.1), [(0, [(.sl false x1.2.f0.length 1 (x1.2.f0.flatMap encU)), (I x1.2.f1), (I x1.2.f2)])], [], [(0, 0)], [(0, 0)], (I x1.1), [(0, [(.sl false x1.2.f0.length 1 (x1.2.f0.flatMap encU)), (I x1.2.f1), (I x1.2.f2)])]⟩, a1 ≠ 0], [⟨62, [(.pt 0 0 3)], [(0, [(.sl false a0.f0.length 1 (a0.f0.flatMap encU)), (I a0.f1), (I a0.f2)])], (I x1.1), [(0, [(.sl false x1.2.f0.length 1 (x1.2.f0.flatMap encU)), (I x1.2.f1), (I x1.2.f2)])], [], [(0, 0)], [(0, 0)], (I x1.1), [(0, [(.sl false x1.2.f0.length 1 (x1.2.f0.flatMap encU)), (I x1.2.f1), (I x1.2.f2)])]⟩]⟩ [c_ 117, c_ 15] (alc (cokW false (a2c (.pt (memP_mem (p := (0, 0)) rfl)) a2n) (akc ⟨_, _, rfl, rfl, (a2c (.z (frz_sl encU_ok (fun h => h))) (a2c (.z .s) (a2c (.z .s) a2n)))⟩ akn) (akc (.inl rfl) akn) (.z .s) (akc ⟨_, _, rfl, rfl, (a2c (.z (clnS encU_c (fun h => absurd h (by decide)))) (a2c (.z .s) (a2c (.z .s) a2n)))⟩ akn) (fun h => absurd h (by decide))) (alc c3 aln)) (acal (spec_l01Byte.J a0 _ hx1) nocal) ?_
        have h := Option.some.inj h
        subst h
        exact .fin' [] [(0, 0)] (I (x1.1.tmod a1)) [] aln (shc 0 (a2c (.z (frz_sl encU_ok (fun h => h))) (a2c (.z .s) (a2c (.z .s) a2n))) shn) (.z .s)
      · rw [if_neg c3] at h
        cases h
    · rw [if_neg c2] at h
      refine .cond' (.tmp 11) false [c_ 30, c_ 31] (bF (dF c2)) ?_
      obtain ⟨x2, hx2, h⟩ := Option.bind_eq_some_iff.mp h
      refine .reg' [0, 1, 5] [.no, .c ⟨62, [(.pt 0 0 3)], [(0, [(.sl false a0.f0.length 1 (a0.f0.flatMap encU)), (I a0.f1), (I a0.f2)])], (I x2.1), [(0, [(.sl false x2.2.f0.length 1 (x2.2.f0.flatMap encU)), (I x2.2.f1), (I x2.2.f2)])], [], [(0, 0)], [(0, 0)], (I x2.1), [(0, [(.sl false x2.2.f0.length 1 (x2.2.f0.flatMap encU)), (I x2.2.f1), (I x2.2.f2)])]⟩] ⟨[(0, (.pt 0 0 3)), (1, (I a1)), (5, (I x2.1))], [(0, [(.sl false x2.2.f0.length 1 (x2.2.f0.flatMap encU)), (I x2.2.f1), (I x2.2.f2)])], [COK (hget [(0, [(.sl false a0.f0.length 1 (a0.f0.flatMap encU)), (I a0.f1), (I a0.f2)])]) [(.pt 0 0 3)] ⟨62, [(.pt 0 0 3)], [(0, [(.sl false a0.f0.length 1 (a0.f0.flatMap encU)), (I a0.f1), (I a0.f2)])], (I x2.1), [(0, [(.sl false x2.2.f0.length 1 (x2.2.f0.flatMap encU)), (I x2.2.f1), (I x2.2.f2)])], [], [(0, 0)], [(0, 0)], (I x2.1), [(0, [(.sl false x2.2.f0.length 1 (x2.2.f0.flatMap encU)), (I x2.2.f1), (I x2.2.f2)])]⟩], [⟨62, [(.pt 0 0 3)], [(0, [(.sl false a0.f0.length 1 (a0.f0.flatMap encU)), (I a0.f1), (I a0.f2)])], (I x2.1), [(0, [(.sl false x2.2.f0.length 1 (x2.2.f0.flatMap encU)), (I x2.2.f1), (I x2.2.f2)])], [], [(0, 0)], [(0, 0)], (I x2.1), [(0, [(.sl false x2.2.f0.length 1 (x2.2.f0.flatMap encU)), (I x2.2.f1), (I x2.2.f2)])]⟩]⟩ [c_ 62, c_ 63] (alc (cokW false (a2c (.pt (memP_mem (p := (0, 0)) rfl)) a2n) (akc ⟨_, _, rfl, rfl, (a2c (.z (frz_sl encU_ok (fun h => h))) (a2c (.z .s) (a2c (.z .s) a2n)))⟩ akn) (akc (.inl rfl) akn) (.z .s) (akc ⟨_, _, rfl, rfl, (a2c (.z (clnS encU_c (fun h => absurd h (by decide)))) (a2c (.z .s) (a2c (.z .s) a2n)))⟩ akn) (fun h => absurd h (by decide))) aln) (acal (spec_l01Byte.J a0 _ hx2) nocal) ?_
      obtain ⟨x3, hx3, h⟩ := Option.bind_eq_some_iff.mp h
      refine .reg' [0, 1, 5, 6] [.no, .c ⟨62, [(.pt 0 0 3)], [(0, [(.sl false x2.2.f0.length 1 (x2.2.f0.flatMap encU)), (I x2.2.f1), (I x2.2.f2)])], (I x3.1), [(0, [(.sl false x3.2.f0.length 1 (x3.2.f0.flatMap encU)), (I x3.2.f1), (I x3.2.f2)])], [], [(0, 0)], [(0, 0)], (I x3.1), [(0, [(.sl false x3.2.f0.length 1 (x3.2.f0.flatMap encU)), (I x3.2.f1), (I x3.2.f2)])]⟩] ⟨[(0, (.pt 0 0 3)), (1, (I a1)), (5, (I x2.1)), (6, (I x3.1))], [(0, [(.sl false x3.2.f0.length 1 (x3.2.f0.flatMap encU)), (I x3.2.f1), (I x3.2.f2)])], [COK (hget [(0, [(.sl false x2.2.f0.length 1 (x2.2.f0.flatMap encU)), (I x2.2.f1), (I x2.2.f2)])]) [(.pt 0 0 3)] ⟨62, [(.pt 0 0 3)], [(0, [(.sl false x2.2.f0.length 1 (x2.2.f0.flatMap encU)), (I x2.2.f1), (I x2.2.f2)])], (I x3.1), [(0, [(.sl false x3.2.f0.length 1 (x3.2.f0.flatMap encU)), (I x3.2.f1), (I x3.2.f2)])], [], [(0, 0)], [(0, 0)], (I x3.1), [(0, [(.sl false x3.2.f0.length 1 (x3.2.f0.flatMap encU)), (I x3.2.f1), (I x3.2.f2)])]⟩], [⟨62, [(.pt 0 0 3)], [(0, [(.sl false x2.2.f0.length 1 (x2.2.f0.flatMap encU)), (I x2.2.f1), (I x2.2.f2)])], (I x3.1), [(0, [(.sl false x3.2.f0.length 1 (x3.2.f0.flatMap encU)), (I x3.2.f1), (I x3.2.f2)])], [], [(0, 0)], [(0, 0)], (I x3.1), [(0, [(.sl false x3.2.f0.length 1 (x3.2.f0.flatMap encU)), (I x3.2.f1), (I x3.2.f2)])]⟩]⟩ [c_ 126, c_ 127] (alc (cokW false (a2c (.pt (memP_mem (p := (0, 0)) rfl)) a2n) (akc ⟨_, _, rfl, rfl, (a2c (.z (frz_sl encU_ok (fun h => h))) (a2c (.z .s) (a2c (.z .s) a2n)))⟩ akn) (akc (.inl rfl) akn) (.z .s) (akc ⟨_, _, rfl, rfl, (a2c (.z (clnS encU_c (fun h => absurd h (by decide)))) (a2c (.z .s) (a2c (.z .s) a2n)))⟩ akn) (fun h => absurd h (by decide))) aln) (acal (spec_l01Byte.J x2.2 _ hx3) nocal) ?_
      obtain ⟨x4, hx4, h⟩ := Option.bind_eq_some_iff.mp h
      refine .reg' [1, 5, 6, 7] [.no, .c ⟨62, [(.pt 0 0 3)], [(0, [(.sl false x3.2.f0.length 1 (x3.2.f0.flatMap encU)), (I x3.2.f1), (I x3.2.f2)])], (I x4.1), [(0, [(.sl false x4.2.f0.length 1 (x4.2.f0.flatMap encU)), (I x4.2.f1), (I x4.2.f2)])], [], [(0, 0)], [(0, 0)], (I x4.1), [(0, [(.sl false x4.2.f0.length 1 (x4.2.f0.flatMap encU)), (I x4.2.f1), (I x4.2.f2)])]⟩] ⟨[(1, (I a1)), (5, (I x2.1)), (6, (I x3.1)), (7, (I x4.1))], [(0, [(.sl false x4.2.f0.length 1 (x4.2.f0.flatMap encU)), (I x4.2.f1), (I x4.2.f2)])], [COK (hget [(0, [(.sl false x3.2.f0.length 1 (x3.2.f0.flatMap encU)), (I x3.2.f1), (I x3.2.f2)])]) [(.pt 0 0 3)] ⟨62, [(.pt 0 0 3)], [(0, [(.sl false x3.2.f0.length 1 (x3.2.f0.flatMap encU)), (I x3.2.f1), (I x3.2.f2)])], (I x4.1), [(0, [(.sl false x4.2.f0.length 1 (x4.2.f0.flatMap encU)), (I x4.2.f1), (I x4.2.f2)])], [], [(0, 0)], [(0, 0)], (I x4.1), [(0, [(.sl false x4.2.f0.length 1 (x4.2.f0.flatMap encU)), (I x4.2.f1), (I x4.2.f2)])]⟩], [⟨62, [(.pt 0 0 3)], [(0, [(.sl false x3.2.f0.length 1 (x3.2.f0.flatMap encU)), (I x3.2.f1), (I x3.2.f2)])], (I x4.1), [(0, [(.sl false x4.2.f0.length 1 (x4.2.f0.flatMap encU)), (I x4.2.f1), (I x4.2.f2)])], [], [(0, 0)], [(0, 0)], (I x4.1), [(0, [(.sl false x4.2.f0.length 1 (x4.2.f0.flatMap encU)), (I x4.2.f1), (I x4.2.f2)])]⟩]⟩ [c_ 254, c_ 255] (alc (cokW false (a2c (.pt (memP_mem (p := (0, 0)) rfl)) a2n) (akc ⟨_, _, rfl, rfl, (a2c (.z (frz_sl encU_ok (fun h => h))) (a2c (.z .s) (a2c (.z .s) a2n)))⟩ akn) (akc (.inl rfl) akn) (.z .s) (akc ⟨_, _, rfl, rfl, (a2c (.z (clnS encU_c (fun h => absurd h (by decide)))) (a2c (.z .s) (a2c (.z .s) a2n)))⟩ akn) (fun h => absurd h (by decide))) aln) (acal (spec_l01Byte.J x3.2 _ hx4) nocal) ?_
      by_cases c4 : a1 ≠ 0
      · rw [if_pos c4] at h
        refine .reg' [4] [] ⟨[(4, (I ((wrap64 ((wrap64 ((wrap64 (x2.1 * 65536)) + (wrap64 (x3.1 * 256)))) + x4.1)).tmod a1)))], [(0, [(.sl false x4.2.f0.length 1 (x4.2.f0.flatMap encU)), (I x4.2.f1), (I x4.2.f2)])], [a1 ≠ 0], []⟩ [c_ 255] (alc c4 aln) nocal ?_
        have h := Option.some.inj h
        subst h
        exact .fin' [] [(0, 0)] (I ((wrap64 ((wrap64 ((wrap64 (x2.1 * 65536)) + (wrap64 (x3.1 * 256)))) + x4.1)).tmod a1)) [] aln (shc 0 (a2c (.z (frz_sl encU_ok (fun h => h))) (a2c (.z .s) (a2c (.z .s) a2n))) shn) (.z .s)
      · rw [if_neg c4] at h
        cases h
/-! spec_l10DrawBays: function 53 -/
def spec_l10DrawBays.l0 : Nat → S69 → (List Int) → Int → Option ((List Int) × S69)
 | 0, _, _, _ => none
 | k + 1, x2, x3, x4 => (if x4 > 0 then ((spec_l01Below.f x2 12).bind fun x5 => (if (x3.length + ([(wrap64 (60 + (wrap64 (20 * x5.1))))] : List Int).length) * 8 ≤ 70368744177664 then (spec_l10DrawBays.l0 k x5.2 (x3 ++ ([(wrap64 (60 + (wrap64 (20 * x5.1))))] : List Int)) (wrap64 (x4 - 1))) else none)) else (some (x3, x2)))
def spec_l10DrawBays.f (k : Nat) (a0 : S69) : Option ((List Int) × S69) := ((spec_l01Below.f a0 5).bind fun x1 => (spec_l10DrawBays.l0 k x1.2 ([] : List Int) (wrap64 (1 + x1.1))))
theorem spec_l10DrawBays.lab : ∀ k, (∀ (x2 : S69) (x3 : (List Int)) (x4 : Int) (r : ((List Int) × S69)), spec_l10DrawBays.l0 k x2 x3 x4 = some r → J prog (.run 53 [0] [l_ 58, b_ 0, c_ 15] [(0, (.pt 0 0 3)), (3, (.rf 512 0 x3.length 1 (x3.length * 1))), (4, (I x4))] [(0, [(.sl false x2.f0.length 1 (x2.f0.flatMap encU)), (I x2.f1), (I x2.f2)]), (512, (x3.flatMap encI))] (.rf 512 0 r.1.length 1 (r.1.length * 1)) [(0, [(.sl false r.2.f0.length 1 (r.2.f0.flatMap encU)), (I r.2.f1), (I r.2.f2)]), (512, (r.1.flatMap encI))]))
 | 0 => (by intro x2 x3 x4 r h; unfold spec_l10DrawBays.l0 at h; cases h)
 | k + 1 => by
  have ih0 := spec_l10DrawBays.lab k
  · intro x2 x3 x4 r h
    unfold spec_l10DrawBays.l0 at h
    refine .loop' [c_ 464, c_ 465, c_ 233, l_ 58, b_ 0, c_ 15] ?_
    refine .reg' [0, 3, 4, 10] [] ⟨[(0, (.pt 0 0 3)), (3, (.rf 512 0 x3.length 1 (x3.length * 1))), (4, (I x4)), (10, (B (decide (x4 > 0))))], [(0, [(.sl false x2.f0.length 1 (x2.f0.flatMap encU)), (I x2.f1), (I x2.f2)]), (512, (x3.flatMap encI))], [], []⟩ [c_ 465, c_ 233, l_ 58, b_ 0, c_ 15] aln nocal ?_
    by_cases c1 : x4 > 0
    · rw [if_pos c1] at h
      refine .cond' (.tmp 10) true [c_ 932, b_ 1, c_ 467, l_ 58, b_ 0, c_ 15] (bT (dT c1)) ?_
      obtain ⟨x5, hx5, h⟩ := Option.bind_eq_some_iff.mp h
      by_cases c2 : (x3.length + ([(wrap64 (60 + (wrap64 (20 * x5.1))))] : List Int).length) * 8 ≤ 70368744177664
      · rw [if_pos c2] at h
        refine .reg' [0, 3, 4] [.no, .no, .c ⟨55, [(.pt 0 0 3), (I 12)], [(0, [(.sl false x2.f0.length 1 (x2.f0.flatMap encU)), (I x2.f1), (I x2.f2)])], (I x5.1), [(0, [(.sl false x5.2.f0.length 1 (x5.2.f0.flatMap encU)), (I x5.2.f1), (I x5.2.f2)])], [], [(0, 0)], [(0, 0)], (I x5.1), [(0, [(.sl false x5.2.f0.length 1 (x5.2.f0.flatMap encU)), (I x5.2.f1), (I x5.2.f2)])]⟩, .no, .no, .no, .w (.rf 512 0 ((x3 ++ ([(wrap64 (60 + (wrap64 (20 * x5.1))))] : List Int)).length) 1 ((x3 ++ ([(wrap64 (60 + (wrap64 (20 * x5.1))))] : List Int)).length * 1)) ((x3 ++ ([(wrap64 (60 + (wrap64 (20 * x5.1))))] : List Int)).flatMap encI)] ⟨[(0, (.pt 0 0 3)), (3, (.rf 512 0 ((x3 ++ ([(wrap64 (60 + (wrap64 (20 * x5.1))))] : List Int)).length) 1 ((x3 ++ ([(wrap64 (60 + (wrap64 (20 * x5.1))))] : List Int)).length * 1))), (4, (I x4))], [(0, [(.sl false x5.2.f0.length 1 (x5.2.f0.flatMap encU)), (I x5.2.f1), (I x5.2.f2)]), (512, ((x3 ++ ([(wrap64 (60 + (wrap64 (20 * x5.1))))] : List Int)).flatMap encI)), (1541, (([(wrap64 (60 + (wrap64 (20 * x5.1))))] : List Int).flatMap encI))], [COK (hget [(0, [(.sl false x2.f0.length 1 (x2.f0.flatMap encU)), (I x2.f1), (I x2.f2)]), (512, (x3.flatMap encI))]) [(.pt 0 0 3), (I 12)] ⟨55, [(.pt 0 0 3), (I 12)], [(0, [(.sl false x2.f0.length 1 (x2.f0.flatMap encU)), (I x2.f1), (I x2.f2)])], (I x5.1), [(0, [(.sl false x5.2.f0.length 1 (x5.2.f0.flatMap encU)), (I x5.2.f1), (I x5.2.f2)])], [], [(0, 0)], [(0, 0)], (I x5.1), [(0, [(.sl false x5.2.f0.length 1 (x5.2.f0.flatMap encU)), (I x5.2.f1), (I x5.2.f2)])]⟩, V.rf 512 0 (x3.length + ([(wrap64 (60 + (wrap64 (20 * x5.1))))] : List Int).length) 1 (x3.length * 1 + ([(wrap64 (60 + (wrap64 (20 * x5.1))))] : List Int).length * 1) = (.rf 512 0 ((x3 ++ ([(wrap64 (60 + (wrap64 (20 * x5.1))))] : List Int)).length) 1 ((x3 ++ ([(wrap64 (60 + (wrap64 (20 * x5.1))))] : List Int)).length * 1)), x3.flatMap encI ++ (((([(wrap64 (60 + (wrap64 (20 * x5.1))))] : List Int).flatMap encI).drop 0).take (([(wrap64 (60 + (wrap64 (20 * x5.1))))] : List Int).length * 1)) = ((x3 ++ ([(wrap64 (60 + (wrap64 (20 * x5.1))))] : List Int)).flatMap encI), (([(wrap64 (60 + (wrap64 (20 * x5.1))))] : List Int).length * 1 = (([(wrap64 (60 + (wrap64 (20 * x5.1))))] : List Int).flatMap encI).length ∧ 0 + ([(wrap64 (60 + (wrap64 (20 * x5.1))))] : List Int).length * 1 ≤ (([(wrap64 (60 + (wrap64 (20 * x5.1))))] : List Int).flatMap encI).length) ∧ x3.length * 1 = (x3.flatMap encI).length ∧ x3.length * 1 = (x3.flatMap encI).length ∧ (x3.length + ([(wrap64 (60 + (wrap64 (20 * x5.1))))] : List Int).length) * 8 ≤ 70368744177664], [⟨55, [(.pt 0 0 3), (I 12)], [(0, [(.sl false x2.f0.length 1 (x2.f0.flatMap encU)), (I x2.f1), (I x2.f2)])], (I x5.1), [(0, [(.sl false x5.2.f0.length 1 (x5.2.f0.flatMap encU)), (I x5.2.f1), (I x5.2.f2)])], [], [(0, 0)], [(0, 0)], (I x5.1), [(0, [(.sl false x5.2.f0.length 1 (x5.2.f0.flatMap encU)), (I x5.2.f1), (I x5.2.f2)])]⟩]⟩ [c_ 467, l_ 58, b_ 0, c_ 15] (alc (cokW false (a2c (.pt (memP_mem (p := (0, 0)) rfl)) (a2c (.z .s) a2n)) (akc ⟨_, _, rfl, rfl, (a2c (.z (frz_sl encU_ok (fun h => h))) (a2c (.z .s) (a2c (.z .s) a2n)))⟩ akn) (akc (.inl rfl) akn) (.z .s) (akc ⟨_, _, rfl, rfl, (a2c (.z (clnS encU_c (fun h => absurd h (by decide)))) (a2c (.z .s) (a2c (.z .s) a2n)))⟩ akn) (fun h => absurd h (by decide))) (alc (apV rfl) (alc (apR encI_ok rfl) (alc (apO encI_ok rfl c2 rfl) aln)))) (acal (spec_l01Below.J x2 12 _ hx5) nocal) ?_
        refine .reg' [0, 3, 4] [] ⟨[(0, (.pt 0 0 3)), (3, (.rf 512 0 ((x3 ++ ([(wrap64 (60 + (wrap64 (20 * x5.1))))] : List Int)).length) 1 ((x3 ++ ([(wrap64 (60 + (wrap64 (20 * x5.1))))] : List Int)).length * 1))), (4, (I (wrap64 (x4 - 1))))], [(0, [(.sl false x5.2.f0.length 1 (x5.2.f0.flatMap encU)), (I x5.2.f1), (I x5.2.f2)]), (512, ((x3 ++ ([(wrap64 (60 + (wrap64 (20 * x5.1))))] : List Int)).flatMap encI)), (1541, (([(wrap64 (60 + (wrap64 (20 * x5.1))))] : List Int).flatMap encI))], [], []⟩ [l_ 58, b_ 0, c_ 15] aln nocal ?_
        refine .wk' [] [(0, 0), (512, 512)] [(0, (.pt 0 0 3)), (3, (.rf 512 0 ((x3 ++ ([(wrap64 (60 + (wrap64 (20 * x5.1))))] : List Int)).length) 1 ((x3 ++ ([(wrap64 (60 + (wrap64 (20 * x5.1))))] : List Int)).length * 1))), (4, (I (wrap64 (x4 - 1))))] [(0, [(.sl false x5.2.f0.length 1 (x5.2.f0.flatMap encU)), (I x5.2.f1), (I x5.2.f2)]), (512, ((x3 ++ ([(wrap64 (60 + (wrap64 (20 * x5.1))))] : List Int)).flatMap encI))] (shc 0 (a2c (.z (frz_sl encU_ok (fun h => h))) (a2c (.z .s) (a2c (.z .s) a2n))) (shc 512 (rowF encI_ok _) shn)) (enc_ (.pt (memP_mem (p := (0, 0)) rfl)) (enc_ (.rf (memP_mem (p := (512, 512)) rfl)) (enc_ (.z .s) enn))) ?_
        exact ih0 x5.2 (x3 ++ ([(wrap64 (60 + (wrap64 (20 * x5.1))))] : List Int)) (wrap64 (x4 - 1)) _ h
      · rw [if_neg c2] at h
        cases h
    · rw [if_neg c1] at h
      refine .cond' (.tmp 10) false [c_ 30, c_ 31] (bF (dF c1)) ?_
      refine .reg' [2] [] ⟨[(2, (.rf 512 0 x3.length 1 (x3.length * 1)))], [(0, [(.sl false x2.f0.length 1 (x2.f0.flatMap encU)), (I x2.f1), (I x2.f2)]), (512, (x3.flatMap encI))], [], []⟩ [c_ 31] aln nocal ?_
      have h := Option.some.inj h
      subst h
      exact .fin' [] [(0, 0), (512, 512)] (.rf 512 0 x3.length 1 (x3.length * 1)) [] aln (shc 0 (a2c (.z (frz_sl encU_ok (fun h => h))) (a2c (.z .s) (a2c (.z .s) a2n))) (shc 512 (rowF encI_ok _) shn)) (.rf (memP_mem (p := (512, 512)) rfl))
theorem spec_l10DrawBays.J (k : Nat) (a0 : S69) (r : ((List Int) × S69)) (h : spec_l10DrawBays.f k a0 = some r) : J prog (.call 53 [(.pt 0 0 3)] [(0, [(.sl false a0.f0.length 1 (a0.f0.flatMap encU)), (I a0.f1), (I a0.f2)])] (.rf 512 0 r.1.length 1 (r.1.length * 1)) [(0, [(.sl false r.2.f0.length 1 (r.2.f0.flatMap encU)), (I r.2.f1), (I r.2.f2)]), (512, (r.1.flatMap encI))]) := by
  unfold spec_l10DrawBays.f at h
  have ih0 := spec_l10DrawBays.lab k
  refine .call' [c_ 2, c_ 3] ?_
  refine .reg' [0] [] ⟨[(0, (.pt 0 0 3))], [(0, [(.sl false a0.f0.length 1 (a0.f0.flatMap encU)), (I a0.f1), (I a0.f2)])], [], []⟩ [c_ 6, c_ 7] aln nocal ?_
  refine .reg' [0, 3] [] ⟨[(0, (.pt 0 0 3)), (3, (.rf 512 0 (([] : List Int).length) 1 (([] : List Int).length * 1)))], [(0, [(.sl false a0.f0.length 1 (a0.f0.flatMap encU)), (I a0.f1), (I a0.f2)]), (512, (([] : List Int).flatMap encI))], [], []⟩ [c_ 28, c_ 29, c_ 15] aln nocal ?_
  obtain ⟨x1, hx1, h⟩ := Option.bind_eq_some_iff.mp h
  refine .reg' [0, 3, 4] [.no, .c ⟨55, [(.pt 0 0 3), (I 5)], [(0, [(.sl false a0.f0.length 1 (a0.f0.flatMap encU)), (I a0.f1), (I a0.f2)])], (I x1.1), [(0, [(.sl false x1.2.f0.length 1 (x1.2.f0.flatMap encU)), (I x1.2.f1), (I x1.2.f2)])], [], [(0, 0)], [(0, 0)], (I x1.1), [(0, [(.sl false x1.2.f0.length 1 (x1.2.f0.flatMap encU)), (I x1.2.f1), (I x1.2.f2)])]⟩] ⟨[(0, (.pt 0 0 3)), (3, (.rf 512 0 (([] : List Int).length) 1 (([] : List Int).length * 1))), (4, (I (wrap64 (1 + x1.1))))], [(0, [(.sl false x1.2.f0.length 1 (x1.2.f0.flatMap encU)), (I x1.2.f1), (I x1.2.f2)]), (512, (([] : List Int).flatMap encI))], [COK (hget [(0, [(.sl false a0.f0.length 1 (a0.f0.flatMap encU)), (I a0.f1), (I a0.f2)]), (512, (([] : List Int).flatMap encI))]) [(.pt 0 0 3), (I 5)] ⟨55, [(.pt 0 0 3), (I 5)], [(0, [(.sl false a0.f0.length 1 (a0.f0.flatMap encU)), (I a0.f1), (I a0.f2)])], (I x1.1), [(0, [(.sl false x1.2.f0.length 1 (x1.2.f0.flatMap encU)), (I x1.2.f1), (I x1.2.f2)])], [], [(0, 0)], [(0, 0)], (I x1.1), [(0, [(.sl false x1.2.f0.length 1 (x1.2.f0.flatMap encU)), (I x1.2.f1), (I x1.2.f2)])]⟩], [⟨55, [(.pt 0 0 3), (I 5)], [(0, [(.sl false a0.f0.length 1 (a0.f0.flatMap encU)), (I a0.f1), (I a0.f2)])], (I x1.1), [(0, [(.sl false x1.2.f0.length 1 (x1.2.f0.flatMap encU)), (I x1.2.f1), (I x1.2.f2)])], [], [(0, 0)], [(0, 0)], (I x1.1), [(0, [(.sl false x1.2.f0.length 1 (x1.2.f0.flatMap encU)), (I x1.2.f1), (I x1.2.f2)])]⟩]⟩ [l_ 58, b_ 0, c_ 15] (alc (cokW false (a2c (.pt (memP_mem (p := (0, 0)) rfl)) (a2c (.z .s) a2n)) (akc ⟨_, _, rfl, rfl, (a2c (.z (frz_sl encU_ok (fun h => h))) (a2c (.z .s) (a2c (.z .s) a2n)))⟩ akn) (akc (.inl rfl) akn) (.z .s) (akc ⟨_, _, rfl, rfl, (a2c (.z (clnS encU_c (fun h => absurd h (by decide)))) (a2c (.z .s) (a2c (.z .s) a2n)))⟩ akn) (fun h => absurd h (by decide))) aln) (acal (spec_l01Below.J a0 5 _ hx1) nocal) ?_
  exact ih0 x1.2 ([] : List Int) (wrap64 (1 + x1.1)) _ h
/-! spec_l01Size: function 61 -/
def spec_l01Size.f (a0 : (List Int)) (a1 : Int) : Option Int := (if (wrap64 (2 + (wrap64 ((a0.length : Int).tdiv (16 : Int))))) > a1 then (some a1) else (some (wrap64 (2 + (wrap64 ((a0.length : Int).tdiv (16 : Int)))))))
theorem spec_l01Size.J (a0 : (List Int)) (a1 : Int) (r : Int) (h : spec_l01Size.f a0 a1 = some r) : J prog (.call 61 [(.sl true a0.length 1 (a0.flatMap encU)), (I a1)] [] (I r) []) := by
  unfold spec_l01Size.f at h
  refine .call' [c_ 2, c_ 3] ?_
  refine .reg' [0, 1] [] ⟨[(0, (.sl true a0.length 1 (a0.flatMap encU))), (1, (I a1))], [], [], []⟩ [c_ 6, c_ 7] aln nocal ?_
  refine .reg' [1, 5] [] ⟨[(1, (I a1)), (5, (I (wrap64 (2 + (wrap64 ((a0.length : Int).tdiv (16 : Int)))))))], [], [(16 : Int) ≠ 0], []⟩ [c_ 28, c_ 29, c_ 15] (alc (by decide) aln) nocal ?_
  refine .reg' [1, 5, 12] [] ⟨[(1, (I a1)), (5, (I (wrap64 (2 + (wrap64 ((a0.length : Int).tdiv (16 : Int))))))), (12, (B (decide ((wrap64 (2 + (wrap64 ((a0.length : Int).tdiv (16 : Int))))) > a1))))], [], [], []⟩ [c_ 29, c_ 15] aln nocal ?_
  by_cases c1 : (wrap64 (2 + (wrap64 ((a0.length : Int).tdiv (16 : Int))))) > a1
  · rw [if_pos c1] at h
    refine .cond' (.tmp 12) true [c_ 116, c_ 117, c_ 15] (bT (dT c1)) ?_
    refine .reg' [4] [] ⟨[(4, (I a1))], [], [], []⟩ [c_ 117, c_ 15] aln nocal ?_
    have h := Option.some.inj h
    subst h
    exact .fin0 [] (I a1) [] aln (.z .s)
  · rw [if_neg c1] at h
    refine .cond' (.tmp 12) false [c_ 30, c_ 31] (bF (dF c1)) ?_
    refine .reg' [4] [] ⟨[(4, (I (wrap64 (2 + (wrap64 ((a0.length : Int).tdiv (16 : Int)))))))], [], [], []⟩ [c_ 31] aln nocal ?_
    have h := Option.some.inj h
    subst h
    exact .fin0 [] (I (wrap64 (2 + (wrap64 ((a0.length : Int).tdiv (16 : Int)))))) [] aln (.z .s)
/-! spec_l10DrawStays: function 54 -/
def spec_l10DrawStays.l0 : Nat → S69 → (List S49) → Int → Option ((List S49) × S69)
 | 0, _, _, _ => none
 | k + 1, x3, x4, x5 => (if x5 > 0 then ((spec_l01Below.f x3 60).bind fun x6 => ((spec_l01Below.f x6.2 12).bind fun x7 => ((spec_l01Below.f x7.2 9).bind fun x8 => (if (x4.length + ([(⟨x6.1, (wrap64 (x6.1 + x7.1)), (wrap64 (40 + (wrap64 (20 * x8.1))))⟩ : S49)] : List S49).length) * 24 ≤ 70368744177664 then (spec_l10DrawStays.l0 k x8.2 (x4 ++ ([(⟨x6.1, (wrap64 (x6.1 + x7.1)), (wrap64 (40 + (wrap64 (20 * x8.1))))⟩ : S49)] : List S49)) (wrap64 (x5 - 1))) else none)))) else (some (x4, x3)))
def spec_l10DrawStays.f (k : Nat) (a0 : S69) (a1 : (List Int)) : Option ((List S49) × S69) := ((spec_l01Size.f a1 14).bind fun x1 => ((spec_l01Below.f a0 (wrap64 (2 + x1))).bind fun x2 => (spec_l10DrawStays.l0 k x2.2 ([] : List S49) x2.1)))
theorem spec_l10DrawStays.lab : ∀ k, (∀ (x3 : S69) (x4 : (List S49)) (x5 : Int) (r : ((List S49) × S69)), spec_l10DrawStays.l0 k x3 x4 x5 = some r → J prog (.run 54 [0] [l_ 58, b_ 0, c_ 15] [(0, (.pt 0 0 3)), (5, (.rf 512 0 x4.length 3 (x4.length * 3))), (6, (I x5))] [(0, [(.sl false x3.f0.length 1 (x3.f0.flatMap encU)), (I x3.f1), (I x3.f2)]), (512, (x4.flatMap e49))] (.rf 512 0 r.1.length 3 (r.1.length * 3)) [(0, [(.sl false r.2.f0.length 1 (r.2.f0.flatMap encU)), (I r.2.f1), (I r.2.f2)]), (512, (r.1.flatMap e49))]))
 | 0 => (by intro x3 x4 x5 r h; unfold spec_l10DrawStays.l0 at h; cases h)
 | k + 1 => by
  have ih0 := spec_l10DrawStays.lab k
  · intro x3 x4 x5 r h
    unfold spec_l10DrawStays.l0 at h
    refine .loop' [c_ 464, c_ 465, c_ 233, l_ 58, b_ 0, c_ 15] ?_
    refine .reg' [0, 5, 6, 15] [] ⟨[(0, (.pt 0 0 3)), (5, (.rf 512 0 x4.length 3 (x4.length * 3))), (6, (I x5)), (15, (B (decide (x5 > 0))))], [(0, [(.sl false x3.f0.length 1 (x3.f0.flatMap encU)), (I x3.f1), (I x3.f2)]), (512, (x4.flatMap e49))], [], []⟩ [c_ 465, c_ 233, l_ 58, b_ 0, c_ 15] aln nocal ?_
    by_cases c1 : x5 > 0
    · rw [if_pos c1] at h
      refine .cond' (.tmp 15) true [c_ 1864, c_ 1865, b_ 1, c_ 467, l_ 58, b_ 0, c_ 15] (bT (dT c1)) ?_
      obtain ⟨x6, hx6, h⟩ := Option.bind_eq_some_iff.mp h
      refine .reg' [0, 5, 6, 7] [.no, .c ⟨55, [(.pt 0 0 3), (I 60)], [(0, [(.sl false x3.f0.length 1 (x3.f0.flatMap encU)), (I x3.f1), (I x3.f2)])], (I x6.1), [(0, [(.sl false x6.2.f0.length 1 (x6.2.f0.flatMap encU)), (I x6.2.f1), (I x6.2.f2)])], [], [(0, 0)], [(0, 0)], (I x6.1), [(0, [(.sl false x6.2.f0.length 1 (x6.2.f0.flatMap encU)), (I x6.2.f1), (I x6.2.f2)])]⟩] ⟨[(0, (.pt 0 0 3)), (5, (.rf 512 0 x4.length 3 (x4.length * 3))), (6, (I x5)), (7, (I x6.1))], [(0, [(.sl false x6.2.f0.length 1 (x6.2.f0.flatMap encU)), (I x6.2.f1), (I x6.2.f2)]), (512, (x4.flatMap e49))], [COK (hget [(0, [(.sl false x3.f0.length 1 (x3.f0.flatMap encU)), (I x3.f1), (I x3.f2)]), (512, (x4.flatMap e49))]) [(.pt 0 0 3), (I 60)] ⟨55, [(.pt 0 0 3), (I 60)], [(0, [(.sl false x3.f0.length 1 (x3.f0.flatMap encU)), (I x3.f1), (I x3.f2)])], (I x6.1), [(0, [(.sl false x6.2.f0.length 1 (x6.2.f0.flatMap encU)), (I x6.2.f1), (I x6.2.f2)])], [], [(0, 0)], [(0, 0)], (I x6.1), [(0, [(.sl false x6.2.f0.length 1 (x6.2.f0.flatMap encU)), (I x6.2.f1), (I x6.2.f2)])]⟩], [⟨55, [(.pt 0 0 3), (I 60)], [(0, [(.sl false x3.f0.length 1 (x3.f0.flatMap encU)), (I x3.f1), (I x3.f2)])], (I x6.1), [(0, [(.sl false x6.2.f0.length 1 (x6.2.f0.flatMap encU)), (I x6.2.f1), (I x6.2.f2)])], [], [(0, 0)], [(0, 0)], (I x6.1), [(0, [(.sl false x6.2.f0.length 1 (x6.2.f0.flatMap encU)), (I x6.2.f1), (I x6.2.f2)])]⟩]⟩ [c_ 1865, b_ 1, c_ 467, l_ 58, b_ 0, c_ 15] (alc (cokW false (a2c (.pt (memP_mem (p := (0, 0)) rfl)) (a2c (.z .s) a2n)) (akc ⟨_, _, rfl, rfl, (a2c (.z (frz_sl encU_ok (fun h => h))) (a2c (.z .s) (a2c (.z .s) a2n)))⟩ akn) (akc (.inl rfl) akn) (.z .s) (akc ⟨_, _, rfl, rfl, (a2c (.z (clnS encU_c (fun h => absurd h (by decide)))) (a2c (.z .s) (a2c (.z .s) a2n)))⟩ akn) (fun h => absurd h (by decide))) aln) (acal (spec_l01Below.J x3 60 _ hx6) nocal) ?_
      obtain ⟨x7, hx7, h⟩ := Option.bind_eq_some_iff.mp h
      obtain ⟨x8, hx8, h⟩ := Option.bind_eq_some_iff.mp h
      by_cases c2 : (x4.length + ([(⟨x6.1, (wrap64 (x6.1 + x7.1)), (wrap64 (40 + (wrap64 (20 * x8.1))))⟩ : S49)] : List S49).length) * 24 ≤ 70368744177664
      · rw [if_pos c2] at h
        refine .reg' [0, 5, 6] [.no, .no, .no, .no, .c ⟨55, [(.pt 0 0 3), (I 12)], [(0, [(.sl false x6.2.f0.length 1 (x6.2.f0.flatMap encU)), (I x6.2.f1), (I x6.2.f2)])], (I x7.1), [(0, [(.sl false x7.2.f0.length 1 (x7.2.f0.flatMap encU)), (I x7.2.f1), (I x7.2.f2)])], [], [(0, 0)], [(0, 0)], (I x7.1), [(0, [(.sl false x7.2.f0.length 1 (x7.2.f0.flatMap encU)), (I x7.2.f1), (I x7.2.f2)])]⟩, .no, .no, .c ⟨55, [(.pt 0 0 3), (I 9)], [(0, [(.sl false x7.2.f0.length 1 (x7.2.f0.flatMap encU)), (I x7.2.f1), (I x7.2.f2)])], (I x8.1), [(0, [(.sl false x8.2.f0.length 1 (x8.2.f0.flatMap encU)), (I x8.2.f1), (I x8.2.f2)])], [], [(0, 0)], [(0, 0)], (I x8.1), [(0, [(.sl false x8.2.f0.length 1 (x8.2.f0.flatMap encU)), (I x8.2.f1), (I x8.2.f2)])]⟩, .no, .no, .no, .no, .w (.rf 512 0 ((x4 ++ ([(⟨x6.1, (wrap64 (x6.1 + x7.1)), (wrap64 (40 + (wrap64 (20 * x8.1))))⟩ : S49)] : List S49)).length) 3 ((x4 ++ ([(⟨x6.1, (wrap64 (x6.1 + x7.1)), (wrap64 (40 + (wrap64 (20 * x8.1))))⟩ : S49)] : List S49)).length * 3)) ((x4 ++ ([(⟨x6.1, (wrap64 (x6.1 + x7.1)), (wrap64 (40 + (wrap64 (20 * x8.1))))⟩ : S49)] : List S49)).flatMap e49)] ⟨[(0, (.pt 0 0 3)), (5, (.rf 512 0 ((x4 ++ ([(⟨x6.1, (wrap64 (x6.1 + x7.1)), (wrap64 (40 + (wrap64 (20 * x8.1))))⟩ : S49)] : List S49)).length) 3 ((x4 ++ ([(⟨x6.1, (wrap64 (x6.1 + x7.1)), (wrap64 (40 + (wrap64 (20 * x8.1))))⟩ : S49)] : List S49)).length * 3))), (6, (I x5))], [(0, [(.sl false x8.2.f0.length 1 (x8.2.f0.flatMap encU)), (I x8.2.f1), (I x8.2.f2)]), (512, ((x4 ++ ([(⟨x6.1, (wrap64 (x6.1 + x7.1)), (wrap64 (40 + (wrap64 (20 * x8.1))))⟩ : S49)] : List S49)).flatMap e49)), (1803, (([(⟨x6.1, (wrap64 (x6.1 + x7.1)), (wrap64 (40 + (wrap64 (20 * x8.1))))⟩ : S49)] : List S49).flatMap e49))], [COK (hget [(0, [(.sl false x6.2.f0.length 1 (x6.2.f0.flatMap encU)), (I x6.2.f1), (I x6.2.f2)]), (512, (x4.flatMap e49))]) [(.pt 0 0 3), (I 12)] ⟨55, [(.pt 0 0 3), (I 12)], [(0, [(.sl false x6.2.f0.length 1 (x6.2.f0.flatMap encU)), (I x6.2.f1), (I x6.2.f2)])], (I x7.1), [(0, [(.sl false x7.2.f0.length 1 (x7.2.f0.flatMap encU)), (I x7.2.f1), (I x7.2.f2)])], [], [(0, 0)], [(0, 0)], (I x7.1), [(0, [(.sl false x7.2.f0.length 1 (x7.2.f0.flatMap encU)), (I x7.2.f1), (I x7.2.f2)])]⟩, COK (hget [(0, [(.sl false x7.2.f0.length 1 (x7.2.f0.flatMap encU)), (I x7.2.f1), (I x7.2.f2)]), (512, (x4.flatMap e49))]) [(.pt 0 0 3), (I 9)] ⟨55, [(.pt 0 0 3), (I 9)], [(0, [(.sl false x7.2.f0.length 1 (x7.2.f0.flatMap encU)), (I x7.2.f1), (I x7.2.f2)])], (I x8.1), [(0, [(.sl false x8.2.f0.length 1 (x8.2.f0.flatMap encU)), (I x8.2.f1), (I x8.2.f2)])], [], [(0, 0)], [(0, 0)], (I x8.1), [(0, [(.sl false x8.2.f0.length 1 (x8.2.f0.flatMap encU)), (I x8.2.f1), (I x8.2.f2)])]⟩, V.rf 512 0 (x4.length + ([(⟨x6.1, (wrap64 (x6.1 + x7.1)), (wrap64 (40 + (wrap64 (20 * x8.1))))⟩ : S49)] : List S49).length) 3 (x4.length * 3 + ([(⟨x6.1, (wrap64 (x6.1 + x7.1)), (wrap64 (40 + (wrap64 (20 * x8.1))))⟩ : S49)] : List S49).length * 3) = (.rf 512 0 ((x4 ++ ([(⟨x6.1, (wrap64 (x6.1 + x7.1)), (wrap64 (40 + (wrap64 (20 * x8.1))))⟩ : S49)] : List S49)).length) 3 ((x4 ++ ([(⟨x6.1, (wrap64 (x6.1 + x7.1)), (wrap64 (40 + (wrap64 (20 * x8.1))))⟩ : S49)] : List S49)).length * 3)), x4.flatMap e49 ++ (((([(⟨x6.1, (wrap64 (x6.1 + x7.1)), (wrap64 (40 + (wrap64 (20 * x8.1))))⟩ : S49)] : List S49).flatMap e49).drop 0).take (([(⟨x6.1, (wrap64 (x6.1 + x7.1)), (wrap64 (40 + (wrap64 (20 * x8.1))))⟩ : S49)] : List S49).length * 3)) = ((x4 ++ ([(⟨x6.1, (wrap64 (x6.1 + x7.1)), (wrap64 (40 + (wrap64 (20 * x8.1))))⟩ : S49)] : List S49)).flatMap e49), (([(⟨x6.1, (wrap64 (x6.1 + x7.1)), (wrap64 (40 + (wrap64 (20 * x8.1))))⟩ : S49)] : List S49).length * 3 = (([(⟨x6.1, (wrap64 (x6.1 + x7.1)), (wrap64 (40 + (wrap64 (20 * x8.1))))⟩ : S49)] : List S49).flatMap e49).length ∧ 0 + ([(⟨x6.1, (wrap64 (x6.1 + x7.1)), (wrap64 (40 + (wrap64 (20 * x8.1))))⟩ : S49)] : List S49).length * 3 ≤ (([(⟨x6.1, (wrap64 (x6.1 + x7.1)), (wrap64 (40 + (wrap64 (20 * x8.1))))⟩ : S49)] : List S49).flatMap e49).length) ∧ x4.length * 3 = (x4.flatMap e49).length ∧ x4.length * 3 = (x4.flatMap e49).length ∧ (x4.length + ([(⟨x6.1, (wrap64 (x6.1 + x7.1)), (wrap64 (40 + (wrap64 (20 * x8.1))))⟩ : S49)] : List S49).length) * 24 ≤ 70368744177664], [⟨55, [(.pt 0 0 3), (I 12)], [(0, [(.sl false x6.2.f0.length 1 (x6.2.f0.flatMap encU)), (I x6.2.f1), (I x6.2.f2)])], (I x7.1), [(0, [(.sl false x7.2.f0.length 1 (x7.2.f0.flatMap encU)), (I x7.2.f1), (I x7.2.f2)])], [], [(0, 0)], [(0, 0)], (I x7.1), [(0, [(.sl false x7.2.f0.length 1 (x7.2.f0.flatMap encU)), (I x7.2.f1), (I x7.2.f2)])]⟩, ⟨55, [(.pt 0 0 3), (I 9)], [(0, [(.sl false x7.2.f0.length 1 (x7.2.f0.flatMap encU)), (I x7.2.f1), (I x7.2.f2)])], (I x8.1), [(0, [(.sl false x8.2.f0.length 1 (x8.2.f0.flatMap encU)), (I x8.2.f1), (I x8.2.f2)])], [], [(0, 0)], [(0, 0)], (I x8.1), [(0, [(.sl false x8.2.f0.length 1 (x8.2.f0.flatMap encU)), (I x8.2.f1), (I x8.2.f2)])]⟩]⟩ [c_ 467, l_ 58, b_ 0, c_ 15] (alc (cokW false (a2c (.pt (memP_mem (p := (0, 0)) rfl)) (a2c (.z .s) a2n)) (akc ⟨_, _, rfl, rfl, (a2c (.z (frz_sl encU_ok (fun h => h))) (a2c (.z .s) (a2c (.z .s) a2n)))⟩ akn) (akc (.inl rfl) akn) (.z .s) (akc ⟨_, _, rfl, rfl, (a2c (.z (clnS encU_c (fun h => absurd h (by decide)))) (a2c (.z .s) (a2c (.z .s) a2n)))⟩ akn) (fun h => absurd h (by decide))) (alc (cokW false (a2c (.pt (memP_mem (p := (0, 0)) rfl)) (a2c (.z .s) a2n)) (akc ⟨_, _, rfl, rfl, (a2c (.z (frz_sl encU_ok (fun h => h))) (a2c (.z .s) (a2c (.z .s) a2n)))⟩ akn) (akc (.inl rfl) akn) (.z .s) (akc ⟨_, _, rfl, rfl, (a2c (.z (clnS encU_c (fun h => absurd h (by decide)))) (a2c (.z .s) (a2c (.z .s) a2n)))⟩ akn) (fun h => absurd h (by decide))) (alc (apV rfl) (alc (apR e49_ok rfl) (alc (apO e49_ok rfl c2 rfl) aln))))) (acal (spec_l01Below.J x6.2 12 _ hx7) (acal (spec_l01Below.J x7.2 9 _ hx8) nocal)) ?_
        refine .reg' [0, 5, 6] [] ⟨[(0, (.pt 0 0 3)), (5, (.rf 512 0 ((x4 ++ ([(⟨x6.1, (wrap64 (x6.1 + x7.1)), (wrap64 (40 + (wrap64 (20 * x8.1))))⟩ : S49)] : List S49)).length) 3 ((x4 ++ ([(⟨x6.1, (wrap64 (x6.1 + x7.1)), (wrap64 (40 + (wrap64 (20 * x8.1))))⟩ : S49)] : List S49)).length * 3))), (6, (I (wrap64 (x5 - 1))))], [(0, [(.sl false x8.2.f0.length 1 (x8.2.f0.flatMap encU)), (I x8.2.f1), (I x8.2.f2)]), (512, ((x4 ++ ([(⟨x6.1, (wrap64 (x6.1 + x7.1)), (wrap64 (40 + (wrap64 (20 * x8.1))))⟩ : S49)] : List S49)).flatMap e49)), (1803, (([(⟨x6.1, (wrap64 (x6.1 + x7.1)), (wrap64 (40 + (wrap64 (20 * x8.1))))⟩ : S49)] : List S49).flatMap e49))], [], []⟩ [l_ 58, b_ 0, c_ 15] aln nocal ?_
        refine .wk' [] [(0, 0), (512, 512)] [(0, (.pt 0 0 3)), (5, (.rf 512 0 ((x4 ++ ([(⟨x6.1, (wrap64 (x6.1 + x7.1)), (wrap64 (40 + (wrap64 (20 * x8.1))))⟩ : S49)] : List S49)).length) 3 ((x4 ++ ([(⟨x6.1, (wrap64 (x6.1 + x7.1)), (wrap64 (40 + (wrap64 (20 * x8.1))))⟩ : S49)] : List S49)).length * 3))), (6, (I (wrap64 (x5 - 1))))] [(0, [(.sl false x8.2.f0.length 1 (x8.2.f0.flatMap encU)), (I x8.2.f1), (I x8.2.f2)]), (512, ((x4 ++ ([(⟨x6.1, (wrap64 (x6.1 + x7.1)), (wrap64 (40 + (wrap64 (20 * x8.1))))⟩ : S49)] : List S49)).flatMap e49))] (shc 0 (a2c (.z (frz_sl encU_ok (fun h => h))) (a2c (.z .s) (a2c (.z .s) a2n))) (shc 512 (rowF e49_ok _) shn)) (enc_ (.pt (memP_mem (p := (0, 0)) rfl)) (enc_ (.rf (memP_mem (p := (512, 512)) rfl)) (enc_ (.z .s) enn))) ?_
        exact ih0 x8.2 (x4 ++ ([(⟨x6.1, (wrap64 (x6.1 + x7.1)), (wrap64 (40 + (wrap64 (20 * x8.1))))⟩ : S49)] : List S49)) (wrap64 (x5 - 1)) _ h
      · rw [if_neg c2] at h
        cases h
    · rw [if_neg c1] at h
      refine .cond' (.tmp 15) false [c_ 30, c_ 31] (bF (dF c1)) ?_
      refine .reg' [4] [] ⟨[(4, (.rf 512 0 x4.length 3 (x4.length * 3)))], [(0, [(.sl false x3.f0.length 1 (x3.f0.flatMap encU)), (I x3.f1), (I x3.f2)]), (512, (x4.flatMap e49))], [], []⟩ [c_ 31] aln nocal ?_
      have h := Option.some.inj h
      subst h
      exact .fin' [] [(0, 0), (512, 512)] (.rf 512 0 x4.length 3 (x4.length * 3)) [] aln (shc 0 (a2c (.z (frz_sl encU_ok (fun h => h))) (a2c (.z .s) (a2c (.z .s) a2n))) (shc 512 (rowF e49_ok _) shn)) (.rf (memP_mem (p := (512, 512)) rfl))
theorem spec_l10DrawStays.J (k : Nat) (a0 : S69) (a1 : (List Int)) (r : ((List S49) × S69)) (h : spec_l10DrawStays.f k a0 a1 = some r) : J prog (.call 54 [(.pt 0 0 3), (.sl true a1.length 1 (a1.flatMap encU))] [(0, [(.sl false a0.f0.length 1 (a0.f0.flatMap encU)), (I a0.f1), (I a0.f2)])] (.rf 512 0 r.1.length 3 (r.1.length * 3)) [(0, [(.sl false r.2.f0.length 1 (r.2.f0.flatMap encU)), (I r.2.f1), (I r.2.f2)]), (512, (r.1.flatMap e49))]) := by
  unfold spec_l10DrawStays.f at h
  have ih0 := spec_l10DrawStays.lab k
  refine .call' [c_ 2, c_ 3] ?_
  refine .reg' [0, 1] [] ⟨[(0, (.pt 0 0 3)), (1, (.sl true a1.length 1 (a1.flatMap encU)))], [(0, [(.sl false a0.f0.length 1 (a0.f0.flatMap encU)), (I a0.f1), (I a0.f2)])], [], []⟩ [c_ 6, c_ 7] aln nocal ?_
  refine .reg' [0, 1, 5] [] ⟨[(0, (.pt 0 0 3)), (1, (.sl true a1.length 1 (a1.flatMap encU))), (5, (.rf 512 0 (([] : List S49).length) 3 (([] : List S49).length * 3)))], [(0, [(.sl false a0.f0.length 1 (a0.f0.flatMap encU)), (I a0.f1), (I a0.f2)]), (512, (([] : List S49).flatMap e49))], [], []⟩ [c_ 28, c_ 29, c_ 15] aln nocal ?_
  obtain ⟨x1, hx1, h⟩ := Option.bind_eq_some_iff.mp h
  obtain ⟨x2, hx2, h⟩ := Option.bind_eq_some_iff.mp h
  refine .reg' [0, 5, 6] [.no, .no, .c ⟨61, [(.sl true a1.length 1 (a1.flatMap encU)), (I 14)], [], (I x1), [], [], [], [], (I x1), []⟩, .no, .c ⟨55, [(.pt 0 0 3), (I (wrap64 (2 + x1)))], [(0, [(.sl false a0.f0.length 1 (a0.f0.flatMap encU)), (I a0.f1), (I a0.f2)])], (I x2.1), [(0, [(.sl false x2.2.f0.length 1 (x2.2.f0.flatMap encU)), (I x2.2.f1), (I x2.2.f2)])], [], [(0, 0)], [(0, 0)], (I x2.1), [(0, [(.sl false x2.2.f0.length 1 (x2.2.f0.flatMap encU)), (I x2.2.f1), (I x2.2.f2)])]⟩] ⟨[(0, (.pt 0 0 3)), (5, (.rf 512 0 (([] : List S49).length) 3 (([] : List S49).length * 3))), (6, (I x2.1))], [(0, [(.sl false x2.2.f0.length 1 (x2.2.f0.flatMap encU)), (I x2.2.f1), (I x2.2.f2)]), (512, (([] : List S49).flatMap e49))], [COK (hget [(0, [(.sl false a0.f0.length 1 (a0.f0.flatMap encU)), (I a0.f1), (I a0.f2)]), (512, (([] : List S49).flatMap e49))]) [(.sl true a1.length 1 (a1.flatMap encU)), (I 14)] ⟨61, [(.sl true a1.length 1 (a1.flatMap encU)), (I 14)], [], (I x1), [], [], [], [], (I x1), []⟩, COK (hget [(0, [(.sl false a0.f0.length 1 (a0.f0.flatMap encU)), (I a0.f1), (I a0.f2)]), (512, (([] : List S49).flatMap e49))]) [(.pt 0 0 3), (I (wrap64 (2 + x1)))] ⟨55, [(.pt 0 0 3), (I (wrap64 (2 + x1)))], [(0, [(.sl false a0.f0.length 1 (a0.f0.flatMap encU)), (I a0.f1), (I a0.f2)])], (I x2.1), [(0, [(.sl false x2.2.f0.length 1 (x2.2.f0.flatMap encU)), (I x2.2.f1), (I x2.2.f2)])], [], [(0, 0)], [(0, 0)], (I x2.1), [(0, [(.sl false x2.2.f0.length 1 (x2.2.f0.flatMap encU)), (I x2.2.f1), (I x2.2.f2)])]⟩], [⟨61, [(.sl true a1.length 1 (a1.flatMap encU)), (I 14)], [], (I x1), [], [], [], [], (I x1), []⟩, ⟨55, [(.pt 0 0 3), (I (wrap64 (2 + x1)))], [(0, [(.sl false a0.f0.length 1 (a0.f0.flatMap encU)), (I a0.f1), (I a0.f2)])], (I x2.1), [(0, [(.sl false x2.2.f0.length 1 (x2.2.f0.flatMap encU)), (I x2.2.f1), (I x2.2.f2)])], [], [(0, 0)], [(0, 0)], (I x2.1), [(0, [(.sl false x2.2.f0.length 1 (x2.2.f0.flatMap encU)), (I x2.2.f1), (I x2.2.f2)])]⟩]⟩ [l_ 58, b_ 0, c_ 15] (alc (cok0 false (a2c (.z (frz_sl encU_ok (fun h => h))) (a2c (.z .s) a2n)) (.z .s) (fun h => absurd h (by decide))) (alc (cokW false (a2c (.pt (memP_mem (p := (0, 0)) rfl)) (a2c (.z .s) a2n)) (akc ⟨_, _, rfl, rfl, (a2c (.z (frz_sl encU_ok (fun h => h))) (a2c (.z .s) (a2c (.z .s) a2n)))⟩ akn) (akc (.inl rfl) akn) (.z .s) (akc ⟨_, _, rfl, rfl, (a2c (.z (clnS encU_c (fun h => absurd h (by decide)))) (a2c (.z .s) (a2c (.z .s) a2n)))⟩ akn) (fun h => absurd h (by decide))) aln)) (acal (spec_l01Size.J a1 14 _ hx1) (acal (spec_l01Below.J a0 (wrap64 (2 + x1)) _ hx2) nocal)) ?_
  exact ih0 x2.2 ([] : List S49) x2.1 _ h
/-! spec_DrawRightStays: function 35 -/
def spec_DrawRightStays.f (k : Nat) (a0 : (List Int)) : Option ((List Int) × (List S49) × Int) := ((spec_l01New.f k a0).bind fun x1 => ((spec_l10DrawBays.f k x1).bind fun x2 => ((spec_l10DrawStays.f k x2.2 a0).bind fun x3 => ((spec_l01Below.f x3.2 6).bind fun x4 => (some (x2.1, x3.1, (wrap64 (1 + x4.1))))))))
theorem spec_DrawRightStays.J (k : Nat) (a0 : (List Int)) (r : ((List Int) × (List S49) × Int)) (h : spec_DrawRightStays.f k a0 = some r) : J prog (.call 35 [(.sl false a0.length 1 (a0.flatMap encU))] [] (.tp [(.rf 1000769 0 r.1.length 1 (r.1.length * 1)), (.rf 1001026 0 r.2.1.length 3 (r.2.1.length * 3)), (I r.2.2)]) [(1000769, (r.1.flatMap encI)), (1001026, (r.2.1.flatMap e49))]) := by
  unfold spec_DrawRightStays.f at h
  refine .call' [c_ 2, c_ 3] ?_
  refine .reg' [0] [] ⟨[(0, (.sl false a0.length 1 (a0.flatMap encU)))], [], [], []⟩ [c_ 6, c_ 7] aln nocal ?_
  obtain ⟨x1, hx1, h⟩ := Option.bind_eq_some_iff.mp h
  refine .reg' [0, 5] [.no, .c ⟨52, [(.sl false a0.length 1 (a0.flatMap encU))], [], (.pt 1795 0 3), [(1795, [(.sl false x1.f0.length 1 (x1.f0.flatMap encU)), (I x1.f1), (I x1.f2)])], [], [], [(1000513, 1795)], (.pt 1000513 0 3), [(1000513, [(.sl false x1.f0.length 1 (x1.f0.flatMap encU)), (I x1.f1), (I x1.f2)])]⟩] ⟨[(0, (.sl false a0.length 1 (a0.flatMap encU))), (5, (.pt 1000513 0 3))], [(1000513, [(.sl false x1.f0.length 1 (x1.f0.flatMap encU)), (I x1.f1), (I x1.f2)])], [COK (hget []) [(.sl false a0.length 1 (a0.flatMap encU))] ⟨52, [(.sl false a0.length 1 (a0.flatMap encU))], [], (.pt 1795 0 3), [(1795, [(.sl false x1.f0.length 1 (x1.f0.flatMap encU)), (I x1.f1), (I x1.f2)])], [], [], [(1000513, 1795)], (.pt 1000513 0 3), [(1000513, [(.sl false x1.f0.length 1 (x1.f0.flatMap encU)), (I x1.f1), (I x1.f2)])]⟩], [⟨52, [(.sl false a0.length 1 (a0.flatMap encU))], [], (.pt 1795 0 3), [(1795, [(.sl false x1.f0.length 1 (x1.f0.flatMap encU)), (I x1.f1), (I x1.f2)])], [], [], [(1000513, 1795)], (.pt 1000513 0 3), [(1000513, [(.sl false x1.f0.length 1 (x1.f0.flatMap encU)), (I x1.f1), (I x1.f2)])]⟩]⟩ [c_ 14, c_ 15] (alc (cokW false (a2c (.z (frz_sl encU_ok (fun h => h))) a2n) akn (akc (.inr rfl) akn) (.pt (memP_mem (p := (1000513, 1795)) rfl)) (akc ⟨_, _, rfl, rfl, (a2c (.z (clnS encU_c (fun h => absurd h (by decide)))) (a2c (.z .s) (a2c (.z .s) a2n)))⟩ akn) (fun h => absurd h (by decide))) aln) (acal (spec_l01New.J k a0 _ hx1) nocal) ?_
  obtain ⟨x2, hx2, h⟩ := Option.bind_eq_some_iff.mp h
  refine .reg' [0, 5, 6] [.no, .c ⟨53, [(.pt 0 0 3)], [(0, [(.sl false x1.f0.length 1 (x1.f0.flatMap encU)), (I x1.f1), (I x1.f2)])], (.rf 512 0 x2.1.length 1 (x2.1.length * 1)), [(0, [(.sl false x2.2.f0.length 1 (x2.2.f0.flatMap encU)), (I x2.2.f1), (I x2.2.f2)]), (512, (x2.1.flatMap encI))], [], [(1000513, 0)], [(1000513, 0), (1000769, 512)], (.rf 1000769 0 x2.1.length 1 (x2.1.length * 1)), [(1000513, [(.sl false x2.2.f0.length 1 (x2.2.f0.flatMap encU)), (I x2.2.f1), (I x2.2.f2)]), (1000769, (x2.1.flatMap encI))]⟩] ⟨[(0, (.sl false a0.length 1 (a0.flatMap encU))), (5, (.pt 1000513 0 3)), (6, (.rf 1000769 0 x2.1.length 1 (x2.1.length * 1)))], [(1000513, [(.sl false x2.2.f0.length 1 (x2.2.f0.flatMap encU)), (I x2.2.f1), (I x2.2.f2)]), (1000769, (x2.1.flatMap encI))], [COK (hget [(1000513, [(.sl false x1.f0.length 1 (x1.f0.flatMap encU)), (I x1.f1), (I x1.f2)])]) [(.pt 1000513 0 3)] ⟨53, [(.pt 0 0 3)], [(0, [(.sl false x1.f0.length 1 (x1.f0.flatMap encU)), (I x1.f1), (I x1.f2)])], (.rf 512 0 x2.1.length 1 (x2.1.length * 1)), [(0, [(.sl false x2.2.f0.length 1 (x2.2.f0.flatMap encU)), (I x2.2.f1), (I x2.2.f2)]), (512, (x2.1.flatMap encI))], [], [(1000513, 0)], [(1000513, 0), (1000769, 512)], (.rf 1000769 0 x2.1.length 1 (x2.1.length * 1)), [(1000513, [(.sl false x2.2.f0.length 1 (x2.2.f0.flatMap encU)), (I x2.2.f1), (I x2.2.f2)]), (1000769, (x2.1.flatMap encI))]⟩], [⟨53, [(.pt 0 0 3)], [(0, [(.sl false x1.f0.length 1 (x1.f0.flatMap encU)), (I x1.f1), (I x1.f2)])], (.rf 512 0 x2.1.length 1 (x2.1.length * 1)), [(0, [(.sl false x2.2.f0.length 1 (x2.2.f0.flatMap encU)), (I x2.2.f1), (I x2.2.f2)]), (512, (x2.1.flatMap encI))], [], [(1000513, 0)], [(1000513, 0), (1000769, 512)], (.rf 1000769 0 x2.1.length 1 (x2.1.length * 1)), [(1000513, [(.sl false x2.2.f0.length 1 (x2.2.f0.flatMap encU)), (I x2.2.f1), (I x2.2.f2)]), (1000769, (x2.1.flatMap encI))]⟩]⟩ [c_ 30, c_ 31] (alc (cokW false (a2c (.pt (memP_mem (p := (1000513, 0)) rfl)) a2n) (akc ⟨_, _, rfl, rfl, (a2c (.z (frz_sl encU_ok (fun h => h))) (a2c (.z .s) (a2c (.z .s) a2n)))⟩ akn) (akc (.inl rfl) (akc (.inr rfl) akn)) (.rf (memP_mem (p := (1000769, 512)) rfl)) (akc ⟨_, _, rfl, rfl, (a2c (.z (clnS encU_c (fun h => absurd h (by decide)))) (a2c (.z .s) (a2c (.z .s) a2n)))⟩ (akc ⟨_, _, rfl, rfl, rowB encI_c _⟩ akn)) (fun h => absurd h (by decide))) aln) (acal (spec_l10DrawBays.J k x1 _ hx2) nocal) ?_
  obtain ⟨x3, hx3, h⟩ := Option.bind_eq_some_iff.mp h
  refine .reg' [5, 6, 7] [.no, .no, .c ⟨54, [(.pt 0 0 3), (.sl true a0.length 1 (a0.flatMap encU))], [(0, [(.sl false x2.2.f0.length 1 (x2.2.f0.flatMap encU)), (I x2.2.f1), (I x2.2.f2)])], (.rf 512 0 x3.1.length 3 (x3.1.length * 3)), [(0, [(.sl false x3.2.f0.length 1 (x3.2.f0.flatMap encU)), (I x3.2.f1), (I x3.2.f2)]), (512, (x3.1.flatMap e49))], [], [(1000513, 0)], [(1000513, 0), (1001026, 512)], (.rf 1001026 0 x3.1.length 3 (x3.1.length * 3)), [(1000513, [(.sl false x3.2.f0.length 1 (x3.2.f0.flatMap encU)), (I x3.2.f1), (I x3.2.f2)]), (1001026, (x3.1.flatMap e49))]⟩] ⟨[(5, (.pt 1000513 0 3)), (6, (.rf 1000769 0 x2.1.length 1 (x2.1.length * 1))), (7, (.rf 1001026 0 x3.1.length 3 (x3.1.length * 3)))], [(1000513, [(.sl false x3.2.f0.length 1 (x3.2.f0.flatMap encU)), (I x3.2.f1), (I x3.2.f2)]), (1000769, (x2.1.flatMap encI)), (1001026, (x3.1.flatMap e49))], [COK (hget [(1000513, [(.sl false x2.2.f0.length 1 (x2.2.f0.flatMap encU)), (I x2.2.f1), (I x2.2.f2)]), (1000769, (x2.1.flatMap encI))]) [(.pt 1000513 0 3), (.sl false a0.length 1 (a0.flatMap encU))] ⟨54, [(.pt 0 0 3), (.sl true a0.length 1 (a0.flatMap encU))], [(0, [(.sl false x2.2.f0.length 1 (x2.2.f0.flatMap encU)), (I x2.2.f1), (I x2.2.f2)])], (.rf 512 0 x3.1.length 3 (x3.1.length * 3)), [(0, [(.sl false x3.2.f0.length 1 (x3.2.f0.flatMap encU)), (I x3.2.f1), (I x3.2.f2)]), (512, (x3.1.flatMap e49))], [], [(1000513, 0)], [(1000513, 0), (1001026, 512)], (.rf 1001026 0 x3.1.length 3 (x3.1.length * 3)), [(1000513, [(.sl false x3.2.f0.length 1 (x3.2.f0.flatMap encU)), (I x3.2.f1), (I x3.2.f2)]), (1001026, (x3.1.flatMap e49))]⟩], [⟨54, [(.pt 0 0 3), (.sl true a0.length 1 (a0.flatMap encU))], [(0, [(.sl false x2.2.f0.length 1 (x2.2.f0.flatMap encU)), (I x2.2.f1), (I x2.2.f2)])], (.rf 512 0 x3.1.length 3 (x3.1.length * 3)), [(0, [(.sl false x3.2.f0.length 1 (x3.2.f0.flatMap encU)), (I x3.2.f1), (I x3.2.f2)]), (512, (x3.1.flatMap e49))], [], [(1000513, 0)], [(1000513, 0), (1001026, 512)], (.rf 1001026 0 x3.1.length 3 (x3.1.length * 3)), [(1000513, [(.sl false x3.2.f0.length 1 (x3.2.f0.flatMap encU)), (I x3.2.f1), (I x3.2.f2)]), (1001026, (x3.1.flatMap e49))]⟩]⟩ [c_ 62, c_ 63] (alc (cokW false (a2c (.pt (memP_mem (p := (1000513, 0)) rfl)) (a2c (.z (frz_sl encU_ok (fun h => absurd h (by decide)))) a2n)) (akc ⟨_, _, rfl, rfl, (a2c (.z (frz_sl encU_ok (fun h => h))) (a2c (.z .s) (a2c (.z .s) a2n)))⟩ akn) (akc (.inl rfl) (akc (.inr rfl) akn)) (.rf (memP_mem (p := (1001026, 512)) rfl)) (akc ⟨_, _, rfl, rfl, (a2c (.z (clnS encU_c (fun h => absurd h (by decide)))) (a2c (.z .s) (a2c (.z .s) a2n)))⟩ (akc ⟨_, _, rfl, rfl, rowB e49_c _⟩ akn)) (fun h => absurd h (by decide))) aln) (acal (spec_l10DrawStays.J k x2.2 a0 _ hx3) nocal) ?_
  obtain ⟨x4, hx4, h⟩ := Option.bind_eq_some_iff.mp h
  refine .reg' [2, 3, 4] [.no, .no, .no, .c ⟨55, [(.pt 0 0 3), (I 6)], [(0, [(.sl false x3.2.f0.length 1 (x3.2.f0.flatMap encU)), (I x3.2.f1), (I x3.2.f2)])], (I x4.1), [(0, [(.sl false x4.2.f0.length 1 (x4.2.f0.flatMap encU)), (I x4.2.f1), (I x4.2.f2)])], [], [(1000513, 0)], [(1000513, 0)], (I x4.1), [(1000513, [(.sl false x4.2.f0.length 1 (x4.2.f0.flatMap encU)), (I x4.2.f1), (I x4.2.f2)])]⟩] ⟨[(2, (.rf 1000769 0 x2.1.length 1 (x2.1.length * 1))), (3, (.rf 1001026 0 x3.1.length 3 (x3.1.length * 3))), (4, (I (wrap64 (1 + x4.1))))], [(1000513, [(.sl false x4.2.f0.length 1 (x4.2.f0.flatMap encU)), (I x4.2.f1), (I x4.2.f2)]), (1000769, (x2.1.flatMap encI)), (1001026, (x3.1.flatMap e49))], [COK (hget [(1000513, [(.sl false x3.2.f0.length 1 (x3.2.f0.flatMap encU)), (I x3.2.f1), (I x3.2.f2)]), (1000769, (x2.1.flatMap encI)), (1001026, (x3.1.flatMap e49))]) [(.pt 1000513 0 3), (I 6)] ⟨55, [(.pt 0 0 3), (I 6)], [(0, [(.sl false x3.2.f0.length 1 (x3.2.f0.flatMap encU)), (I x3.2.f1), (I x3.2.f2)])], (I x4.1), [(0, [(.sl false x4.2.f0.length 1 (x4.2.f0.flatMap encU)), (I x4.2.f1), (I x4.2.f2)])], [], [(1000513, 0)], [(1000513, 0)], (I x4.1), [(1000513, [(.sl false x4.2.f0.length 1 (x4.2.f0.flatMap encU)), (I x4.2.f1), (I x4.2.f2)])]⟩], [⟨55, [(.pt 0 0 3), (I 6)], [(0, [(.sl false x3.2.f0.length 1 (x3.2.f0.flatMap encU)), (I x3.2.f1), (I x3.2.f2)])], (I x4.1), [(0, [(.sl false x4.2.f0.length 1 (x4.2.f0.flatMap encU)), (I x4.2.f1), (I x4.2.f2)])], [], [(1000513, 0)], [(1000513, 0)], (I x4.1), [(1000513, [(.sl false x4.2.f0.length 1 (x4.2.f0.flatMap encU)), (I x4.2.f1), (I x4.2.f2)])]⟩]⟩ [c_ 63] (alc (cokW false (a2c (.pt (memP_mem (p := (1000513, 0)) rfl)) (a2c (.z .s) a2n)) (akc ⟨_, _, rfl, rfl, (a2c (.z (frz_sl encU_ok (fun h => h))) (a2c (.z .s) (a2c (.z .s) a2n)))⟩ akn) (akc (.inl rfl) akn) (.z .s) (akc ⟨_, _, rfl, rfl, (a2c (.z (clnS encU_c (fun h => absurd h (by decide)))) (a2c (.z .s) (a2c (.z .s) a2n)))⟩ akn) (fun h => absurd h (by decide))) aln) (acal (spec_l01Below.J x3.2 6 _ hx4) nocal) ?_
  have h := Option.some.inj h
  subst h
  exact .fin' [] [(1000769, 1000769), (1001026, 1001026)] (.tp [(.rf 1000769 0 x2.1.length 1 (x2.1.length * 1)), (.rf 1001026 0 x3.1.length 3 (x3.1.length * 3)), (I (wrap64 (1 + x4.1)))]) [] aln (shc 1000769 (rowF encI_ok _) (shc 1001026 (rowF e49_ok _) shn)) (cnv_tp (a2c (.rf (memP_mem (p := (1000769, 1000769)) rfl)) (a2c (.rf (memP_mem (p := (1001026, 1001026)) rfl)) (a2c (.z .s) a2n))))
/-! impl_between: function 40 -/
def impl_between.f (a0 : Int) (a1 : Int) (a2 : Int) : Option Bool := (if a0 ≥ a1 then (some (decide (a0 ≤ a2))) else (some false))
theorem impl_between.J (a0 : Int) (a1 : Int) (a2 : Int) (r : Bool) (h : impl_between.f a0 a1 a2 = some r) : J prog (.call 40 [(I a0), (I a1), (I a2)] [] (B r) []) := by
  unfold impl_between.f at h
  refine .call' [c_ 2, c_ 3] ?_
  refine .reg' [0, 1, 2] [] ⟨[(0, (I a0)), (1, (I a1)), (2, (I a2))], [], [], []⟩ [c_ 6, c_ 7] aln nocal ?_
  by_cases c1 : a0 ≥ a1
  · rw [if_pos c1] at h
    refine .reg' [6] [.no, .no, .no, .v (B true)] ⟨[(6, (B (decide (a0 ≤ a2))))], [], [(B (decide (a0 ≥ a1)) : V) = B true], []⟩ [c_ 7] (alc (bT (dT c1)) aln) nocal ?_
    have h := Option.some.inj h
    subst h
    exact .fin0 [] (B (decide (a0 ≤ a2))) [] aln (.z .s)
  · rw [if_neg c1] at h
    refine .reg' [6] [.no, .no, .no, .v (B false)] ⟨[(6, (B false))], [], [(B (decide (a0 ≥ a1)) : V) = B false], []⟩ [c_ 7] (alc (bF (dF c1)) aln) nocal ?_
    have h := Option.some.inj h
    subst h
    exact .fin0 [] (B false) [] aln (.z .s)
/-! impl_isMinute: function 42 -/
def impl_isMinute.f (a0 : Int) : Option Bool := ((impl_between.f a0 0 100000).bind fun x1 => (some x1))
theorem impl_isMinute.J (a0 : Int) (r : Bool) (h : impl_isMinute.f a0 = some r) : J prog (.call 42 [(I a0)] [] (B r) []) := by
  unfold impl_isMinute.f at h
  refine .call' [c_ 2, c_ 3] ?_
  refine .reg' [0] [] ⟨[(0, (I a0))], [], [], []⟩ [c_ 6, c_ 7] aln nocal ?_
  obtain ⟨x1, hx1, h⟩ := Option.bind_eq_some_iff.mp h
  refine .reg' [2] [.no, .c ⟨40, [(I a0), (I 0), (I 100000)], [], (B x1), [], [], [], [], (B x1), []⟩] ⟨[(2, (B x1))], [], [COK (hget []) [(I a0), (I 0), (I 100000)] ⟨40, [(I a0), (I 0), (I 100000)], [], (B x1), [], [], [], [], (B x1), []⟩], [⟨40, [(I a0), (I 0), (I 100000)], [], (B x1), [], [], [], [], (B x1), []⟩]⟩ [c_ 7] (alc (cok0 false (a2c (.z .s) (a2c (.z .s) (a2c (.z .s) a2n))) (.z .s) (fun h => absurd h (by decide))) aln) (acal (impl_between.J a0 0 100000 _ hx1) nocal) ?_
  have h := Option.some.inj h
  subst h
  exact .fin0 [] (B x1) [] aln (.z .s)
/-! impl_StaysOk: function 19 -/
def impl_StaysOk.l0 : Nat → (List S49) → Int → Option Bool
 | 0, _, _ => none
 | k + 1, a0, x1 => (if x1 < (a0.length : Int) then (if 0 ≤ x1 then ((impl_isMinute.f ((at_ a0 x1).f0)).bind fun x2 => (if x2 = true then ((impl_isMinute.f ((at_ a0 x1).f1)).bind fun x3 => (if x3 = true then (if (at_ a0 x1).f0 > (at_ a0 x1).f1 then (some false) else ((impl_between.f ((at_ a0 x1).f2) 1 1000).bind fun x4 => (if x4 = true then (impl_StaysOk.l0 k a0 (wrap64 (x1 + 1))) else (some false)))) else (some false))) else (some false))) else none) else (some true))
def impl_StaysOk.f (k : Nat) (a0 : (List S49)) : Option Bool := (if (a0.length : Int) > 60 then (some false) else (impl_StaysOk.l0 k a0 0))
theorem impl_StaysOk.lab : ∀ k, (∀ (a0 : (List S49)) (x1 : Int) (r : Bool), impl_StaysOk.l0 k a0 x1 = some r → J prog (.run 19 [] [l_ 58, b_ 0, c_ 15] [(8, (.sl true a0.length 3 (a0.flatMap e49))), (9, (I (a0.length : Int))), (10, (I x1))] [] (B r) []))
 | 0 => (by intro a0 x1 r h; unfold impl_StaysOk.l0 at h; cases h)
 | k + 1 => by
  have ih0 := impl_StaysOk.lab k
  · intro a0 x1 r h
    unfold impl_StaysOk.l0 at h
    refine .loop' [c_ 232, c_ 233, l_ 58, b_ 0, c_ 15] ?_
    refine .reg' [8, 9, 10, 11] [] ⟨[(8, (.sl true a0.length 3 (a0.flatMap e49))), (9, (I (a0.length : Int))), (10, (I x1)), (11, (B (decide (x1 < (a0.length : Int)))))], [], [], []⟩ [c_ 466, c_ 467, l_ 58, b_ 0, c_ 15] aln nocal ?_
    by_cases c2 : x1 < (a0.length : Int)
    · rw [if_pos c2] at h
      refine .cond' (.tmp 11) true [c_ 3736, c_ 3737, b_ 1, c_ 935, l_ 58, b_ 0, c_ 15] (bT (dT c2)) ?_
      by_cases c3 : 0 ≤ x1
      · rw [if_pos c3] at h
        refine .reg' [4, 8, 9, 10] [.no, .v (.ag [(I (at_ a0 x1).f0), (I (at_ a0 x1).f1), (I (at_ a0 x1).f2)])] ⟨[(4, (.pt 1538 0 3)), (8, (.sl true a0.length 3 (a0.flatMap e49))), (9, (I (a0.length : Int))), (10, (I x1))], [(1538, [(I (at_ a0 x1).f0), (I (at_ a0 x1).f1), (I (at_ a0 x1).f2)])], [(0 : Int) ≤ x1 ∧ x1 < (a0.length : Int), rdC prog 50 ((a0.flatMap e49).drop (x1.toNat * 3)) = (.ag [(I (at_ a0 x1).f0), (I (at_ a0 x1).f1), (I (at_ a0 x1).f2)]), 3 ≤ ((a0.flatMap e49).drop (x1.toNat * 3)).length, 3 = 3 ∧ 0 + 3 ≤ 3], []⟩ [c_ 7474, c_ 7475, b_ 1, c_ 935, l_ 58, b_ 0, c_ 15] (alc ⟨c3, c2⟩ (alc (ldA e49_ok rfl rfl c3 c2) (alc (okI e49_ok c3 c2 (by decide)) (alc ⟨rfl, by decide⟩ aln)))) nocal ?_
        obtain ⟨x2, hx2, h⟩ := Option.bind_eq_some_iff.mp h
        by_cases c4 : x2 = true
        · rw [if_pos c4] at h
          obtain ⟨x3, hx3, h⟩ := Option.bind_eq_some_iff.mp h
          by_cases c5 : x3 = true
          · rw [if_pos c5] at h
            by_cases c6 : (at_ a0 x1).f0 > (at_ a0 x1).f1
            · rw [if_pos c6] at h
              refine .reg' [8, 9, 10, 36] [.no, .no, .c ⟨42, [(I (at_ a0 x1).f0)], [], (B x2), [], [], [], [], (B x2), []⟩, .no, .v (B false), .no, .no, .c ⟨42, [(I (at_ a0 x1).f1)], [], (B x3), [], [], [], [], (B x3), []⟩, .no, .no, .v (B false), .no, .no, .no, .no, .no, .no, .v (B true)] ⟨[(8, (.sl true a0.length 3 (a0.flatMap e49))), (9, (I (a0.length : Int))), (10, (I x1)), (36, (B true))], [(1538, [(I (at_ a0 x1).f0), (I (at_ a0 x1).f1), (I (at_ a0 x1).f2)])], [3 = 3 ∧ 0 + 1 ≤ 3, COK (hget [(1538, [(I (at_ a0 x1).f0), (I (at_ a0 x1).f1), (I (at_ a0 x1).f2)])]) [(I (at_ a0 x1).f0)] ⟨42, [(I (at_ a0 x1).f0)], [], (B x2), [], [], [], [], (B x2), []⟩, (B (!x2) : V) = B false, 3 = 3 ∧ 1 + 1 ≤ 3, COK (hget [(1538, [(I (at_ a0 x1).f0), (I (at_ a0 x1).f1), (I (at_ a0 x1).f2)])]) [(I (at_ a0 x1).f1)] ⟨42, [(I (at_ a0 x1).f1)], [], (B x3), [], [], [], [], (B x3), []⟩, (B (!x3) : V) = B false, 3 = 3 ∧ 0 + 1 ≤ 3, 3 = 3 ∧ 1 + 1 ≤ 3, (B (decide ((at_ a0 x1).f0 > (at_ a0 x1).f1)) : V) = B true], [⟨42, [(I (at_ a0 x1).f0)], [], (B x2), [], [], [], [], (B x2), []⟩, ⟨42, [(I (at_ a0 x1).f1)], [], (B x3), [], [], [], [], (B x3), []⟩]⟩ [c_ 7475, b_ 1, c_ 935, l_ 58, b_ 0, c_ 15] (alc ⟨rfl, by decide⟩ (alc (cok0 false (a2c (.z .s) a2n) (.z .s) (fun h => absurd h (by decide))) (alc (bF (nF c4)) (alc ⟨rfl, by decide⟩ (alc (cok0 false (a2c (.z .s) a2n) (.z .s) (fun h => absurd h (by decide))) (alc (bF (nF c5)) (alc ⟨rfl, by decide⟩ (alc ⟨rfl, by decide⟩ (alc (bT (dT c6)) aln))))))))) (acal (impl_isMinute.J ((at_ a0 x1).f0) _ hx2) (acal (impl_isMinute.J ((at_ a0 x1).f1) _ hx3) nocal)) ?_
              refine .cond' (.tmp 36) true [c_ 29900, c_ 29901, b_ 1, c_ 935, l_ 58, b_ 0, c_ 15] (rfl) ?_
              refine .reg' [2] [] ⟨[(2, (B false))], [(1538, [(I (at_ a0 x1).f0), (I (at_ a0 x1).f1), (I (at_ a0 x1).f2)])], [], []⟩ [c_ 29901, b_ 1, c_ 935, l_ 58, b_ 0, c_ 15] aln nocal ?_
              have h := Option.some.inj h
              subst h
              exact .fin0 [] (B false) [] aln (.z .s)
            · rw [if_neg c6] at h
              obtain ⟨x4, hx4, h⟩ := Option.bind_eq_some_iff.mp h
              refine .reg' [8, 9, 10, 36] [.no, .no, .c ⟨42, [(I (at_ a0 x1).f0)], [], (B x2), [], [], [], [], (B x2), []⟩, .no, .v (B false), .no, .no, .c ⟨42, [(I (at_ a0 x1).f1)], [], (B x3), [], [], [], [], (B x3), []⟩, .no, .no, .v (B false), .no, .no, .no, .no, .no, .no, .v (B false), .no, .no, .c ⟨40, [(I (at_ a0 x1).f2), (I 1), (I 1000)], [], (B x4), [], [], [], [], (B x4), []⟩] ⟨[(8, (.sl true a0.length 3 (a0.flatMap e49))), (9, (I (a0.length : Int))), (10, (I x1)), (36, (B (!x4)))], [(1538, [(I (at_ a0 x1).f0), (I (at_ a0 x1).f1), (I (at_ a0 x1).f2)])], [3 = 3 ∧ 0 + 1 ≤ 3, COK (hget [(1538, [(I (at_ a0 x1).f0), (I (at_ a0 x1).f1), (I (at_ a0 x1).f2)])]) [(I (at_ a0 x1).f0)] ⟨42, [(I (at_ a0 x1).f0)], [], (B x2), [], [], [], [], (B x2), []⟩, (B (!x2) : V) = B false, 3 = 3 ∧ 1 + 1 ≤ 3, COK (hget [(1538, [(I (at_ a0 x1).f0), (I (at_ a0 x1).f1), (I (at_ a0 x1).f2)])]) [(I (at_ a0 x1).f1)] ⟨42, [(I (at_ a0 x1).f1)], [], (B x3), [], [], [], [], (B x3), []⟩, (B (!x3) : V) = B false, 3 = 3 ∧ 0 + 1 ≤ 3, 3 = 3 ∧ 1 + 1 ≤ 3, (B (decide ((at_ a0 x1).f0 > (at_ a0 x1).f1)) : V) = B false, 3 = 3 ∧ 2 + 1 ≤ 3, COK (hget [(1538, [(I (at_ a0 x1).f0), (I (at_ a0 x1).f1), (I (at_ a0 x1).f2)])]) [(I (at_ a0 x1).f2), (I 1), (I 1000)] ⟨40, [(I (at_ a0 x1).f2), (I 1), (I 1000)], [], (B x4), [], [], [], [], (B x4), []⟩], [⟨42, [(I (at_ a0 x1).f0)], [], (B x2), [], [], [], [], (B x2), []⟩, ⟨42, [(I (at_ a0 x1).f1)], [], (B x3), [], [], [], [], (B x3), []⟩, ⟨40, [(I (at_ a0 x1).f2), (I 1), (I 1000)], [], (B x4), [], [], [], [], (B x4), []⟩]⟩ [c_ 7475, b_ 1, c_ 935, l_ 58, b_ 0, c_ 15] (alc ⟨rfl, by decide⟩ (alc (cok0 false (a2c (.z .s) a2n) (.z .s) (fun h => absurd h (by decide))) (alc (bF (nF c4)) (alc ⟨rfl, by decide⟩ (alc (cok0 false (a2c (.z .s) a2n) (.z .s) (fun h => absurd h (by decide))) (alc (bF (nF c5)) (alc ⟨rfl, by decide⟩ (alc ⟨rfl, by decide⟩ (alc (bF (dF c6)) (alc ⟨rfl, by decide⟩ (alc (cok0 false (a2c (.z .s) (a2c (.z .s) (a2c (.z .s) a2n))) (.z .s) (fun h => absurd h (by decide))) aln))))))))))) (acal (impl_isMinute.J ((at_ a0 x1).f0) _ hx2) (acal (impl_isMinute.J ((at_ a0 x1).f1) _ hx3) (acal (impl_between.J ((at_ a0 x1).f2) 1 1000 _ hx4) nocal))) ?_
              by_cases c7 : x4 = true
              · rw [if_pos c7] at h
                refine .cond' (.tmp 36) false [c_ 935, l_ 58, b_ 0, c_ 15] (bF (nF c7)) ?_
                refine .reg' [8, 9, 10] [] ⟨[(8, (.sl true a0.length 3 (a0.flatMap e49))), (9, (I (a0.length : Int))), (10, (I (wrap64 (x1 + 1))))], [(1538, [(I (at_ a0 x1).f0), (I (at_ a0 x1).f1), (I (at_ a0 x1).f2)])], [], []⟩ [l_ 58, b_ 0, c_ 15] aln nocal ?_
                refine .wk' [] [] [(8, (.sl true a0.length 3 (a0.flatMap e49))), (9, (I (a0.length : Int))), (10, (I (wrap64 (x1 + 1))))] [] shn (enc_ (.z (frz_sl e49_ok (fun h => h))) (enc_ (.z .s) (enc_ (.z .s) enn))) ?_
                exact ih0 a0 (wrap64 (x1 + 1)) _ h
              · rw [if_neg c7] at h
                refine .cond' (.tmp 36) true [c_ 29900, c_ 29901, b_ 1, c_ 935, l_ 58, b_ 0, c_ 15] (bT (nT (vF c7))) ?_
                refine .reg' [2] [] ⟨[(2, (B false))], [(1538, [(I (at_ a0 x1).f0), (I (at_ a0 x1).f1), (I (at_ a0 x1).f2)])], [], []⟩ [c_ 29901, b_ 1, c_ 935, l_ 58, b_ 0, c_ 15] aln nocal ?_
                have h := Option.some.inj h
                subst h
                exact .fin0 [] (B false) [] aln (.z .s)
          · rw [if_neg c5] at h
            refine .reg' [8, 9, 10, 36] [.no, .no, .c ⟨42, [(I (at_ a0 x1).f0)], [], (B x2), [], [], [], [], (B x2), []⟩, .no, .v (B false), .no, .no, .c ⟨42, [(I (at_ a0 x1).f1)], [], (B x3), [], [], [], [], (B x3), []⟩, .no, .no, .v (B true)] ⟨[(8, (.sl true a0.length 3 (a0.flatMap e49))), (9, (I (a0.length : Int))), (10, (I x1)), (36, (B true))], [(1538, [(I (at_ a0 x1).f0), (I (at_ a0 x1).f1), (I (at_ a0 x1).f2)])], [3 = 3 ∧ 0 + 1 ≤ 3, COK (hget [(1538, [(I (at_ a0 x1).f0), (I (at_ a0 x1).f1), (I (at_ a0 x1).f2)])]) [(I (at_ a0 x1).f0)] ⟨42, [(I (at_ a0 x1).f0)], [], (B x2), [], [], [], [], (B x2), []⟩, (B (!x2) : V) = B false, 3 = 3 ∧ 1 + 1 ≤ 3, COK (hget [(1538, [(I (at_ a0 x1).f0), (I (at_ a0 x1).f1), (I (at_ a0 x1).f2)])]) [(I (at_ a0 x1).f1)] ⟨42, [(I (at_ a0 x1).f1)], [], (B x3), [], [], [], [], (B x3), []⟩, (B (!x3) : V) = B true], [⟨42, [(I (at_ a0 x1).f0)], [], (B x2), [], [], [], [], (B x2), []⟩, ⟨42, [(I (at_ a0 x1).f1)], [], (B x3), [], [], [], [], (B x3), []⟩]⟩ [c_ 7475, b_ 1, c_ 935, l_ 58, b_ 0, c_ 15] (alc ⟨rfl, by decide⟩ (alc (cok0 false (a2c (.z .s) a2n) (.z .s) (fun h => absurd h (by decide))) (alc (bF (nF c4)) (alc ⟨rfl, by decide⟩ (alc (cok0 false (a2c (.z .s) a2n) (.z .s) (fun h => absurd h (by decide))) (alc (bT (nT (vF c5))) aln)))))) (acal (impl_isMinute.J ((at_ a0 x1).f0) _ hx2) (acal (impl_isMinute.J ((at_ a0 x1).f1) _ hx3) nocal)) ?_
            refine .cond' (.tmp 36) true [c_ 29900, c_ 29901, b_ 1, c_ 935, l_ 58, b_ 0, c_ 15] (rfl) ?_
            refine .reg' [2] [] ⟨[(2, (B false))], [(1538, [(I (at_ a0 x1).f0), (I (at_ a0 x1).f1), (I (at_ a0 x1).f2)])], [], []⟩ [c_ 29901, b_ 1, c_ 935, l_ 58, b_ 0, c_ 15] aln nocal ?_
            have h := Option.some.inj h
            subst h
            exact .fin0 [] (B false) [] aln (.z .s)
        · rw [if_neg c4] at h
          refine .reg' [8, 9, 10, 36] [.no, .no, .c ⟨42, [(I (at_ a0 x1).f0)], [], (B x2), [], [], [], [], (B x2), []⟩, .no, .v (B true)] ⟨[(8, (.sl true a0.length 3 (a0.flatMap e49))), (9, (I (a0.length : Int))), (10, (I x1)), (36, (B true))], [(1538, [(I (at_ a0 x1).f0), (I (at_ a0 x1).f1), (I (at_ a0 x1).f2)])], [3 = 3 ∧ 0 + 1 ≤ 3, COK (hget [(1538, [(I (at_ a0 x1).f0), (I (at_ a0 x1).f1), (I (at_ a0 x1).f2)])]) [(I (at_ a0 x1).f0)] ⟨42, [(I (at_ a0 x1).f0)], [], (B x2), [], [], [], [], (B x2), []⟩, (B (!x2) : V) = B true], [⟨42, [(I (at_ a0 x1).f0)], [], (B x2), [], [], [], [], (B x2), []⟩]⟩ [c_ 7475, b_ 1, c_ 935, l_ 58, b_ 0, c_ 15] (alc ⟨rfl, by decide⟩ (alc (cok0 false (a2c (.z .s) a2n) (.z .s) (fun h => absurd h (by decide))) (alc (bT (nT (vF c4))) aln))) (acal (impl_isMinute.J ((at_ a0 x1).f0) _ hx2) nocal) ?_
          refine .cond' (.tmp 36) true [c_ 29900, c_ 29901, b_ 1, c_ 935, l_ 58, b_ 0, c_ 15] (rfl) ?_
          refine .reg' [2] [] ⟨[(2, (B false))], [(1538, [(I (at_ a0 x1).f0), (I (at_ a0 x1).f1), (I (at_ a0 x1).f2)])], [], []⟩ [c_ 29901, b_ 1, c_ 935, l_ 58, b_ 0, c_ 15] aln nocal ?_
          have h := Option.some.inj h
          subst h
          exact .fin0 [] (B false) [] aln (.z .s)
      · rw [if_neg c3] at h
        cases h
    · rw [if_neg c2] at h
      refine .cond' (.tmp 11) false [c_ 30, c_ 31] (bF (dF c2)) ?_
      refine .reg' [2] [] ⟨[(2, (B true))], [], [], []⟩ [c_ 31] aln nocal ?_
      have h := Option.some.inj h
      subst h
      exact .fin0 [] (B true) [] aln (.z .s)
theorem impl_StaysOk.J (k : Nat) (a0 : (List S49)) (r : Bool) (h : impl_StaysOk.f k a0 = some r) : J prog (.call 19 [(.sl true a0.length 3 (a0.flatMap e49))] [] (B r) []) := by
  unfold impl_StaysOk.f at h
  have ih0 := impl_StaysOk.lab k
  refine .call' [c_ 2, c_ 3] ?_
  refine .reg' [0] [] ⟨[(0, (.sl true a0.length 3 (a0.flatMap e49)))], [], [], []⟩ [c_ 12, c_ 13, c_ 7] aln nocal ?_
  refine .reg' [0, 7] [] ⟨[(0, (.sl true a0.length 3 (a0.flatMap e49))), (7, (B (decide ((a0.length : Int) > 60))))], [], [], []⟩ [c_ 13, c_ 7] aln nocal ?_
  by_cases c1 : (a0.length : Int) > 60
  · rw [if_pos c1] at h
    refine .cond' (.tmp 7) true [c_ 52, c_ 53, c_ 7] (bT (dT c1)) ?_
    refine .reg' [2] [] ⟨[(2, (B false))], [], [], []⟩ [c_ 53, c_ 7] aln nocal ?_
    have h := Option.some.inj h
    subst h
    exact .fin0 [] (B false) [] aln (.z .s)
  · rw [if_neg c1] at h
    refine .cond' (.tmp 7) false [c_ 28, c_ 29, c_ 15] (bF (dF c1)) ?_
    refine .reg' [8, 9, 10] [] ⟨[(8, (.sl true a0.length 3 (a0.flatMap e49))), (9, (I (a0.length : Int))), (10, (I 0))], [], [], []⟩ [l_ 58, b_ 0, c_ 15] aln nocal ?_
    exact ih0 a0 0 _ h
/-! impl_gapOk: function 46 -/
def impl_gapOk.f (a0 : Int) : Option Bool := ((impl_between.f a0 1 60).bind fun x1 => (some x1))
theorem impl_gapOk.J (a0 : Int) (r : Bool) (h : impl_gapOk.f a0 = some r) : J prog (.call 46 [(I a0)] [] (B r) []) := by
  unfold impl_gapOk.f at h
  refine .call' [c_ 2, c_ 3] ?_
  refine .reg' [0] [] ⟨[(0, (I a0))], [], [], []⟩ [c_ 6, c_ 7] aln nocal ?_
  obtain ⟨x1, hx1, h⟩ := Option.bind_eq_some_iff.mp h
  refine .reg' [2] [.no, .c ⟨40, [(I a0), (I 1), (I 60)], [], (B x1), [], [], [], [], (B x1), []⟩] ⟨[(2, (B x1))], [], [COK (hget []) [(I a0), (I 1), (I 60)] ⟨40, [(I a0), (I 1), (I 60)], [], (B x1), [], [], [], [], (B x1), []⟩], [⟨40, [(I a0), (I 1), (I 60)], [], (B x1), [], [], [], [], (B x1), []⟩]⟩ [c_ 7] (alc (cok0 false (a2c (.z .s) (a2c (.z .s) (a2c (.z .s) a2n))) (.z .s) (fun h => absurd h (by decide))) aln) (acal (impl_between.J a0 1 60 _ hx1) nocal) ?_
  have h := Option.some.inj h
  subst h
  exact .fin0 [] (B x1) [] aln (.z .s)
/-! impl_Stay_holds: function 47 -/
def impl_Stay_holds.f (a0 : S49) (a1 : Int) (a2 : Int) : Option Bool := (if a0.f0 ≤ a1 then (some (decide (a1 ≤ (wrap64 ((wrap64 (a0.f1 + a2)) - 1))))) else (some false))
theorem impl_Stay_holds.J (a0 : S49) (a1 : Int) (a2 : Int) (r : Bool) (h : impl_Stay_holds.f a0 a1 a2 = some r) : J prog (.call 47 [(.ag [(I a0.f0), (I a0.f1), (I a0.f2)]), (I a1), (I a2)] [] (B r) []) := by
  unfold impl_Stay_holds.f at h
  refine .call' [c_ 2, c_ 3] ?_
  refine .reg' [1, 2, 3] [] ⟨[(1, (I a1)), (2, (I a2)), (3, (.pt 256 0 3))], [(256, [(I a0.f0), (I a0.f1), (I a0.f2)])], [], []⟩ [c_ 6, c_ 7] aln nocal ?_
  by_cases c1 : a0.f0 ≤ a1
  · rw [if_pos c1] at h
    refine .reg' [6] [.no, .no, .no, .no, .v (B true)] ⟨[(6, (B (decide (a1 ≤ (wrap64 ((wrap64 (a0.f1 + a2)) - 1))))))], [(256, [(I a0.f0), (I a0.f1), (I a0.f2)])], [3 = 3 ∧ 0 + 1 ≤ 3, (B (decide (a0.f0 ≤ a1)) : V) = B true, 3 = 3 ∧ 1 + 1 ≤ 3], []⟩ [c_ 7] (alc ⟨rfl, by decide⟩ (alc (bT (dT c1)) (alc ⟨rfl, by decide⟩ aln))) nocal ?_
    have h := Option.some.inj h
    subst h
    exact .fin0 [] (B (decide (a1 ≤ (wrap64 ((wrap64 (a0.f1 + a2)) - 1))))) [] aln (.z .s)
  · rw [if_neg c1] at h
    refine .reg' [6] [.no, .no, .no, .no, .v (B false)] ⟨[(6, (B false))], [(256, [(I a0.f0), (I a0.f1), (I a0.f2)])], [3 = 3 ∧ 0 + 1 ≤ 3, (B (decide (a0.f0 ≤ a1)) : V) = B false], []⟩ [c_ 7] (alc ⟨rfl, by decide⟩ (alc (bF (dF c1)) aln)) nocal ?_
    have h := Option.some.inj h
    subst h
    exact .fin0 [] (B false) [] aln (.z .s)
/-! impl_Peak: function 22 -/
mutual
def impl_Peak.l0 : Nat → (List S49) → Int → Int → Int → Option Int
 | 0, _, _, _, _ => none
 | k + 1, a0, a1, x3, x4 => (if x4 < (a0.length : Int) then (if 0 ≤ x4 then (impl_Peak.l1 k a0 a1 x3 x4 0 0) else none) else (some x3))
def impl_Peak.l1 : Nat → (List S49) → Int → Int → Int → Int → Int → Option Int
 | 0, _, _, _, _, _, _ => none
 | k + 1, a0, a1, x3, x4, x5, x6 => (if x6 < (a0.length : Int) then (if 0 ≤ x6 then ((impl_Stay_holds.f (at_ a0 x6) ((at_ a0 x4).f0) a1).bind fun x7 => (if x7 = true then (impl_Peak.l1 k a0 a1 x3 x4 (wrap64 (x5 + 1)) (wrap64 (x6 + 1))) else (impl_Peak.l1 k a0 a1 x3 x4 x5 (wrap64 (x6 + 1))))) else none) else (impl_Peak.l0 k a0 a1 (mx x3 x5) (wrap64 (x4 + 1))))
end
def impl_Peak.f (k : Nat) (a0 : (List S49)) (a1 : Int) : Option Int := ((impl_StaysOk.f k a0).bind fun x1 => (if x1 = true then ((impl_gapOk.f a1).bind fun x2 => (if x2 = true then (impl_Peak.l0 k a0 a1 0 0) else (some 0))) else (some 0)))
end Go.Proofs.Ytddipeelmandjaa.Fns
