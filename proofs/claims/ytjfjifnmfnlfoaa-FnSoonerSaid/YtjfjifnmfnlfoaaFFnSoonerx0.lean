/- The functions that the law FnSooner reaches, by the engine. Printed by a program of this seat. -/
import Derived.Test.YtjfjifnmfnlfoaaE5
import Derived.Test.YtjfjifnmfnlfoaaProg
namespace Go.Proofs.Ytjfjifnmfnlfoaa.Fns
open Go.Proofs.Try Go.Proofs.Ytjfjifnmfnlfoaa.Eng Go.RowKit
set_option maxRecDepth 100000
set_option linter.unusedVariables false
set_option linter.unusedSimpArgs false
structure S107 where
  f0 : Int
  f1 : Int
  f2 : Int
  deriving Inhabited
def e107 (x : S107) : List V := [I x.f0, I x.f1, I x.f2]
theorem e107_ok : Enc (e107) 3 where
  len := fun _ => rfl
  self := fun x v h H tb bor => by
    simp only [e107, List.mem_cons, List.not_mem_nil, or_false] at h
    rcases h with h | h | h
    · subst h; exact .s
    · subst h; exact .s
    · subst h; exact .s
  cln := fun x v h => by
    simp only [e107, List.mem_cons, List.not_mem_nil, or_false] at h
    rcases h with h | h | h
    · subst h; exact .s
    · subst h; exact .s
    · subst h; exact .s
theorem e107_c {b : Bool} : EncC b e107 := by
  intro x v h
  simp only [e107, List.mem_cons, List.not_mem_nil, or_false] at h
  rcases h with h | h | h
  · subst h; exact .s
  · subst h; exact .s
  · subst h; exact .s
structure S105 where
  f0 : ByteArray
  f1 : (List S107)
  deriving Inhabited
def e105 (t : Bool) (x : S105) : List V := [S x.f0, .sl t x.f1.length 3 (x.f1.flatMap e107)]
theorem e105_ok (t : Bool) : Enc (e105 t) 2 where
  len := fun _ => rfl
  self := fun x v h H tb bor => by
    simp only [e105, List.mem_cons, List.not_mem_nil, or_false] at h
    rcases h with h | h
    · subst h; exact .s
    · subst h; exact frz_sl e107_ok id
  cln := fun x v h => by
    simp only [e105, List.mem_cons, List.not_mem_nil, or_false] at h
    rcases h with h | h
    · subst h; exact .s
    · subst h; exact cln_sl e107_ok
theorem e105_to (x : S105) {H : Nat → Option (List V)} {tb : Bool} {bor : List Nat} : All2 (Frz H tb bor) (e105 false x) (e105 true x) := (a2c .s (a2c (frz_sl e107_ok (fun h => absurd h (by decide))) a2n))
theorem e105_c1 : EncC true (e105 true) := by
  intro x v h
  simp only [e105, List.mem_cons, List.not_mem_nil, or_false] at h
  rcases h with h | h
  · subst h; exact .s
  · subst h; exact clnS e107_c (fun h => rfl)
theorem e105_c0 {b : Bool} : EncC b (e105 false) := by
  intro x v h
  simp only [e105, List.mem_cons, List.not_mem_nil, or_false] at h
  rcases h with h | h
  · subst h; exact .s
  · subst h; exact clnS e107_c (fun h => absurd h (by decide))
structure S169 where
  f0 : Int
  f1 : Int
  f2 : Int
  f3 : Int
  deriving Inhabited
def e169 (x : S169) : List V := [I x.f0, I x.f1, I x.f2, I x.f3]
theorem e169_ok : Enc (e169) 4 where
  len := fun _ => rfl
  self := fun x v h H tb bor => by
    simp only [e169, List.mem_cons, List.not_mem_nil, or_false] at h
    rcases h with h | h | h | h
    · subst h; exact .s
    · subst h; exact .s
    · subst h; exact .s
    · subst h; exact .s
  cln := fun x v h => by
    simp only [e169, List.mem_cons, List.not_mem_nil, or_false] at h
    rcases h with h | h | h | h
    · subst h; exact .s
    · subst h; exact .s
    · subst h; exact .s
    · subst h; exact .s
theorem e169_c {b : Bool} : EncC b e169 := by
  intro x v h
  simp only [e169, List.mem_cons, List.not_mem_nil, or_false] at h
  rcases h with h | h | h | h
  · subst h; exact .s
  · subst h; exact .s
  · subst h; exact .s
  · subst h; exact .s
structure S131 where
  f0 : Int
  f1 : (List S169)
  deriving Inhabited
def e131 (t : Bool) (x : S131) : List V := [I x.f0, .sl t x.f1.length 4 (x.f1.flatMap e169)]
theorem e131_ok (t : Bool) : Enc (e131 t) 2 where
  len := fun _ => rfl
  self := fun x v h H tb bor => by
    simp only [e131, List.mem_cons, List.not_mem_nil, or_false] at h
    rcases h with h | h
    · subst h; exact .s
    · subst h; exact frz_sl e169_ok id
  cln := fun x v h => by
    simp only [e131, List.mem_cons, List.not_mem_nil, or_false] at h
    rcases h with h | h
    · subst h; exact .s
    · subst h; exact cln_sl e169_ok
theorem e131_to (x : S131) {H : Nat → Option (List V)} {tb : Bool} {bor : List Nat} : All2 (Frz H tb bor) (e131 false x) (e131 true x) := (a2c .s (a2c (frz_sl e169_ok (fun h => absurd h (by decide))) a2n))
theorem e131_c1 : EncC true (e131 true) := by
  intro x v h
  simp only [e131, List.mem_cons, List.not_mem_nil, or_false] at h
  rcases h with h | h
  · subst h; exact .s
  · subst h; exact clnS e169_c (fun h => rfl)
theorem e131_c0 {b : Bool} : EncC b (e131 false) := by
  intro x v h
  simp only [e131, List.mem_cons, List.not_mem_nil, or_false] at h
  rcases h with h | h
  · subst h; exact .s
  · subst h; exact clnS e169_c (fun h => absurd h (by decide))
structure S153 where
  f0 : (List Int)
  f1 : Int
  f2 : Int
  deriving Inhabited
def e153 (t : Bool) (x : S153) : List V := [.sl t x.f0.length 1 (x.f0.flatMap encU), I x.f1, I x.f2]
theorem e153_ok (t : Bool) : Enc (e153 t) 3 where
  len := fun _ => rfl
  self := fun x v h H tb bor => by
    simp only [e153, List.mem_cons, List.not_mem_nil, or_false] at h
    rcases h with h | h | h
    · subst h; exact frz_sl encU_ok id
    · subst h; exact .s
    · subst h; exact .s
  cln := fun x v h => by
    simp only [e153, List.mem_cons, List.not_mem_nil, or_false] at h
    rcases h with h | h | h
    · subst h; exact cln_sl encU_ok
    · subst h; exact .s
    · subst h; exact .s
theorem e153_to (x : S153) {H : Nat → Option (List V)} {tb : Bool} {bor : List Nat} : All2 (Frz H tb bor) (e153 false x) (e153 true x) := (a2c (frz_sl encU_ok (fun h => absurd h (by decide))) (a2c .s (a2c .s a2n)))
theorem e153_c1 : EncC true (e153 true) := by
  intro x v h
  simp only [e153, List.mem_cons, List.not_mem_nil, or_false] at h
  rcases h with h | h | h
  · subst h; exact clnS encU_c (fun h => rfl)
  · subst h; exact .s
  · subst h; exact .s
theorem e153_c0 {b : Bool} : EncC b (e153 false) := by
  intro x v h
  simp only [e153, List.mem_cons, List.not_mem_nil, or_false] at h
  rcases h with h | h | h
  · subst h; exact clnS encU_c (fun h => absurd h (by decide))
  · subst h; exact .s
  · subst h; exact .s
/-! laws_big: function 45 -/
def laws_big.f (a0 : (List Int)) : Option Bool := (some (decide ((a0.length : Int) > 1048576)))
theorem laws_big.J (a0 : (List Int)) (r : Bool) (h : laws_big.f a0 = some r) : J prog (.call 45 [(.sl true a0.length 1 (a0.flatMap encU))] [] (B r) []) := by
  unfold laws_big.f at h
  refine .call' [c_ 2, c_ 3] ?_
  refine .reg' [0] [] ⟨[(0, (.sl true a0.length 1 (a0.flatMap encU)))], [], [], []⟩ [c_ 6, c_ 7] aln nocal ?_
  refine .reg' [2] [] ⟨[(2, (B (decide ((a0.length : Int) > 1048576))))], [], [], []⟩ [c_ 7] aln nocal ?_
  have h := Option.some.inj h
  subst h
  exact .fin0 [] (B (decide ((a0.length : Int) > 1048576))) [] aln (.z .s)
/-! spec_l01New: function 90 -/
def spec_l01New.l0 : Nat → (List Int) → Int → Int → Option S153
 | 0, _, _, _ => none
 | k + 1, a0, x1, x2 => (if x2 < (a0.length : Int) then (if x2 < 4000 then (if 0 ≤ x2 then (spec_l01New.l0 k a0 (bAnd (wrap64 ((wrap64 ((wrap64 (x1 * 137)) + (IntKind.i64.wrap (at_ a0 x2)))) + 11)) 1073741823) (wrap64 (x2 + 1))) else none) else (some (⟨a0, 0, x1⟩ : S153))) else (some (⟨a0, 0, x1⟩ : S153)))
def spec_l01New.f (k : Nat) (a0 : (List Int)) : Option S153 := (spec_l01New.l0 k a0 (wrap64 (75075 + (a0.length : Int))) 0)
theorem spec_l01New.lab : ∀ k, (∀ (a0 : (List Int)) (x1 : Int) (x2 : Int) (r : S153), spec_l01New.l0 k a0 x1 x2 = some r → J prog (.run 90 [] [l_ 58, b_ 0, c_ 15] [(0, (.sl false a0.length 1 (a0.flatMap encU))), (3, (I x1)), (4, (I x2))] [] (.pt 1795 0 3) [(1795, [(.sl false r.f0.length 1 (r.f0.flatMap encU)), (I r.f1), (I r.f2)])]))
 | 0 => (by intro a0 x1 x2 r h; unfold spec_l01New.l0 at h; cases h)
 | k + 1 => by
  have ih0 := spec_l01New.lab k
  · intro a0 x1 x2 r h
    unfold spec_l01New.l0 at h
    refine .loop' [c_ 464, c_ 465, c_ 233, l_ 58, b_ 0, c_ 15] ?_
    by_cases c1 : x2 < (a0.length : Int)
    · rw [if_pos c1] at h
      refine .reg' [0, 3, 4, 15] [.no, .no, .no, .no, .v (B true)] ⟨[(0, (.sl false a0.length 1 (a0.flatMap encU))), (3, (I x1)), (4, (I x2)), (15, (B (decide (x2 < 4000))))], [], [(B (decide (x2 < (a0.length : Int))) : V) = B true], []⟩ [c_ 465, c_ 233, l_ 58, b_ 0, c_ 15] (alc (bT (dT c1)) aln) nocal ?_
      by_cases c2 : x2 < 4000
      · rw [if_pos c2] at h
        refine .cond' (.tmp 15) true [c_ 932, b_ 1, c_ 467, l_ 58, b_ 0, c_ 15] (bT (dT c2)) ?_
        by_cases c3 : 0 ≤ x2
        · rw [if_pos c3] at h
          refine .reg' [0, 3, 4] [.no, .no, .no, .no, .no, .v (U (at_ a0 x2))] ⟨[(0, (.sl false a0.length 1 (a0.flatMap encU))), (3, (I (bAnd (wrap64 ((wrap64 ((wrap64 (x1 * 137)) + (IntKind.i64.wrap (at_ a0 x2)))) + 11)) 1073741823))), (4, (I x2))], [], [(0 : Int) ≤ x2 ∧ x2 < (a0.length : Int), rdC prog 5 ((a0.flatMap encU).drop (x2.toNat * 1)) = (U (at_ a0 x2)), 1 ≤ ((a0.flatMap encU).drop (x2.toNat * 1)).length], []⟩ [c_ 467, l_ 58, b_ 0, c_ 15] (alc ⟨c3, c1⟩ (alc (ldC1 encU_ok rfl c3 c1) (alc (okI encU_ok c3 c1 (by decide)) aln))) nocal ?_
          refine .reg' [0, 3, 4] [] ⟨[(0, (.sl false a0.length 1 (a0.flatMap encU))), (3, (I (bAnd (wrap64 ((wrap64 ((wrap64 (x1 * 137)) + (IntKind.i64.wrap (at_ a0 x2)))) + 11)) 1073741823))), (4, (I (wrap64 (x2 + 1))))], [], [], []⟩ [l_ 58, b_ 0, c_ 15] aln nocal ?_
          exact ih0 a0 (bAnd (wrap64 ((wrap64 ((wrap64 (x1 * 137)) + (IntKind.i64.wrap (at_ a0 x2)))) + 11)) 1073741823) (wrap64 (x2 + 1)) _ h
        · rw [if_neg c3] at h
          cases h
      · rw [if_neg c2] at h
        refine .cond' (.tmp 15) false [c_ 30, c_ 31] (bF (dF c2)) ?_
        refine .reg' [2] [] ⟨[(2, (.pt 1795 0 3))], [(1795, [(.sl false a0.length 1 (a0.flatMap encU)), (I 0), (I x1)])], [], []⟩ [c_ 31] aln nocal ?_
        have h := Option.some.inj h
        subst h
        exact .fin' [] [(1795, 1795)] (.pt 1795 0 3) [] aln (shc 1795 (a2c (.z (frz_sl encU_ok (fun h => h))) (a2c (.z .s) (a2c (.z .s) a2n))) shn) (.pt (memP_mem (p := (1795, 1795)) rfl))
    · rw [if_neg c1] at h
      refine .reg' [0, 3, 4, 15] [.no, .no, .no, .no, .v (B false)] ⟨[(0, (.sl false a0.length 1 (a0.flatMap encU))), (3, (I x1)), (4, (I x2)), (15, (B false))], [], [(B (decide (x2 < (a0.length : Int))) : V) = B false], []⟩ [c_ 465, c_ 233, l_ 58, b_ 0, c_ 15] (alc (bF (dF c1)) aln) nocal ?_
      refine .cond' (.tmp 15) false [c_ 30, c_ 31] (rfl) ?_
      refine .reg' [2] [] ⟨[(2, (.pt 1795 0 3))], [(1795, [(.sl false a0.length 1 (a0.flatMap encU)), (I 0), (I x1)])], [], []⟩ [c_ 31] aln nocal ?_
      have h := Option.some.inj h
      subst h
      exact .fin' [] [(1795, 1795)] (.pt 1795 0 3) [] aln (shc 1795 (a2c (.z (frz_sl encU_ok (fun h => h))) (a2c (.z .s) (a2c (.z .s) a2n))) shn) (.pt (memP_mem (p := (1795, 1795)) rfl))
theorem spec_l01New.J (k : Nat) (a0 : (List Int)) (r : S153) (h : spec_l01New.f k a0 = some r) : J prog (.call 90 [(.sl false a0.length 1 (a0.flatMap encU))] [] (.pt 1795 0 3) [(1795, [(.sl false r.f0.length 1 (r.f0.flatMap encU)), (I r.f1), (I r.f2)])]) := by
  unfold spec_l01New.f at h
  have ih0 := spec_l01New.lab k
  refine .call' [c_ 2, c_ 3] ?_
  refine .reg' [0] [] ⟨[(0, (.sl false a0.length 1 (a0.flatMap encU)))], [], [], []⟩ [c_ 6, c_ 7] aln nocal ?_
  refine .reg' [0, 3] [] ⟨[(0, (.sl false a0.length 1 (a0.flatMap encU))), (3, (I (wrap64 (75075 + (a0.length : Int)))))], [], [], []⟩ [c_ 28, c_ 29, c_ 15] aln nocal ?_
  refine .reg' [0, 3, 4] [] ⟨[(0, (.sl false a0.length 1 (a0.flatMap encU))), (3, (I (wrap64 (75075 + (a0.length : Int))))), (4, (I 0))], [], [], []⟩ [l_ 58, b_ 0, c_ 15] aln nocal ?_
  exact ih0 a0 (wrap64 (75075 + (a0.length : Int))) 0 _ h
/-! spec_l01Byte: function 114 -/
def spec_l01Byte.f (a0 : S153) : Option (Int × S153) := (if a0.f1 < (a0.f0.length : Int) then (if 0 ≤ a0.f1 then (some ((bAnd (wrap64 ((bAnd (bXor ((wrap64 ((wrap64 (a0.f2 * 6364136223846793005)) + 1442695040888963407)).fdiv (2 ^ 33)) ((wrap64 ((wrap64 (a0.f2 * 6364136223846793005)) + 1442695040888963407)).fdiv (2 ^ 45))) 255) + (IntKind.i64.wrap (at_ a0.f0 a0.f1)))) 255), (⟨a0.f0, (wrap64 (a0.f1 + 1)), (wrap64 ((wrap64 (a0.f2 * 6364136223846793005)) + 1442695040888963407))⟩ : S153))) else none) else (some ((bAnd (bXor ((wrap64 ((wrap64 (a0.f2 * 6364136223846793005)) + 1442695040888963407)).fdiv (2 ^ 33)) ((wrap64 ((wrap64 (a0.f2 * 6364136223846793005)) + 1442695040888963407)).fdiv (2 ^ 45))) 255), (⟨a0.f0, a0.f1, (wrap64 ((wrap64 (a0.f2 * 6364136223846793005)) + 1442695040888963407))⟩ : S153))))
theorem spec_l01Byte.J (a0 : S153) (r : (Int × S153)) (h : spec_l01Byte.f a0 = some r) : J prog (.call 114 [(.pt 0 0 3)] [(0, [(.sl false a0.f0.length 1 (a0.f0.flatMap encU)), (I a0.f1), (I a0.f2)])] (I r.1) [(0, [(.sl false r.2.f0.length 1 (r.2.f0.flatMap encU)), (I r.2.f1), (I r.2.f2)])]) := by
  unfold spec_l01Byte.f at h
  refine .call' [c_ 2, c_ 3] ?_
  refine .reg' [0] [] ⟨[(0, (.pt 0 0 3))], [(0, [(.sl false a0.f0.length 1 (a0.f0.flatMap encU)), (I a0.f1), (I a0.f2)])], [], []⟩ [c_ 6, c_ 7] aln nocal ?_
  refine .reg' [0] [] ⟨[(0, (.pt 0 0 3))], [(0, [(.sl false a0.f0.length 1 (a0.f0.flatMap encU)), (I a0.f1), (I (wrap64 ((wrap64 (a0.f2 * 6364136223846793005)) + 1442695040888963407)))])], [3 = 3 ∧ 2 + 1 ≤ 3, 3 = 3 ∧ 2 + 1 ≤ 3], []⟩ [c_ 14, c_ 15] (alc ⟨rfl, by decide⟩ (alc ⟨rfl, by decide⟩ aln)) nocal ?_
  refine .reg' [0, 3] [] ⟨[(0, (.pt 0 0 3)), (3, (I (bAnd (bXor ((wrap64 ((wrap64 (a0.f2 * 6364136223846793005)) + 1442695040888963407)).fdiv (2 ^ 33)) ((wrap64 ((wrap64 (a0.f2 * 6364136223846793005)) + 1442695040888963407)).fdiv (2 ^ 45))) 255)))], [(0, [(.sl false a0.f0.length 1 (a0.f0.flatMap encU)), (I a0.f1), (I (wrap64 ((wrap64 (a0.f2 * 6364136223846793005)) + 1442695040888963407)))])], [3 = 3 ∧ 2 + 1 ≤ 3, 3 = 3 ∧ 2 + 1 ≤ 3], []⟩ [c_ 60, c_ 61, c_ 31] (alc ⟨rfl, by decide⟩ (alc ⟨rfl, by decide⟩ aln)) nocal ?_
  refine .reg' [0, 3, 34] [] ⟨[(0, (.pt 0 0 3)), (3, (I (bAnd (bXor ((wrap64 ((wrap64 (a0.f2 * 6364136223846793005)) + 1442695040888963407)).fdiv (2 ^ 33)) ((wrap64 ((wrap64 (a0.f2 * 6364136223846793005)) + 1442695040888963407)).fdiv (2 ^ 45))) 255))), (34, (B (decide (a0.f1 < (a0.f0.length : Int)))))], [(0, [(.sl false a0.f0.length 1 (a0.f0.flatMap encU)), (I a0.f1), (I (wrap64 ((wrap64 (a0.f2 * 6364136223846793005)) + 1442695040888963407)))])], [3 = 3 ∧ 1 + 1 ≤ 3, 3 = 3 ∧ 0 + 1 ≤ 3], []⟩ [c_ 61, c_ 31] (alc ⟨rfl, by decide⟩ (alc ⟨rfl, by decide⟩ aln)) nocal ?_
  by_cases c1 : a0.f1 < (a0.f0.length : Int)
  · rw [if_pos c1] at h
    refine .cond' (.tmp 34) true [c_ 244, c_ 245, c_ 31] (bT (dT c1)) ?_
    by_cases c2 : 0 ≤ a0.f1
    · rw [if_pos c2] at h
      refine .reg' [0, 3] [.no, .no, .no, .no, .no, .no, .no, .no, .no, .no, .v (U (at_ a0.f0 a0.f1))] ⟨[(0, (.pt 0 0 3)), (3, (I (bAnd (wrap64 ((bAnd (bXor ((wrap64 ((wrap64 (a0.f2 * 6364136223846793005)) + 1442695040888963407)).fdiv (2 ^ 33)) ((wrap64 ((wrap64 (a0.f2 * 6364136223846793005)) + 1442695040888963407)).fdiv (2 ^ 45))) 255) + (IntKind.i64.wrap (at_ a0.f0 a0.f1)))) 255)))], [(0, [(.sl false a0.f0.length 1 (a0.f0.flatMap encU)), (I a0.f1), (I (wrap64 ((wrap64 (a0.f2 * 6364136223846793005)) + 1442695040888963407)))])], [3 = 3 ∧ 0 + 1 ≤ 3, 3 = 3 ∧ 1 + 1 ≤ 3, (0 : Int) ≤ a0.f1 ∧ a0.f1 < (a0.f0.length : Int), rdC prog 5 ((a0.f0.flatMap encU).drop (a0.f1.toNat * 1)) = (U (at_ a0.f0 a0.f1)), 1 ≤ ((a0.f0.flatMap encU).drop (a0.f1.toNat * 1)).length], []⟩ [c_ 245, c_ 31] (alc ⟨rfl, by decide⟩ (alc ⟨rfl, by decide⟩ (alc ⟨c2, c1⟩ (alc (ldC1 encU_ok rfl c2 c1) (alc (okI encU_ok c2 c1 (by decide)) aln))))) nocal ?_
      refine .reg' [3] [] ⟨[(3, (I (bAnd (wrap64 ((bAnd (bXor ((wrap64 ((wrap64 (a0.f2 * 6364136223846793005)) + 1442695040888963407)).fdiv (2 ^ 33)) ((wrap64 ((wrap64 (a0.f2 * 6364136223846793005)) + 1442695040888963407)).fdiv (2 ^ 45))) 255) + (IntKind.i64.wrap (at_ a0.f0 a0.f1)))) 255)))], [(0, [(.sl false a0.f0.length 1 (a0.f0.flatMap encU)), (I (wrap64 (a0.f1 + 1))), (I (wrap64 ((wrap64 (a0.f2 * 6364136223846793005)) + 1442695040888963407)))])], [3 = 3 ∧ 1 + 1 ≤ 3, 3 = 3 ∧ 1 + 1 ≤ 3], []⟩ [c_ 62, c_ 63] (alc ⟨rfl, by decide⟩ (alc ⟨rfl, by decide⟩ aln)) nocal ?_
      refine .reg' [2] [] ⟨[(2, (I (bAnd (wrap64 ((bAnd (bXor ((wrap64 ((wrap64 (a0.f2 * 6364136223846793005)) + 1442695040888963407)).fdiv (2 ^ 33)) ((wrap64 ((wrap64 (a0.f2 * 6364136223846793005)) + 1442695040888963407)).fdiv (2 ^ 45))) 255) + (IntKind.i64.wrap (at_ a0.f0 a0.f1)))) 255)))], [(0, [(.sl false a0.f0.length 1 (a0.f0.flatMap encU)), (I (wrap64 (a0.f1 + 1))), (I (wrap64 ((wrap64 (a0.f2 * 6364136223846793005)) + 1442695040888963407)))])], [], []⟩ [c_ 63] aln nocal ?_
      have h := Option.some.inj h
      subst h
      exact .fin' [] [(0, 0)] (I (bAnd (wrap64 ((bAnd (bXor ((wrap64 ((wrap64 (a0.f2 * 6364136223846793005)) + 1442695040888963407)).fdiv (2 ^ 33)) ((wrap64 ((wrap64 (a0.f2 * 6364136223846793005)) + 1442695040888963407)).fdiv (2 ^ 45))) 255) + (IntKind.i64.wrap (at_ a0.f0 a0.f1)))) 255)) [] aln (shc 0 (a2c (.z (frz_sl encU_ok (fun h => h))) (a2c (.z .s) (a2c (.z .s) a2n))) shn) (.z .s)
    · rw [if_neg c2] at h
      cases h
  · rw [if_neg c1] at h
    refine .cond' (.tmp 34) false [c_ 62, c_ 63] (bF (dF c1)) ?_
    refine .reg' [2] [] ⟨[(2, (I (bAnd (bXor ((wrap64 ((wrap64 (a0.f2 * 6364136223846793005)) + 1442695040888963407)).fdiv (2 ^ 33)) ((wrap64 ((wrap64 (a0.f2 * 6364136223846793005)) + 1442695040888963407)).fdiv (2 ^ 45))) 255)))], [(0, [(.sl false a0.f0.length 1 (a0.f0.flatMap encU)), (I a0.f1), (I (wrap64 ((wrap64 (a0.f2 * 6364136223846793005)) + 1442695040888963407)))])], [], []⟩ [c_ 63] aln nocal ?_
    have h := Option.some.inj h
    subst h
    exact .fin' [] [(0, 0)] (I (bAnd (bXor ((wrap64 ((wrap64 (a0.f2 * 6364136223846793005)) + 1442695040888963407)).fdiv (2 ^ 33)) ((wrap64 ((wrap64 (a0.f2 * 6364136223846793005)) + 1442695040888963407)).fdiv (2 ^ 45))) 255)) [] aln (shc 0 (a2c (.z (frz_sl encU_ok (fun h => h))) (a2c (.z .s) (a2c (.z .s) a2n))) shn) (.z .s)
/-! spec_l01Below: function 92 -/
def spec_l01Below.f (a0 : S153) (a1 : Int) : Option (Int × S153) := (if a1 ≤ 0 then (some (0, a0)) else (if a1 ≤ 256 then ((spec_l01Byte.f a0).bind fun x1 => (if a1 ≠ 0 then (some ((x1.1.tmod a1), x1.2)) else none)) else ((spec_l01Byte.f a0).bind fun x2 => ((spec_l01Byte.f x2.2).bind fun x3 => ((spec_l01Byte.f x3.2).bind fun x4 => (if a1 ≠ 0 then (some (((wrap64 ((wrap64 ((wrap64 (x2.1 * 65536)) + (wrap64 (x3.1 * 256)))) + x4.1)).tmod a1), x4.2)) else none))))))
theorem spec_l01Below.J (a0 : S153) (a1 : Int) (r : (Int × S153)) (h : spec_l01Below.f a0 a1 = some r) : J prog (.call 92 [(.pt 0 0 3), (I a1)] [(0, [(.sl false a0.f0.length 1 (a0.f0.flatMap encU)), (I a0.f1), (I a0.f2)])] (I r.1) [(0, [(.sl false r.2.f0.length 1 (r.2.f0.flatMap encU)), (I r.2.f1), (I r.2.f2)])]) := by
  unfold spec_l01Below.f at h
  refine .call' [c_ 2, c_ 3] ?_
  refine .reg' [0, 1] [] ⟨[(0, (.pt 0 0 3)), (1, (I a1))], [(0, [(.sl false a0.f0.length 1 (a0.f0.flatMap encU)), (I a0.f1), (I a0.f2)])], [], []⟩ [c_ 12, c_ 13, c_ 7] aln nocal ?_
  refine .reg' [0, 1, 9] [] ⟨[(0, (.pt 0 0 3)), (1, (I a1)), (9, (B (decide (a1 ≤ 0))))], [(0, [(.sl false a0.f0.length 1 (a0.f0.flatMap encU)), (I a0.f1), (I a0.f2)])], [], []⟩ [c_ 13, c_ 7] aln nocal ?_
  by_cases c1 : a1 ≤ 0
  · rw [if_pos c1] at h
    refine .cond' (.tmp 9) true [c_ 52, c_ 53, c_ 7] (bT (dT c1)) ?_
    refine .reg' [4] [] ⟨[(4, (I 0))], [(0, [(.sl false a0.f0.length 1 (a0.f0.flatMap encU)), (I a0.f1), (I a0.f2)])], [], []⟩ [c_ 53, c_ 7] aln nocal ?_
    have h := Option.some.inj h
    subst h
    exact .fin' [] [(0, 0)] (I 0) [] aln (shc 0 (a2c (.z (frz_sl encU_ok (fun h => h))) (a2c (.z .s) (a2c (.z .s) a2n))) shn) (.z .s)
  · rw [if_neg c1] at h
    refine .cond' (.tmp 9) false [c_ 28, c_ 29, c_ 15] (bF (dF c1)) ?_
    refine .reg' [0, 1, 11] [] ⟨[(0, (.pt 0 0 3)), (1, (I a1)), (11, (B (decide (a1 ≤ 256))))], [(0, [(.sl false a0.f0.length 1 (a0.f0.flatMap encU)), (I a0.f1), (I a0.f2)])], [], []⟩ [c_ 29, c_ 15] aln nocal ?_
    by_cases c2 : a1 ≤ 256
    · rw [if_pos c2] at h
      refine .cond' (.tmp 11) true [c_ 116, c_ 117, c_ 15] (bT (dT c2)) ?_
      obtain ⟨x1, hx1, h⟩ := Option.bind_eq_some_iff.mp h
      by_cases c3 : a1 ≠ 0
      · rw [if_pos c3] at h
        refine .reg' [4] [.no, .c ⟨114, [(.pt 0 0 3)], [(0, [(.sl false a0.f0.length 1 (a0.f0.flatMap encU)), (I a0.f1), (I a0.f2)])], (I x1.1), [(0, [(.sl false x1.2.f0.length 1 (x1.2.f0.flatMap encU)), (I x1.2.f1), (I x1.2.f2)])], [], [(0, 0)], [(0, 0)], (I x1.1), [(0, [(.sl false x1.2.f0.length 1 (x1.2.f0.flatMap encU)), (I x1.2.f1), (I x1.2.f2)])]⟩] ⟨[(4, (I (x1.1.tmod a1)))], [(0, [(.sl false x1.2.f0.length 1 (x1.2.f0.flatMap encU)), (I x1.2.f1), (I x1.2.f2)])], [COK (hget [(0, [(.sl false a0.f0.length 1 (a0.f0.flatMap encU)), (I a0.f1), (I a0.f2)])]) [(.pt 0 0 3)] ⟨114, [(.pt 0 0 3)], [(0, [(.sl false a0.f0.length 1 (a0.f0.flatMap encU)), (I a0.f1), (I a0.f2)])], (I x1.1), [(0, [(.sl false x1.2.f0.length 1 (x1.2.f0.flatMap encU)), (I x1.2.f1), (I x1.2.f2)])], [], [(0, 0)], [(0, 0)], (I x1.1), [(0, [(.sl false x1.2.f0.length 1 (x1.2.f0.flatMap encU)), (I x1.2.f1), (I x1.2.f2)])]⟩, a1 ≠ 0], [⟨114, [(.pt 0 0 3)], [(0, [(.sl false a0.f0.length 1 (a0.f0.flatMap encU)), (I a0.f1), (I a0.f2)])], (I x1.1), [(0, [(.sl false x1.2.f0.length 1 (x1.2.f0.flatMap encU)), (I x1.2.f1), (I x1.2.f2)])], [], [(0, 0)], [(0, 0)], (I x1.1), [(0, [(.sl false x1.2.f0.length 1 (x1.2.f0.flatMap encU)), (I x1.2.f1), (I x1.2.f2)])]⟩]⟩ [c_ 117, c_ 15] (alc (cokW false (a2c (.pt (memP_mem (p := (0, 0)) rfl)) a2n) (akc ⟨_, _, rfl, rfl, (a2c (.z (frz_sl encU_ok (fun h => h))) (a2c (.z .s) (a2c (.z .s) a2n)))⟩ akn) (akc (.inl rfl) akn) (.z .s) (akc ⟨_, _, rfl, rfl, (a2c (.z (clnS encU_c (fun h => absurd h (by decide)))) (a2c (.z .s) (a2c (.z .s) a2n)))⟩ akn) (fun h => absurd h (by decide))) (alc c3 aln)) (acal (spec_l01Byte.J a0 _ hx1) nocal) ?_
        have h := Option.some.inj h
        subst h
        exact .fin' [] [(0, 0)] (I (x1.1.tmod a1)) [] aln (shc 0 (a2c (.z (frz_sl encU_ok (fun h => h))) (a2c (.z .s) (a2c (.z .s) a2n))) shn) (.z .s)
      · rw [if_neg c3] at h
        cases h
    · rw [if_neg c2] at h
      refine .cond' (.tmp 11) false [c_ 30, c_ 31] (bF (dF c2)) ?_
      obtain ⟨x2, hx2, h⟩ := Option.bind_eq_some_iff.mp h
      refine .reg' [0, 1, 5] [.no, .c ⟨114, [(.pt 0 0 3)], [(0, [(.sl false a0.f0.length 1 (a0.f0.flatMap encU)), (I a0.f1), (I a0.f2)])], (I x2.1), [(0, [(.sl false x2.2.f0.length 1 (x2.2.f0.flatMap encU)), (I x2.2.f1), (I x2.2.f2)])], [], [(0, 0)], [(0, 0)], (I x2.1), [(0, [(.sl false x2.2.f0.length 1 (x2.2.f0.flatMap encU)), (I x2.2.f1), (I x2.2.f2)])]⟩] ⟨[(0, (.pt 0 0 3)), (1, (I a1)), (5, (I x2.1))], [(0, [(.sl false x2.2.f0.length 1 (x2.2.f0.flatMap encU)), (I x2.2.f1), (I x2.2.f2)])], [COK (hget [(0, [(.sl false a0.f0.length 1 (a0.f0.flatMap encU)), (I a0.f1), (I a0.f2)])]) [(.pt 0 0 3)] ⟨114, [(.pt 0 0 3)], [(0, [(.sl false a0.f0.length 1 (a0.f0.flatMap encU)), (I a0.f1), (I a0.f2)])], (I x2.1), [(0, [(.sl false x2.2.f0.length 1 (x2.2.f0.flatMap encU)), (I x2.2.f1), (I x2.2.f2)])], [], [(0, 0)], [(0, 0)], (I x2.1), [(0, [(.sl false x2.2.f0.length 1 (x2.2.f0.flatMap encU)), (I x2.2.f1), (I x2.2.f2)])]⟩], [⟨114, [(.pt 0 0 3)], [(0, [(.sl false a0.f0.length 1 (a0.f0.flatMap encU)), (I a0.f1), (I a0.f2)])], (I x2.1), [(0, [(.sl false x2.2.f0.length 1 (x2.2.f0.flatMap encU)), (I x2.2.f1), (I x2.2.f2)])], [], [(0, 0)], [(0, 0)], (I x2.1), [(0, [(.sl false x2.2.f0.length 1 (x2.2.f0.flatMap encU)), (I x2.2.f1), (I x2.2.f2)])]⟩]⟩ [c_ 62, c_ 63] (alc (cokW false (a2c (.pt (memP_mem (p := (0, 0)) rfl)) a2n) (akc ⟨_, _, rfl, rfl, (a2c (.z (frz_sl encU_ok (fun h => h))) (a2c (.z .s) (a2c (.z .s) a2n)))⟩ akn) (akc (.inl rfl) akn) (.z .s) (akc ⟨_, _, rfl, rfl, (a2c (.z (clnS encU_c (fun h => absurd h (by decide)))) (a2c (.z .s) (a2c (.z .s) a2n)))⟩ akn) (fun h => absurd h (by decide))) aln) (acal (spec_l01Byte.J a0 _ hx2) nocal) ?_
      obtain ⟨x3, hx3, h⟩ := Option.bind_eq_some_iff.mp h
      refine .reg' [0, 1, 5, 6] [.no, .c ⟨114, [(.pt 0 0 3)], [(0, [(.sl false x2.2.f0.length 1 (x2.2.f0.flatMap encU)), (I x2.2.f1), (I x2.2.f2)])], (I x3.1), [(0, [(.sl false x3.2.f0.length 1 (x3.2.f0.flatMap encU)), (I x3.2.f1), (I x3.2.f2)])], [], [(0, 0)], [(0, 0)], (I x3.1), [(0, [(.sl false x3.2.f0.length 1 (x3.2.f0.flatMap encU)), (I x3.2.f1), (I x3.2.f2)])]⟩] ⟨[(0, (.pt 0 0 3)), (1, (I a1)), (5, (I x2.1)), (6, (I x3.1))], [(0, [(.sl false x3.2.f0.length 1 (x3.2.f0.flatMap encU)), (I x3.2.f1), (I x3.2.f2)])], [COK (hget [(0, [(.sl false x2.2.f0.length 1 (x2.2.f0.flatMap encU)), (I x2.2.f1), (I x2.2.f2)])]) [(.pt 0 0 3)] ⟨114, [(.pt 0 0 3)], [(0, [(.sl false x2.2.f0.length 1 (x2.2.f0.flatMap encU)), (I x2.2.f1), (I x2.2.f2)])], (I x3.1), [(0, [(.sl false x3.2.f0.length 1 (x3.2.f0.flatMap encU)), (I x3.2.f1), (I x3.2.f2)])], [], [(0, 0)], [(0, 0)], (I x3.1), [(0, [(.sl false x3.2.f0.length 1 (x3.2.f0.flatMap encU)), (I x3.2.f1), (I x3.2.f2)])]⟩], [⟨114, [(.pt 0 0 3)], [(0, [(.sl false x2.2.f0.length 1 (x2.2.f0.flatMap encU)), (I x2.2.f1), (I x2.2.f2)])], (I x3.1), [(0, [(.sl false x3.2.f0.length 1 (x3.2.f0.flatMap encU)), (I x3.2.f1), (I x3.2.f2)])], [], [(0, 0)], [(0, 0)], (I x3.1), [(0, [(.sl false x3.2.f0.length 1 (x3.2.f0.flatMap encU)), (I x3.2.f1), (I x3.2.f2)])]⟩]⟩ [c_ 126, c_ 127] (alc (cokW false (a2c (.pt (memP_mem (p := (0, 0)) rfl)) a2n) (akc ⟨_, _, rfl, rfl, (a2c (.z (frz_sl encU_ok (fun h => h))) (a2c (.z .s) (a2c (.z .s) a2n)))⟩ akn) (akc (.inl rfl) akn) (.z .s) (akc ⟨_, _, rfl, rfl, (a2c (.z (clnS encU_c (fun h => absurd h (by decide)))) (a2c (.z .s) (a2c (.z .s) a2n)))⟩ akn) (fun h => absurd h (by decide))) aln) (acal (spec_l01Byte.J x2.2 _ hx3) nocal) ?_
      obtain ⟨x4, hx4, h⟩ := Option.bind_eq_some_iff.mp h
      refine .reg' [1, 5, 6, 7] [.no, .c ⟨114, [(.pt 0 0 3)], [(0, [(.sl false x3.2.f0.length 1 (x3.2.f0.flatMap encU)), (I x3.2.f1), (I x3.2.f2)])], (I x4.1), [(0, [(.sl false x4.2.f0.length 1 (x4.2.f0.flatMap encU)), (I x4.2.f1), (I x4.2.f2)])], [], [(0, 0)], [(0, 0)], (I x4.1), [(0, [(.sl false x4.2.f0.length 1 (x4.2.f0.flatMap encU)), (I x4.2.f1), (I x4.2.f2)])]⟩] ⟨[(1, (I a1)), (5, (I x2.1)), (6, (I x3.1)), (7, (I x4.1))], [(0, [(.sl false x4.2.f0.length 1 (x4.2.f0.flatMap encU)), (I x4.2.f1), (I x4.2.f2)])], [COK (hget [(0, [(.sl false x3.2.f0.length 1 (x3.2.f0.flatMap encU)), (I x3.2.f1), (I x3.2.f2)])]) [(.pt 0 0 3)] ⟨114, [(.pt 0 0 3)], [(0, [(.sl false x3.2.f0.length 1 (x3.2.f0.flatMap encU)), (I x3.2.f1), (I x3.2.f2)])], (I x4.1), [(0, [(.sl false x4.2.f0.length 1 (x4.2.f0.flatMap encU)), (I x4.2.f1), (I x4.2.f2)])], [], [(0, 0)], [(0, 0)], (I x4.1), [(0, [(.sl false x4.2.f0.length 1 (x4.2.f0.flatMap encU)), (I x4.2.f1), (I x4.2.f2)])]⟩], [⟨114, [(.pt 0 0 3)], [(0, [(.sl false x3.2.f0.length 1 (x3.2.f0.flatMap encU)), (I x3.2.f1), (I x3.2.f2)])], (I x4.1), [(0, [(.sl false x4.2.f0.length 1 (x4.2.f0.flatMap encU)), (I x4.2.f1), (I x4.2.f2)])], [], [(0, 0)], [(0, 0)], (I x4.1), [(0, [(.sl false x4.2.f0.length 1 (x4.2.f0.flatMap encU)), (I x4.2.f1), (I x4.2.f2)])]⟩]⟩ [c_ 254, c_ 255] (alc (cokW false (a2c (.pt (memP_mem (p := (0, 0)) rfl)) a2n) (akc ⟨_, _, rfl, rfl, (a2c (.z (frz_sl encU_ok (fun h => h))) (a2c (.z .s) (a2c (.z .s) a2n)))⟩ akn) (akc (.inl rfl) akn) (.z .s) (akc ⟨_, _, rfl, rfl, (a2c (.z (clnS encU_c (fun h => absurd h (by decide)))) (a2c (.z .s) (a2c (.z .s) a2n)))⟩ akn) (fun h => absurd h (by decide))) aln) (acal (spec_l01Byte.J x3.2 _ hx4) nocal) ?_
      by_cases c4 : a1 ≠ 0
      · rw [if_pos c4] at h
        refine .reg' [4] [] ⟨[(4, (I ((wrap64 ((wrap64 ((wrap64 (x2.1 * 65536)) + (wrap64 (x3.1 * 256)))) + x4.1)).tmod a1)))], [(0, [(.sl false x4.2.f0.length 1 (x4.2.f0.flatMap encU)), (I x4.2.f1), (I x4.2.f2)])], [a1 ≠ 0], []⟩ [c_ 255] (alc c4 aln) nocal ?_
        have h := Option.some.inj h
        subst h
        exact .fin' [] [(0, 0)] (I ((wrap64 ((wrap64 ((wrap64 (x2.1 * 65536)) + (wrap64 (x3.1 * 256)))) + x4.1)).tmod a1)) [] aln (shc 0 (a2c (.z (frz_sl encU_ok (fun h => h))) (a2c (.z .s) (a2c (.z .s) a2n))) shn) (.z .s)
      · rw [if_neg c4] at h
        cases h
/-! spec_l01Size: function 93 -/
def spec_l01Size.f (a0 : (List Int)) (a1 : Int) : Option Int := (if (wrap64 (2 + (wrap64 ((a0.length : Int).tdiv (16 : Int))))) > a1 then (some a1) else (some (wrap64 (2 + (wrap64 ((a0.length : Int).tdiv (16 : Int)))))))
theorem spec_l01Size.J (a0 : (List Int)) (a1 : Int) (r : Int) (h : spec_l01Size.f a0 a1 = some r) : J prog (.call 93 [(.sl true a0.length 1 (a0.flatMap encU)), (I a1)] [] (I r) []) := by
  unfold spec_l01Size.f at h
  refine .call' [c_ 2, c_ 3] ?_
  refine .reg' [0, 1] [] ⟨[(0, (.sl true a0.length 1 (a0.flatMap encU))), (1, (I a1))], [], [], []⟩ [c_ 6, c_ 7] aln nocal ?_
  refine .reg' [1, 5] [] ⟨[(1, (I a1)), (5, (I (wrap64 (2 + (wrap64 ((a0.length : Int).tdiv (16 : Int)))))))], [], [(16 : Int) ≠ 0], []⟩ [c_ 28, c_ 29, c_ 15] (alc (by decide) aln) nocal ?_
  refine .reg' [1, 5, 12] [] ⟨[(1, (I a1)), (5, (I (wrap64 (2 + (wrap64 ((a0.length : Int).tdiv (16 : Int))))))), (12, (B (decide ((wrap64 (2 + (wrap64 ((a0.length : Int).tdiv (16 : Int))))) > a1))))], [], [], []⟩ [c_ 29, c_ 15] aln nocal ?_
  by_cases c1 : (wrap64 (2 + (wrap64 ((a0.length : Int).tdiv (16 : Int))))) > a1
  · rw [if_pos c1] at h
    refine .cond' (.tmp 12) true [c_ 116, c_ 117, c_ 15] (bT (dT c1)) ?_
    refine .reg' [4] [] ⟨[(4, (I a1))], [], [], []⟩ [c_ 117, c_ 15] aln nocal ?_
    have h := Option.some.inj h
    subst h
    exact .fin0 [] (I a1) [] aln (.z .s)
  · rw [if_neg c1] at h
    refine .cond' (.tmp 12) false [c_ 30, c_ 31] (bF (dF c1)) ?_
    refine .reg' [4] [] ⟨[(4, (I (wrap64 (2 + (wrap64 ((a0.length : Int).tdiv (16 : Int)))))))], [], [], []⟩ [c_ 31] aln nocal ?_
    have h := Option.some.inj h
    subst h
    exact .fin0 [] (I (wrap64 (2 + (wrap64 ((a0.length : Int).tdiv (16 : Int)))))) [] aln (.z .s)
/-! spec_l01PickText: function 131 -/
def spec_l01PickText.f (a0 : S153) (a1 : (List ByteArray)) : Option (ByteArray × S153) := ((spec_l01Below.f a0 (a1.length : Int)).bind fun x1 => (if 0 ≤ x1.1 then (if x1.1 < (a1.length : Int) then (some ((at_ a1 x1.1), x1.2)) else none) else none))
theorem spec_l01PickText.J (a0 : S153) (a1 : (List ByteArray)) (r : (ByteArray × S153)) (h : spec_l01PickText.f a0 a1 = some r) : J prog (.call 131 [(.pt 0 0 3), (.sl true a1.length 1 (a1.flatMap encS))] [(0, [(.sl false a0.f0.length 1 (a0.f0.flatMap encU)), (I a0.f1), (I a0.f2)])] (S r.1) [(0, [(.sl false r.2.f0.length 1 (r.2.f0.flatMap encU)), (I r.2.f1), (I r.2.f2)])]) := by
  unfold spec_l01PickText.f at h
  refine .call' [c_ 2, c_ 3] ?_
  refine .reg' [0, 1] [] ⟨[(0, (.pt 0 0 3)), (1, (.sl true a1.length 1 (a1.flatMap encS)))], [(0, [(.sl false a0.f0.length 1 (a0.f0.flatMap encU)), (I a0.f1), (I a0.f2)])], [], []⟩ [c_ 6, c_ 7] aln nocal ?_
  obtain ⟨x1, hx1, h⟩ := Option.bind_eq_some_iff.mp h
  by_cases c1 : 0 ≤ x1.1
  · rw [if_pos c1] at h
    by_cases c2 : x1.1 < (a1.length : Int)
    · rw [if_pos c2] at h
      refine .reg' [4] [.no, .no, .no, .no, .c ⟨92, [(.pt 0 0 3), (I (a1.length : Int))], [(0, [(.sl false a0.f0.length 1 (a0.f0.flatMap encU)), (I a0.f1), (I a0.f2)])], (I x1.1), [(0, [(.sl false x1.2.f0.length 1 (x1.2.f0.flatMap encU)), (I x1.2.f1), (I x1.2.f2)])], [], [(0, 0)], [(0, 0)], (I x1.1), [(0, [(.sl false x1.2.f0.length 1 (x1.2.f0.flatMap encU)), (I x1.2.f1), (I x1.2.f2)])]⟩, .no, .v (S (at_ a1 x1.1))] ⟨[(4, (S (at_ a1 x1.1)))], [(0, [(.sl false x1.2.f0.length 1 (x1.2.f0.flatMap encU)), (I x1.2.f1), (I x1.2.f2)])], [COK (hget [(0, [(.sl false a0.f0.length 1 (a0.f0.flatMap encU)), (I a0.f1), (I a0.f2)])]) [(.pt 0 0 3), (I (a1.length : Int))] ⟨92, [(.pt 0 0 3), (I (a1.length : Int))], [(0, [(.sl false a0.f0.length 1 (a0.f0.flatMap encU)), (I a0.f1), (I a0.f2)])], (I x1.1), [(0, [(.sl false x1.2.f0.length 1 (x1.2.f0.flatMap encU)), (I x1.2.f1), (I x1.2.f2)])], [], [(0, 0)], [(0, 0)], (I x1.1), [(0, [(.sl false x1.2.f0.length 1 (x1.2.f0.flatMap encU)), (I x1.2.f1), (I x1.2.f2)])]⟩, (0 : Int) ≤ x1.1 ∧ x1.1 < (a1.length : Int), rdC prog 9 ((a1.flatMap encS).drop (x1.1.toNat * 1)) = (S (at_ a1 x1.1)), 1 ≤ ((a1.flatMap encS).drop (x1.1.toNat * 1)).length], [⟨92, [(.pt 0 0 3), (I (a1.length : Int))], [(0, [(.sl false a0.f0.length 1 (a0.f0.flatMap encU)), (I a0.f1), (I a0.f2)])], (I x1.1), [(0, [(.sl false x1.2.f0.length 1 (x1.2.f0.flatMap encU)), (I x1.2.f1), (I x1.2.f2)])], [], [(0, 0)], [(0, 0)], (I x1.1), [(0, [(.sl false x1.2.f0.length 1 (x1.2.f0.flatMap encU)), (I x1.2.f1), (I x1.2.f2)])]⟩]⟩ [c_ 7] (alc (cokW false (a2c (.pt (memP_mem (p := (0, 0)) rfl)) (a2c (.z .s) a2n)) (akc ⟨_, _, rfl, rfl, (a2c (.z (frz_sl encU_ok (fun h => h))) (a2c (.z .s) (a2c (.z .s) a2n)))⟩ akn) (akc (.inl rfl) akn) (.z .s) (akc ⟨_, _, rfl, rfl, (a2c (.z (clnS encU_c (fun h => absurd h (by decide)))) (a2c (.z .s) (a2c (.z .s) a2n)))⟩ akn) (fun h => absurd h (by decide))) (alc ⟨c1, c2⟩ (alc (ldC1 encS_ok rfl c1 c2) (alc (okI encS_ok c1 c2 (by decide)) aln)))) (acal (spec_l01Below.J a0 (a1.length : Int) _ hx1) nocal) ?_
      have h := Option.some.inj h
      subst h
      exact .fin' [] [(0, 0)] (S (at_ a1 x1.1)) [] aln (shc 0 (a2c (.z (frz_sl encU_ok (fun h => h))) (a2c (.z .s) (a2c (.z .s) a2n))) shn) (.z .s)
    · rw [if_neg c2] at h
      cases h
  · rw [if_neg c1] at h
    cases h
/-! spec_l01Num: function 132 -/
def spec_l01Num.l0 : Nat → Int → Int → ByteArray → Option ByteArray
 | 0, _, _, _ => none
 | k + 1, a0, x1, x2 => (if x1 = 0 then (if a0 < 0 then (if (⟨#[45]⟩ : ByteArray).size + x2.size ≤ 9223372036854775807 then (some ((⟨#[45]⟩ : ByteArray) ++ x2)) else none) else (some x2)) else (if (x1.tmod (10 : Int)) < 0 then (if (⟨#[UInt8.ofNat (IntKind.u8.wrap (wrap64 (48 + (wrap64 (-(x1.tmod (10 : Int))))))).toNat]⟩ : ByteArray).size + x2.size ≤ 9223372036854775807 then (spec_l01Num.l0 k a0 (wrap64 (x1.tdiv (10 : Int))) ((⟨#[UInt8.ofNat (IntKind.u8.wrap (wrap64 (48 + (wrap64 (-(x1.tmod (10 : Int))))))).toNat]⟩ : ByteArray) ++ x2)) else none) else (if (⟨#[UInt8.ofNat (IntKind.u8.wrap (wrap64 (48 + (x1.tmod (10 : Int))))).toNat]⟩ : ByteArray).size + x2.size ≤ 9223372036854775807 then (spec_l01Num.l0 k a0 (wrap64 (x1.tdiv (10 : Int))) ((⟨#[UInt8.ofNat (IntKind.u8.wrap (wrap64 (48 + (x1.tmod (10 : Int))))).toNat]⟩ : ByteArray) ++ x2)) else none)))
def spec_l01Num.f (k : Nat) (a0 : Int) : Option ByteArray := (if a0 = 0 then (some (⟨#[48]⟩ : ByteArray)) else (spec_l01Num.l0 k a0 a0 (⟨#[]⟩ : ByteArray)))
theorem spec_l01Num.lab : ∀ k, (∀ (a0 : Int) (x1 : Int) (x2 : ByteArray) (r : ByteArray), spec_l01Num.l0 k a0 x1 x2 = some r → J prog (.run 132 [] [l_ 124, b_ 0, c_ 63] [(0, (I x1)), (3, (S x2)), (4, (B (decide (a0 < 0))))] [] (S r) []))
 | 0 => (by intro a0 x1 x2 r h; unfold spec_l01Num.l0 at h; cases h)
 | k + 1 => by
  have ih0 := spec_l01Num.lab k
  · intro a0 x1 x2 r h
    unfold spec_l01Num.l0 at h
    refine .loop' [c_ 992, c_ 993, c_ 497, l_ 124, b_ 0, c_ 63] ?_
    refine .reg' [0, 3, 4, 11] [] ⟨[(0, (I x1)), (3, (S x2)), (4, (B (decide (a0 < 0)))), (11, (B (!(x1 == 0))))], [], [], []⟩ [c_ 993, c_ 497, l_ 124, b_ 0, c_ 63] aln nocal ?_
    by_cases c2 : x1 = 0
    · rw [if_pos c2] at h
      refine .cond' (.tmp 11) false [c_ 252, c_ 253, c_ 127] (bF (nF (qT c2))) ?_
      refine .reg' [3, 27] [] ⟨[(3, (S x2)), (27, (B (decide (a0 < 0))))], [], [], []⟩ [c_ 253, c_ 127] aln nocal ?_
      by_cases c3 : a0 < 0
      · rw [if_pos c3] at h
        refine .cond' (.tmp 27) true [c_ 1012, c_ 1013, c_ 127] (bT (dT c3)) ?_
        by_cases c4 : (⟨#[45]⟩ : ByteArray).size + x2.size ≤ 9223372036854775807
        · rw [if_pos c4] at h
          refine .reg' [2] [] ⟨[(2, (S ((⟨#[45]⟩ : ByteArray) ++ x2)))], [], [(⟨#[45]⟩ : ByteArray).size + x2.size ≤ 9223372036854775807], []⟩ [c_ 1013, c_ 127] (alc c4 aln) nocal ?_
          have h := Option.some.inj h
          subst h
          exact .fin0 [] (S ((⟨#[45]⟩ : ByteArray) ++ x2)) [] aln (.z .s)
        · rw [if_neg c4] at h
          cases h
      · rw [if_neg c3] at h
        refine .cond' (.tmp 27) false [c_ 254, c_ 255] (bF (dF c3)) ?_
        refine .reg' [2] [] ⟨[(2, (S x2))], [], [], []⟩ [c_ 255] aln nocal ?_
        have h := Option.some.inj h
        subst h
        exact .fin0 [] (S x2) [] aln (.z .s)
    · rw [if_neg c2] at h
      refine .cond' (.tmp 11) true [c_ 1988, c_ 1989, b_ 1, l_ 124, b_ 0, c_ 63] (bT (nT (qF c2))) ?_
      refine .reg' [0, 3, 4, 5] [] ⟨[(0, (I x1)), (3, (S x2)), (4, (B (decide (a0 < 0)))), (5, (I (x1.tmod (10 : Int))))], [], [(10 : Int) ≠ 0], []⟩ [c_ 7956, c_ 7957, c_ 3979, b_ 1, l_ 124, b_ 0, c_ 63] (alc (by decide) aln) nocal ?_
      refine .reg' [0, 3, 4, 5, 15] [] ⟨[(0, (I x1)), (3, (S x2)), (4, (B (decide (a0 < 0)))), (5, (I (x1.tmod (10 : Int)))), (15, (B (decide ((x1.tmod (10 : Int)) < 0))))], [], [], []⟩ [c_ 7957, c_ 3979, b_ 1, l_ 124, b_ 0, c_ 63] aln nocal ?_
      by_cases c5 : (x1.tmod (10 : Int)) < 0
      · rw [if_pos c5] at h
        refine .cond' (.tmp 15) true [c_ 15914, c_ 3979, b_ 1, l_ 124, b_ 0, c_ 63] (bT (dT c5)) ?_
        refine .reg' [0, 3, 4, 5] [.no, .v (I (wrap64 (-(x1.tmod (10 : Int)))))] ⟨[(0, (I x1)), (3, (S x2)), (4, (B (decide (a0 < 0)))), (5, (I (wrap64 (-(x1.tmod (10 : Int))))))], [], [(I (IntKind.i64.wrap (0 - (x1.tmod (10 : Int)))) : V) = I (wrap64 (-(x1.tmod (10 : Int))))], []⟩ [c_ 7958, c_ 7959, b_ 1, l_ 124, b_ 0, c_ 63] (alc (negI _) aln) nocal ?_
        by_cases c6 : (⟨#[UInt8.ofNat (IntKind.u8.wrap (wrap64 (48 + (wrap64 (-(x1.tmod (10 : Int))))))).toNat]⟩ : ByteArray).size + x2.size ≤ 9223372036854775807
        · rw [if_pos c6] at h
          refine .reg' [0, 3, 4] [] ⟨[(0, (I x1)), (3, (S ((⟨#[UInt8.ofNat (IntKind.u8.wrap (wrap64 (48 + (wrap64 (-(x1.tmod (10 : Int))))))).toNat]⟩ : ByteArray) ++ x2))), (4, (B (decide (a0 < 0))))], [(2563, (([(IntKind.u8.wrap (wrap64 (48 + (wrap64 (-(x1.tmod (10 : Int)))))))] : List Int).flatMap encU))], [([(IntKind.u8.wrap (wrap64 (48 + (wrap64 (-(x1.tmod (10 : Int)))))))] : List Int).length * 1 = (([(IntKind.u8.wrap (wrap64 (48 + (wrap64 (-(x1.tmod (10 : Int)))))))] : List Int).flatMap encU).length ∧ 0 + ([(IntKind.u8.wrap (wrap64 (48 + (wrap64 (-(x1.tmod (10 : Int)))))))] : List Int).length ≤ (([(IntKind.u8.wrap (wrap64 (48 + (wrap64 (-(x1.tmod (10 : Int)))))))] : List Int).flatMap encU).length, (⟨#[UInt8.ofNat (IntKind.u8.wrap (wrap64 (48 + (wrap64 (-(x1.tmod (10 : Int))))))).toNat]⟩ : ByteArray).size + x2.size ≤ 9223372036854775807], []⟩ [c_ 7959, b_ 1, l_ 124, b_ 0, c_ 63] (alc ⟨rfl, Nat.le_of_ble_eq_true rfl⟩ (alc c6 aln)) nocal ?_
          refine .reg' [0, 3, 4] [] ⟨[(0, (I (wrap64 (x1.tdiv (10 : Int))))), (3, (S ((⟨#[UInt8.ofNat (IntKind.u8.wrap (wrap64 (48 + (wrap64 (-(x1.tmod (10 : Int))))))).toNat]⟩ : ByteArray) ++ x2))), (4, (B (decide (a0 < 0))))], [(2563, (([(IntKind.u8.wrap (wrap64 (48 + (wrap64 (-(x1.tmod (10 : Int)))))))] : List Int).flatMap encU))], [(10 : Int) ≠ 0], []⟩ [l_ 124, b_ 0, c_ 63] (alc (by decide) aln) nocal ?_
          refine .wk' [] [] [(0, (I (wrap64 (x1.tdiv (10 : Int))))), (3, (S ((⟨#[UInt8.ofNat (IntKind.u8.wrap (wrap64 (48 + (wrap64 (-(x1.tmod (10 : Int))))))).toNat]⟩ : ByteArray) ++ x2))), (4, (B (decide (a0 < 0))))] [] shn (enc_ (.z .s) (enc_ (.z .s) (enc_ (.z .s) enn))) ?_
          exact ih0 a0 (wrap64 (x1.tdiv (10 : Int))) ((⟨#[UInt8.ofNat (IntKind.u8.wrap (wrap64 (48 + (wrap64 (-(x1.tmod (10 : Int))))))).toNat]⟩ : ByteArray) ++ x2) _ h
        · rw [if_neg c6] at h
          cases h
      · rw [if_neg c5] at h
        refine .cond' (.tmp 15) false [c_ 7958, c_ 7959, b_ 1, l_ 124, b_ 0, c_ 63] (bF (dF c5)) ?_
        by_cases c7 : (⟨#[UInt8.ofNat (IntKind.u8.wrap (wrap64 (48 + (x1.tmod (10 : Int))))).toNat]⟩ : ByteArray).size + x2.size ≤ 9223372036854775807
        · rw [if_pos c7] at h
          refine .reg' [0, 3, 4] [] ⟨[(0, (I x1)), (3, (S ((⟨#[UInt8.ofNat (IntKind.u8.wrap (wrap64 (48 + (x1.tmod (10 : Int))))).toNat]⟩ : ByteArray) ++ x2))), (4, (B (decide (a0 < 0))))], [(2563, (([(IntKind.u8.wrap (wrap64 (48 + (x1.tmod (10 : Int)))))] : List Int).flatMap encU))], [([(IntKind.u8.wrap (wrap64 (48 + (x1.tmod (10 : Int)))))] : List Int).length * 1 = (([(IntKind.u8.wrap (wrap64 (48 + (x1.tmod (10 : Int)))))] : List Int).flatMap encU).length ∧ 0 + ([(IntKind.u8.wrap (wrap64 (48 + (x1.tmod (10 : Int)))))] : List Int).length ≤ (([(IntKind.u8.wrap (wrap64 (48 + (x1.tmod (10 : Int)))))] : List Int).flatMap encU).length, (⟨#[UInt8.ofNat (IntKind.u8.wrap (wrap64 (48 + (x1.tmod (10 : Int))))).toNat]⟩ : ByteArray).size + x2.size ≤ 9223372036854775807], []⟩ [c_ 7959, b_ 1, l_ 124, b_ 0, c_ 63] (alc ⟨rfl, Nat.le_of_ble_eq_true rfl⟩ (alc c7 aln)) nocal ?_
          refine .reg' [0, 3, 4] [] ⟨[(0, (I (wrap64 (x1.tdiv (10 : Int))))), (3, (S ((⟨#[UInt8.ofNat (IntKind.u8.wrap (wrap64 (48 + (x1.tmod (10 : Int))))).toNat]⟩ : ByteArray) ++ x2))), (4, (B (decide (a0 < 0))))], [(2563, (([(IntKind.u8.wrap (wrap64 (48 + (x1.tmod (10 : Int)))))] : List Int).flatMap encU))], [(10 : Int) ≠ 0], []⟩ [l_ 124, b_ 0, c_ 63] (alc (by decide) aln) nocal ?_
          refine .wk' [] [] [(0, (I (wrap64 (x1.tdiv (10 : Int))))), (3, (S ((⟨#[UInt8.ofNat (IntKind.u8.wrap (wrap64 (48 + (x1.tmod (10 : Int))))).toNat]⟩ : ByteArray) ++ x2))), (4, (B (decide (a0 < 0))))] [] shn (enc_ (.z .s) (enc_ (.z .s) (enc_ (.z .s) enn))) ?_
          exact ih0 a0 (wrap64 (x1.tdiv (10 : Int))) ((⟨#[UInt8.ofNat (IntKind.u8.wrap (wrap64 (48 + (x1.tmod (10 : Int))))).toNat]⟩ : ByteArray) ++ x2) _ h
        · rw [if_neg c7] at h
          cases h
theorem spec_l01Num.J (k : Nat) (a0 : Int) (r : ByteArray) (h : spec_l01Num.f k a0 = some r) : J prog (.call 132 [(I a0)] [] (S r) []) := by
  unfold spec_l01Num.f at h
  have ih0 := spec_l01Num.lab k
  refine .call' [c_ 2, c_ 3] ?_
  refine .reg' [0] [] ⟨[(0, (I a0))], [], [], []⟩ [c_ 12, c_ 13, c_ 7] aln nocal ?_
  refine .reg' [0, 7] [] ⟨[(0, (I a0)), (7, (B (a0 == 0)))], [], [], []⟩ [c_ 13, c_ 7] aln nocal ?_
  by_cases c1 : a0 = 0
  · rw [if_pos c1] at h
    refine .cond' (.tmp 7) true [c_ 52, c_ 53, c_ 7] (bT (qT c1)) ?_
    refine .reg' [2] [] ⟨[(2, (S (⟨#[48]⟩ : ByteArray)))], [], [], []⟩ [c_ 53, c_ 7] aln nocal ?_
    have h := Option.some.inj h
    subst h
    exact .fin0 [] (S (⟨#[48]⟩ : ByteArray)) [] aln (.z .s)
  · rw [if_neg c1] at h
    refine .cond' (.tmp 7) false [c_ 14, c_ 15] (bF (qF c1)) ?_
    refine .reg' [0, 3] [] ⟨[(0, (I a0)), (3, (S (⟨#[]⟩ : ByteArray)))], [], [], []⟩ [c_ 30, c_ 31] aln nocal ?_
    refine .reg' [0, 3, 4] [] ⟨[(0, (I a0)), (3, (S (⟨#[]⟩ : ByteArray))), (4, (B (decide (a0 < 0))))], [], [], []⟩ [l_ 124, b_ 0, c_ 63] aln nocal ?_
    exact ih0 a0 a0 (⟨#[]⟩ : ByteArray) _ h
/-! spec_l08DrawName: function 126 -/
def spec_l08DrawName.f (k : Nat) (a0 : S153) : Option (ByteArray × S153) := ((spec_l01PickText.f a0 ([(⟨#[97]⟩ : ByteArray), (⟨#[105, 99]⟩ : ByteArray), (⟨#[114, 101]⟩ : ByteArray), (⟨#[115]⟩ : ByteArray), (⟨#[120]⟩ : ByteArray)] : List ByteArray)).bind fun x1 => ((spec_l01Below.f x1.2 90).bind fun x2 => ((spec_l01Num.f k x2.1).bind fun x3 => (if x1.1.size + x3.size ≤ 9223372036854775807 then (some ((x1.1 ++ x3), x2.2)) else none))))
theorem spec_l08DrawName.J (k : Nat) (a0 : S153) (r : (ByteArray × S153)) (h : spec_l08DrawName.f k a0 = some r) : J prog (.call 126 [(.pt 0 0 3)] [(0, [(.sl false a0.f0.length 1 (a0.f0.flatMap encU)), (I a0.f1), (I a0.f2)])] (S r.1) [(0, [(.sl false r.2.f0.length 1 (r.2.f0.flatMap encU)), (I r.2.f1), (I r.2.f2)])]) := by
  unfold spec_l08DrawName.f at h
  refine .call' [c_ 2, c_ 3] ?_
  refine .reg' [0] [] ⟨[(0, (.pt 0 0 3))], [(0, [(.sl false a0.f0.length 1 (a0.f0.flatMap encU)), (I a0.f1), (I a0.f2)])], [], []⟩ [c_ 6, c_ 7] aln nocal ?_
  obtain ⟨x1, hx1, h⟩ := Option.bind_eq_some_iff.mp h
  obtain ⟨x2, hx2, h⟩ := Option.bind_eq_some_iff.mp h
  obtain ⟨x3, hx3, h⟩ := Option.bind_eq_some_iff.mp h
  by_cases c1 : x1.1.size + x3.size ≤ 9223372036854775807
  · rw [if_pos c1] at h
    refine .reg' [2] [.no, .no, .c ⟨131, [(.pt 0 0 3), (.sl true ([(⟨#[97]⟩ : ByteArray), (⟨#[105, 99]⟩ : ByteArray), (⟨#[114, 101]⟩ : ByteArray), (⟨#[115]⟩ : ByteArray), (⟨#[120]⟩ : ByteArray)] : List ByteArray).length 1 (([(⟨#[97]⟩ : ByteArray), (⟨#[105, 99]⟩ : ByteArray), (⟨#[114, 101]⟩ : ByteArray), (⟨#[115]⟩ : ByteArray), (⟨#[120]⟩ : ByteArray)] : List ByteArray).flatMap encS))], [(0, [(.sl false a0.f0.length 1 (a0.f0.flatMap encU)), (I a0.f1), (I a0.f2)])], (S x1.1), [(0, [(.sl false x1.2.f0.length 1 (x1.2.f0.flatMap encU)), (I x1.2.f1), (I x1.2.f2)])], [513], [(0, 0)], [(0, 0)], (S x1.1), [(0, [(.sl false x1.2.f0.length 1 (x1.2.f0.flatMap encU)), (I x1.2.f1), (I x1.2.f2)])]⟩, .no, .c ⟨92, [(.pt 0 0 3), (I 90)], [(0, [(.sl false x1.2.f0.length 1 (x1.2.f0.flatMap encU)), (I x1.2.f1), (I x1.2.f2)])], (I x2.1), [(0, [(.sl false x2.2.f0.length 1 (x2.2.f0.flatMap encU)), (I x2.2.f1), (I x2.2.f2)])], [], [(0, 0)], [(0, 0)], (I x2.1), [(0, [(.sl false x2.2.f0.length 1 (x2.2.f0.flatMap encU)), (I x2.2.f1), (I x2.2.f2)])]⟩, .c ⟨132, [(I x2.1)], [], (S x3), [], [], [], [], (S x3), []⟩] ⟨[(2, (S (x1.1 ++ x3)))], [(0, [(.sl false x2.2.f0.length 1 (x2.2.f0.flatMap encU)), (I x2.2.f1), (I x2.2.f2)]), (513, (([(⟨#[97]⟩ : ByteArray), (⟨#[105, 99]⟩ : ByteArray), (⟨#[114, 101]⟩ : ByteArray), (⟨#[115]⟩ : ByteArray), (⟨#[120]⟩ : ByteArray)] : List ByteArray).flatMap encS))], [COK (hget [(0, [(.sl false a0.f0.length 1 (a0.f0.flatMap encU)), (I a0.f1), (I a0.f2)]), (513, (([(⟨#[97]⟩ : ByteArray), (⟨#[105, 99]⟩ : ByteArray), (⟨#[114, 101]⟩ : ByteArray), (⟨#[115]⟩ : ByteArray), (⟨#[120]⟩ : ByteArray)] : List ByteArray).flatMap encS))]) [(.pt 0 0 3), (.rf 513 0 (([(⟨#[97]⟩ : ByteArray), (⟨#[105, 99]⟩ : ByteArray), (⟨#[114, 101]⟩ : ByteArray), (⟨#[115]⟩ : ByteArray), (⟨#[120]⟩ : ByteArray)] : List ByteArray).length) 1 (([(⟨#[97]⟩ : ByteArray), (⟨#[105, 99]⟩ : ByteArray), (⟨#[114, 101]⟩ : ByteArray), (⟨#[115]⟩ : ByteArray), (⟨#[120]⟩ : ByteArray)] : List ByteArray).length * 1))] ⟨131, [(.pt 0 0 3), (.sl true ([(⟨#[97]⟩ : ByteArray), (⟨#[105, 99]⟩ : ByteArray), (⟨#[114, 101]⟩ : ByteArray), (⟨#[115]⟩ : ByteArray), (⟨#[120]⟩ : ByteArray)] : List ByteArray).length 1 (([(⟨#[97]⟩ : ByteArray), (⟨#[105, 99]⟩ : ByteArray), (⟨#[114, 101]⟩ : ByteArray), (⟨#[115]⟩ : ByteArray), (⟨#[120]⟩ : ByteArray)] : List ByteArray).flatMap encS))], [(0, [(.sl false a0.f0.length 1 (a0.f0.flatMap encU)), (I a0.f1), (I a0.f2)])], (S x1.1), [(0, [(.sl false x1.2.f0.length 1 (x1.2.f0.flatMap encU)), (I x1.2.f1), (I x1.2.f2)])], [513], [(0, 0)], [(0, 0)], (S x1.1), [(0, [(.sl false x1.2.f0.length 1 (x1.2.f0.flatMap encU)), (I x1.2.f1), (I x1.2.f2)])]⟩, COK (hget [(0, [(.sl false x1.2.f0.length 1 (x1.2.f0.flatMap encU)), (I x1.2.f1), (I x1.2.f2)]), (513, (([(⟨#[97]⟩ : ByteArray), (⟨#[105, 99]⟩ : ByteArray), (⟨#[114, 101]⟩ : ByteArray), (⟨#[115]⟩ : ByteArray), (⟨#[120]⟩ : ByteArray)] : List ByteArray).flatMap encS))]) [(.pt 0 0 3), (I 90)] ⟨92, [(.pt 0 0 3), (I 90)], [(0, [(.sl false x1.2.f0.length 1 (x1.2.f0.flatMap encU)), (I x1.2.f1), (I x1.2.f2)])], (I x2.1), [(0, [(.sl false x2.2.f0.length 1 (x2.2.f0.flatMap encU)), (I x2.2.f1), (I x2.2.f2)])], [], [(0, 0)], [(0, 0)], (I x2.1), [(0, [(.sl false x2.2.f0.length 1 (x2.2.f0.flatMap encU)), (I x2.2.f1), (I x2.2.f2)])]⟩, COK (hget [(0, [(.sl false x2.2.f0.length 1 (x2.2.f0.flatMap encU)), (I x2.2.f1), (I x2.2.f2)]), (513, (([(⟨#[97]⟩ : ByteArray), (⟨#[105, 99]⟩ : ByteArray), (⟨#[114, 101]⟩ : ByteArray), (⟨#[115]⟩ : ByteArray), (⟨#[120]⟩ : ByteArray)] : List ByteArray).flatMap encS))]) [(I x2.1)] ⟨132, [(I x2.1)], [], (S x3), [], [], [], [], (S x3), []⟩, x1.1.size + x3.size ≤ 9223372036854775807], [⟨131, [(.pt 0 0 3), (.sl true ([(⟨#[97]⟩ : ByteArray), (⟨#[105, 99]⟩ : ByteArray), (⟨#[114, 101]⟩ : ByteArray), (⟨#[115]⟩ : ByteArray), (⟨#[120]⟩ : ByteArray)] : List ByteArray).length 1 (([(⟨#[97]⟩ : ByteArray), (⟨#[105, 99]⟩ : ByteArray), (⟨#[114, 101]⟩ : ByteArray), (⟨#[115]⟩ : ByteArray), (⟨#[120]⟩ : ByteArray)] : List ByteArray).flatMap encS))], [(0, [(.sl false a0.f0.length 1 (a0.f0.flatMap encU)), (I a0.f1), (I a0.f2)])], (S x1.1), [(0, [(.sl false x1.2.f0.length 1 (x1.2.f0.flatMap encU)), (I x1.2.f1), (I x1.2.f2)])], [513], [(0, 0)], [(0, 0)], (S x1.1), [(0, [(.sl false x1.2.f0.length 1 (x1.2.f0.flatMap encU)), (I x1.2.f1), (I x1.2.f2)])]⟩, ⟨92, [(.pt 0 0 3), (I 90)], [(0, [(.sl false x1.2.f0.length 1 (x1.2.f0.flatMap encU)), (I x1.2.f1), (I x1.2.f2)])], (I x2.1), [(0, [(.sl false x2.2.f0.length 1 (x2.2.f0.flatMap encU)), (I x2.2.f1), (I x2.2.f2)])], [], [(0, 0)], [(0, 0)], (I x2.1), [(0, [(.sl false x2.2.f0.length 1 (x2.2.f0.flatMap encU)), (I x2.2.f1), (I x2.2.f2)])]⟩, ⟨132, [(I x2.1)], [], (S x3), [], [], [], [], (S x3), []⟩]⟩ [c_ 7] (alc (cokW false (a2c (.pt (memP_mem (p := (0, 0)) rfl)) (a2c (.z (frz_rf (k := 513) encS_ok (by simp) rfl rfl (row_len encS_ok _).symm)) a2n)) (akc ⟨_, _, rfl, rfl, (a2c (.z (frz_sl encU_ok (fun h => h))) (a2c (.z .s) (a2c (.z .s) a2n)))⟩ akn) (akc (.inl rfl) akn) (.z .s) (akc ⟨_, _, rfl, rfl, (a2c (.z (clnS encU_c (fun h => absurd h (by decide)))) (a2c (.z .s) (a2c (.z .s) a2n)))⟩ akn) (fun h => absurd h (by decide))) (alc (cokW false (a2c (.pt (memP_mem (p := (0, 0)) rfl)) (a2c (.z .s) a2n)) (akc ⟨_, _, rfl, rfl, (a2c (.z (frz_sl encU_ok (fun h => h))) (a2c (.z .s) (a2c (.z .s) a2n)))⟩ akn) (akc (.inl rfl) akn) (.z .s) (akc ⟨_, _, rfl, rfl, (a2c (.z (clnS encU_c (fun h => absurd h (by decide)))) (a2c (.z .s) (a2c (.z .s) a2n)))⟩ akn) (fun h => absurd h (by decide))) (alc (cok0 false (a2c (.z .s) a2n) (.z .s) (fun h => absurd h (by decide))) (alc c1 aln)))) (acal (spec_l01PickText.J a0 ([(⟨#[97]⟩ : ByteArray), (⟨#[105, 99]⟩ : ByteArray), (⟨#[114, 101]⟩ : ByteArray), (⟨#[115]⟩ : ByteArray), (⟨#[120]⟩ : ByteArray)] : List ByteArray) _ hx1) (acal (spec_l01Below.J x1.2 90 _ hx2) (acal (spec_l01Num.J k x2.1 _ hx3) nocal))) ?_
    have h := Option.some.inj h
    subst h
    exact .fin' [] [(0, 0)] (S (x1.1 ++ x3)) [] aln (shc 0 (a2c (.z (frz_sl encU_ok (fun h => h))) (a2c (.z .s) (a2c (.z .s) a2n))) shn) (.z .s)
  · rw [if_neg c1] at h
    cases h
/-! spec_l02Other: function 128 -/
def spec_l02Other.f (a0 : S169) (a1 : Int) : Option Int := (if a0.f0 = a1 then (some a0.f1) else (if a0.f1 = a1 then (some a0.f0) else (some (-1))))
theorem spec_l02Other.J (a0 : S169) (a1 : Int) (r : Int) (h : spec_l02Other.f a0 a1 = some r) : J prog (.call 128 [(.ag [(I a0.f0), (I a0.f1), (I a0.f2), (I a0.f3)]), (I a1)] [] (I r) []) := by
  unfold spec_l02Other.f at h
  refine .call' [c_ 2, c_ 3] ?_
  refine .reg' [1, 2] [] ⟨[(1, (I a1)), (2, (.pt 256 0 4))], [(256, [(I a0.f0), (I a0.f1), (I a0.f2), (I a0.f3)])], [], []⟩ [c_ 12, c_ 13, c_ 7] aln nocal ?_
  refine .reg' [1, 2, 8] [] ⟨[(1, (I a1)), (2, (.pt 256 0 4)), (8, (B (a0.f0 == a1)))], [(256, [(I a0.f0), (I a0.f1), (I a0.f2), (I a0.f3)])], [4 = 4 ∧ 0 + 1 ≤ 4], []⟩ [c_ 13, c_ 7] (alc ⟨rfl, by decide⟩ aln) nocal ?_
  by_cases c1 : a0.f0 = a1
  · rw [if_pos c1] at h
    refine .cond' (.tmp 8) true [c_ 52, c_ 53, c_ 7] (bT (qT c1)) ?_
    refine .reg' [4] [] ⟨[(4, (I a0.f1))], [(256, [(I a0.f0), (I a0.f1), (I a0.f2), (I a0.f3)])], [4 = 4 ∧ 1 + 1 ≤ 4], []⟩ [c_ 53, c_ 7] (alc ⟨rfl, by decide⟩ aln) nocal ?_
    have h := Option.some.inj h
    subst h
    exact .fin0 [] (I a0.f1) [] aln (.z .s)
  · rw [if_neg c1] at h
    refine .cond' (.tmp 8) false [c_ 28, c_ 29, c_ 15] (bF (qF c1)) ?_
    refine .reg' [2, 14] [] ⟨[(2, (.pt 256 0 4)), (14, (B (a0.f1 == a1)))], [(256, [(I a0.f0), (I a0.f1), (I a0.f2), (I a0.f3)])], [4 = 4 ∧ 1 + 1 ≤ 4], []⟩ [c_ 29, c_ 15] (alc ⟨rfl, by decide⟩ aln) nocal ?_
    by_cases c2 : a0.f1 = a1
    · rw [if_pos c2] at h
      refine .cond' (.tmp 14) true [c_ 116, c_ 117, c_ 15] (bT (qT c2)) ?_
      refine .reg' [4] [] ⟨[(4, (I a0.f0))], [(256, [(I a0.f0), (I a0.f1), (I a0.f2), (I a0.f3)])], [4 = 4 ∧ 0 + 1 ≤ 4], []⟩ [c_ 117, c_ 15] (alc ⟨rfl, by decide⟩ aln) nocal ?_
      have h := Option.some.inj h
      subst h
      exact .fin0 [] (I a0.f0) [] aln (.z .s)
    · rw [if_neg c2] at h
      refine .cond' (.tmp 14) false [c_ 30, c_ 31] (bF (qF c2)) ?_
      refine .reg' [4] [] ⟨[(4, (I (-1)))], [(256, [(I a0.f0), (I a0.f1), (I a0.f2), (I a0.f3)])], [], []⟩ [c_ 31] aln nocal ?_
      have h := Option.some.inj h
      subst h
      exact .fin0 [] (I (-1)) [] aln (.z .s)
/-! spec_l02DrawWay: function 127 -/
mutual
def spec_l02DrawWay.l0 : Nat → S131 → Int → S153 → (List Int) → Int → Int → Option ((List Int) × S153)
 | 0, _, _, _, _, _, _ => none
 | k + 1, a1, a3, x1, x2, x3, x4 => (if x4 < a3 then ((spec_l01Below.f x1 (a1.f1.length : Int)).bind fun x5 => (spec_l02DrawWay.l1 k a1 a3 x2 x4 x5 x3 0)) else (some (x2, x1)))
def spec_l02DrawWay.l1 : Nat → S131 → Int → (List Int) → Int → (Int × S153) → Int → Int → Option ((List Int) × S153)
 | 0, _, _, _, _, _, _, _ => none
 | k + 1, a1, a3, x2, x4, x5, x6, x7 => (if x7 < (a1.f1.length : Int) then (if (a1.f1.length : Int) ≠ 0 then (if 0 ≤ ((wrap64 (x5.1 + x7)).tmod (a1.f1.length : Int)) then (if ((wrap64 (x5.1 + x7)).tmod (a1.f1.length : Int)) < (a1.f1.length : Int) then ((spec_l02Other.f (at_ a1.f1 ((wrap64 (x5.1 + x7)).tmod (a1.f1.length : Int))) x6).bind fun x8 => (if x8 ≥ 0 then (if (x2.length + ([((wrap64 (x5.1 + x7)).tmod (a1.f1.length : Int))] : List Int).length) * 8 ≤ 70368744177664 then (spec_l02DrawWay.l0 k a1 a3 x5.2 (x2 ++ ([((wrap64 (x5.1 + x7)).tmod (a1.f1.length : Int))] : List Int)) x8 (wrap64 (x4 + 1))) else none) else (spec_l02DrawWay.l1 k a1 a3 x2 x4 x5 x6 (wrap64 (x7 + 1))))) else none) else none) else none) else (spec_l02DrawWay.l0 k a1 a3 x5.2 x2 x6 (wrap64 (x4 + 1))))
end
def spec_l02DrawWay.f (k : Nat) (a0 : S153) (a1 : S131) (a2 : Int) (a3 : Int) : Option ((List Int) × S153) := (spec_l02DrawWay.l0 k a1 a3 a0 ([] : List Int) a2 0)
theorem spec_l02DrawWay.lab : ∀ k, (∀ (a1 : S131) (a3 : Int) (x1 : S153) (x2 : (List Int)) (x3 : Int) (x4 : Int) (r : ((List Int) × S153)), spec_l02DrawWay.l0 k a1 a3 x1 x2 x3 x4 = some r → J prog (.run 127 [0] [l_ 122, b_ 0, c_ 31] [(0, (.pt 0 0 3)), (3, (I a3)), (5, (.pt 256 0 2)), (9, (.rf 512 0 x2.length 1 (x2.length * 1))), (10, (I x3)), (11, (I x4))] [(0, [(.sl false x1.f0.length 1 (x1.f0.flatMap encU)), (I x1.f1), (I x1.f2)]), (256, [(I a1.f0), (.sl true a1.f1.length 4 (a1.f1.flatMap e169))]), (512, (x2.flatMap encI))] (.rf 512 0 r.1.length 1 (r.1.length * 1)) [(0, [(.sl false r.2.f0.length 1 (r.2.f0.flatMap encU)), (I r.2.f1), (I r.2.f2)]), (512, (r.1.flatMap encI))])) ∧ (∀ (a1 : S131) (a3 : Int) (x2 : (List Int)) (x4 : Int) (x5 : (Int × S153)) (x6 : Int) (x7 : Int) (r : ((List Int) × S153)), spec_l02DrawWay.l1 k a1 a3 x2 x4 x5 x6 x7 = some r → J prog (.run 127 [0] [l_ 15654, b_ 2, b_ 1, c_ 979, l_ 122, b_ 0, c_ 31] [(0, (.pt 0 0 3)), (3, (I a3)), (5, (.pt 256 0 2)), (9, (.rf 512 0 x2.length 1 (x2.length * 1))), (10, (I x6)), (11, (I x4)), (12, (I x5.1)), (13, (I x7))] [(0, [(.sl false x5.2.f0.length 1 (x5.2.f0.flatMap encU)), (I x5.2.f1), (I x5.2.f2)]), (256, [(I a1.f0), (.sl true a1.f1.length 4 (a1.f1.flatMap e169))]), (512, (x2.flatMap encI))] (.rf 512 0 r.1.length 1 (r.1.length * 1)) [(0, [(.sl false r.2.f0.length 1 (r.2.f0.flatMap encU)), (I r.2.f1), (I r.2.f2)]), (512, (r.1.flatMap encI))]))
 | 0 => ⟨(by intro a1 a3 x1 x2 x3 x4 r h; unfold spec_l02DrawWay.l0 at h; cases h), (by intro a1 a3 x2 x4 x5 x6 x7 r h; unfold spec_l02DrawWay.l1 at h; cases h)⟩
 | k + 1 => by
  obtain ⟨ih0, ih1⟩ := spec_l02DrawWay.lab k
  refine ⟨?_, ?_⟩
  · intro a1 a3 x1 x2 x3 x4 r h
    unfold spec_l02DrawWay.l0 at h
    refine .loop' [c_ 976, c_ 977, c_ 489, l_ 122, b_ 0, c_ 31] ?_
    refine .reg' [0, 3, 5, 9, 10, 11, 20] [] ⟨[(0, (.pt 0 0 3)), (3, (I a3)), (5, (.pt 256 0 2)), (9, (.rf 512 0 x2.length 1 (x2.length * 1))), (10, (I x3)), (11, (I x4)), (20, (B (decide (x4 < a3))))], [(0, [(.sl false x1.f0.length 1 (x1.f0.flatMap encU)), (I x1.f1), (I x1.f2)]), (256, [(I a1.f0), (.sl true a1.f1.length 4 (a1.f1.flatMap e169))]), (512, (x2.flatMap encI))], [], []⟩ [c_ 977, c_ 489, l_ 122, b_ 0, c_ 31] aln nocal ?_
    by_cases c1 : x4 < a3
    · rw [if_pos c1] at h
      refine .cond' (.tmp 20) true [c_ 3912, c_ 3913, b_ 1, c_ 979, l_ 122, b_ 0, c_ 31] (bT (dT c1)) ?_
      obtain ⟨x5, hx5, h⟩ := Option.bind_eq_some_iff.mp h
      refine .reg' [0, 3, 5, 9, 10, 11, 12] [.no, .no, .no, .no, .c ⟨92, [(.pt 0 0 3), (I (a1.f1.length : Int))], [(0, [(.sl false x1.f0.length 1 (x1.f0.flatMap encU)), (I x1.f1), (I x1.f2)])], (I x5.1), [(0, [(.sl false x5.2.f0.length 1 (x5.2.f0.flatMap encU)), (I x5.2.f1), (I x5.2.f2)])], [], [(0, 0)], [(0, 0)], (I x5.1), [(0, [(.sl false x5.2.f0.length 1 (x5.2.f0.flatMap encU)), (I x5.2.f1), (I x5.2.f2)])]⟩] ⟨[(0, (.pt 0 0 3)), (3, (I a3)), (5, (.pt 256 0 2)), (9, (.rf 512 0 x2.length 1 (x2.length * 1))), (10, (I x3)), (11, (I x4)), (12, (I x5.1))], [(0, [(.sl false x5.2.f0.length 1 (x5.2.f0.flatMap encU)), (I x5.2.f1), (I x5.2.f2)]), (256, [(I a1.f0), (.sl true a1.f1.length 4 (a1.f1.flatMap e169))]), (512, (x2.flatMap encI))], [2 = 2 ∧ 1 + 1 ≤ 2, COK (hget [(0, [(.sl false x1.f0.length 1 (x1.f0.flatMap encU)), (I x1.f1), (I x1.f2)]), (256, [(I a1.f0), (.sl true a1.f1.length 4 (a1.f1.flatMap e169))]), (512, (x2.flatMap encI))]) [(.pt 0 0 3), (I (a1.f1.length : Int))] ⟨92, [(.pt 0 0 3), (I (a1.f1.length : Int))], [(0, [(.sl false x1.f0.length 1 (x1.f0.flatMap encU)), (I x1.f1), (I x1.f2)])], (I x5.1), [(0, [(.sl false x5.2.f0.length 1 (x5.2.f0.flatMap encU)), (I x5.2.f1), (I x5.2.f2)])], [], [(0, 0)], [(0, 0)], (I x5.1), [(0, [(.sl false x5.2.f0.length 1 (x5.2.f0.flatMap encU)), (I x5.2.f1), (I x5.2.f2)])]⟩], [⟨92, [(.pt 0 0 3), (I (a1.f1.length : Int))], [(0, [(.sl false x1.f0.length 1 (x1.f0.flatMap encU)), (I x1.f1), (I x1.f2)])], (I x5.1), [(0, [(.sl false x5.2.f0.length 1 (x5.2.f0.flatMap encU)), (I x5.2.f1), (I x5.2.f2)])], [], [(0, 0)], [(0, 0)], (I x5.1), [(0, [(.sl false x5.2.f0.length 1 (x5.2.f0.flatMap encU)), (I x5.2.f1), (I x5.2.f2)])]⟩]⟩ [c_ 7826, c_ 7827, b_ 1, c_ 979, l_ 122, b_ 0, c_ 31] (alc ⟨rfl, by decide⟩ (alc (cokW false (a2c (.pt (memP_mem (p := (0, 0)) rfl)) (a2c (.z .s) a2n)) (akc ⟨_, _, rfl, rfl, (a2c (.z (frz_sl encU_ok (fun h => h))) (a2c (.z .s) (a2c (.z .s) a2n)))⟩ akn) (akc (.inl rfl) akn) (.z .s) (akc ⟨_, _, rfl, rfl, (a2c (.z (clnS encU_c (fun h => absurd h (by decide)))) (a2c (.z .s) (a2c (.z .s) a2n)))⟩ akn) (fun h => absurd h (by decide))) aln)) (acal (spec_l01Below.J x1 (a1.f1.length : Int) _ hx5) nocal) ?_
      refine .reg' [0, 3, 5, 9, 10, 11, 12, 13] [] ⟨[(0, (.pt 0 0 3)), (3, (I a3)), (5, (.pt 256 0 2)), (9, (.rf 512 0 x2.length 1 (x2.length * 1))), (10, (I x3)), (11, (I x4)), (12, (I x5.1)), (13, (I 0))], [(0, [(.sl false x5.2.f0.length 1 (x5.2.f0.flatMap encU)), (I x5.2.f1), (I x5.2.f2)]), (256, [(I a1.f0), (.sl true a1.f1.length 4 (a1.f1.flatMap e169))]), (512, (x2.flatMap encI))], [], []⟩ [l_ 15654, b_ 2, b_ 1, c_ 979, l_ 122, b_ 0, c_ 31] aln nocal ?_
      exact ih1 a1 a3 x2 x4 x5 x3 0 _ h
    · rw [if_neg c1] at h
      refine .cond' (.tmp 20) false [c_ 62, c_ 63] (bF (dF c1)) ?_
      refine .reg' [8] [] ⟨[(8, (.rf 512 0 x2.length 1 (x2.length * 1)))], [(0, [(.sl false x1.f0.length 1 (x1.f0.flatMap encU)), (I x1.f1), (I x1.f2)]), (256, [(I a1.f0), (.sl true a1.f1.length 4 (a1.f1.flatMap e169))]), (512, (x2.flatMap encI))], [], []⟩ [c_ 63] aln nocal ?_
      have h := Option.some.inj h
      subst h
      exact .fin' [] [(0, 0), (512, 512)] (.rf 512 0 x2.length 1 (x2.length * 1)) [] aln (shc 0 (a2c (.z (frz_sl encU_ok (fun h => h))) (a2c (.z .s) (a2c (.z .s) a2n))) (shc 512 (rowF encI_ok _) shn)) (.rf (memP_mem (p := (512, 512)) rfl))
  · intro a1 a3 x2 x4 x5 x6 x7 r h
    unfold spec_l02DrawWay.l1 at h
    refine .loop' [c_ 125232, c_ 125233, c_ 62617, l_ 15654, b_ 2, b_ 1, c_ 979, l_ 122, b_ 0, c_ 31] ?_
    refine .reg' [0, 3, 5, 9, 10, 11, 12, 13, 32] [] ⟨[(0, (.pt 0 0 3)), (3, (I a3)), (5, (.pt 256 0 2)), (9, (.rf 512 0 x2.length 1 (x2.length * 1))), (10, (I x6)), (11, (I x4)), (12, (I x5.1)), (13, (I x7)), (32, (B (decide (x7 < (a1.f1.length : Int)))))], [(0, [(.sl false x5.2.f0.length 1 (x5.2.f0.flatMap encU)), (I x5.2.f1), (I x5.2.f2)]), (256, [(I a1.f0), (.sl true a1.f1.length 4 (a1.f1.flatMap e169))]), (512, (x2.flatMap encI))], [2 = 2 ∧ 1 + 1 ≤ 2], []⟩ [c_ 125233, c_ 62617, l_ 15654, b_ 2, b_ 1, c_ 979, l_ 122, b_ 0, c_ 31] (alc ⟨rfl, by decide⟩ aln) nocal ?_
    by_cases c2 : x7 < (a1.f1.length : Int)
    · rw [if_pos c2] at h
      refine .cond' (.tmp 32) true [c_ 500936, c_ 500937, b_ 3, c_ 125235, l_ 15654, b_ 2, b_ 1, c_ 979, l_ 122, b_ 0, c_ 31] (bT (dT c2)) ?_
      by_cases c3 : (a1.f1.length : Int) ≠ 0
      · rw [if_pos c3] at h
        refine .reg' [0, 3, 5, 9, 10, 11, 12, 13, 14] [] ⟨[(0, (.pt 0 0 3)), (3, (I a3)), (5, (.pt 256 0 2)), (9, (.rf 512 0 x2.length 1 (x2.length * 1))), (10, (I x6)), (11, (I x4)), (12, (I x5.1)), (13, (I x7)), (14, (I ((wrap64 (x5.1 + x7)).tmod (a1.f1.length : Int))))], [(0, [(.sl false x5.2.f0.length 1 (x5.2.f0.flatMap encU)), (I x5.2.f1), (I x5.2.f2)]), (256, [(I a1.f0), (.sl true a1.f1.length 4 (a1.f1.flatMap e169))]), (512, (x2.flatMap encI))], [2 = 2 ∧ 1 + 1 ≤ 2, (a1.f1.length : Int) ≠ 0], []⟩ [c_ 1001874, c_ 1001875, b_ 3, c_ 125235, l_ 15654, b_ 2, b_ 1, c_ 979, l_ 122, b_ 0, c_ 31] (alc ⟨rfl, by decide⟩ (alc c3 aln)) nocal ?_
        by_cases c4 : 0 ≤ ((wrap64 (x5.1 + x7)).tmod (a1.f1.length : Int))
        · rw [if_pos c4] at h
          by_cases c5 : ((wrap64 (x5.1 + x7)).tmod (a1.f1.length : Int)) < (a1.f1.length : Int)
          · rw [if_pos c5] at h
            obtain ⟨x8, hx8, h⟩ := Option.bind_eq_some_iff.mp h
            refine .reg' [0, 3, 5, 9, 10, 11, 12, 13, 14, 15] [.no, .no, .no, .no, .v (.ag [(I (at_ a1.f1 ((wrap64 (x5.1 + x7)).tmod (a1.f1.length : Int))).f0), (I (at_ a1.f1 ((wrap64 (x5.1 + x7)).tmod (a1.f1.length : Int))).f1), (I (at_ a1.f1 ((wrap64 (x5.1 + x7)).tmod (a1.f1.length : Int))).f2), (I (at_ a1.f1 ((wrap64 (x5.1 + x7)).tmod (a1.f1.length : Int))).f3)]), .no, .c ⟨128, [(.ag [(I (at_ a1.f1 ((wrap64 (x5.1 + x7)).tmod (a1.f1.length : Int))).f0), (I (at_ a1.f1 ((wrap64 (x5.1 + x7)).tmod (a1.f1.length : Int))).f1), (I (at_ a1.f1 ((wrap64 (x5.1 + x7)).tmod (a1.f1.length : Int))).f2), (I (at_ a1.f1 ((wrap64 (x5.1 + x7)).tmod (a1.f1.length : Int))).f3)]), (I x6)], [], (I x8), [], [], [], [], (I x8), []⟩] ⟨[(0, (.pt 0 0 3)), (3, (I a3)), (5, (.pt 256 0 2)), (9, (.rf 512 0 x2.length 1 (x2.length * 1))), (10, (I x6)), (11, (I x4)), (12, (I x5.1)), (13, (I x7)), (14, (I ((wrap64 (x5.1 + x7)).tmod (a1.f1.length : Int)))), (15, (I x8))], [(0, [(.sl false x5.2.f0.length 1 (x5.2.f0.flatMap encU)), (I x5.2.f1), (I x5.2.f2)]), (256, [(I a1.f0), (.sl true a1.f1.length 4 (a1.f1.flatMap e169))]), (512, (x2.flatMap encI))], [2 = 2 ∧ 1 + 1 ≤ 2, (0 : Int) ≤ ((wrap64 (x5.1 + x7)).tmod (a1.f1.length : Int)) ∧ ((wrap64 (x5.1 + x7)).tmod (a1.f1.length : Int)) < (a1.f1.length : Int), rdC prog 170 ((a1.f1.flatMap e169).drop (((wrap64 (x5.1 + x7)).tmod (a1.f1.length : Int)).toNat * 4)) = (.ag [(I (at_ a1.f1 ((wrap64 (x5.1 + x7)).tmod (a1.f1.length : Int))).f0), (I (at_ a1.f1 ((wrap64 (x5.1 + x7)).tmod (a1.f1.length : Int))).f1), (I (at_ a1.f1 ((wrap64 (x5.1 + x7)).tmod (a1.f1.length : Int))).f2), (I (at_ a1.f1 ((wrap64 (x5.1 + x7)).tmod (a1.f1.length : Int))).f3)]), 4 ≤ ((a1.f1.flatMap e169).drop (((wrap64 (x5.1 + x7)).tmod (a1.f1.length : Int)).toNat * 4)).length, COK (hget [(0, [(.sl false x5.2.f0.length 1 (x5.2.f0.flatMap encU)), (I x5.2.f1), (I x5.2.f2)]), (256, [(I a1.f0), (.sl true a1.f1.length 4 (a1.f1.flatMap e169))]), (512, (x2.flatMap encI))]) [(.ag [(I (at_ a1.f1 ((wrap64 (x5.1 + x7)).tmod (a1.f1.length : Int))).f0), (I (at_ a1.f1 ((wrap64 (x5.1 + x7)).tmod (a1.f1.length : Int))).f1), (I (at_ a1.f1 ((wrap64 (x5.1 + x7)).tmod (a1.f1.length : Int))).f2), (I (at_ a1.f1 ((wrap64 (x5.1 + x7)).tmod (a1.f1.length : Int))).f3)]), (I x6)] ⟨128, [(.ag [(I (at_ a1.f1 ((wrap64 (x5.1 + x7)).tmod (a1.f1.length : Int))).f0), (I (at_ a1.f1 ((wrap64 (x5.1 + x7)).tmod (a1.f1.length : Int))).f1), (I (at_ a1.f1 ((wrap64 (x5.1 + x7)).tmod (a1.f1.length : Int))).f2), (I (at_ a1.f1 ((wrap64 (x5.1 + x7)).tmod (a1.f1.length : Int))).f3)]), (I x6)], [], (I x8), [], [], [], [], (I x8), []⟩], [⟨128, [(.ag [(I (at_ a1.f1 ((wrap64 (x5.1 + x7)).tmod (a1.f1.length : Int))).f0), (I (at_ a1.f1 ((wrap64 (x5.1 + x7)).tmod (a1.f1.length : Int))).f1), (I (at_ a1.f1 ((wrap64 (x5.1 + x7)).tmod (a1.f1.length : Int))).f2), (I (at_ a1.f1 ((wrap64 (x5.1 + x7)).tmod (a1.f1.length : Int))).f3)]), (I x6)], [], (I x8), [], [], [], [], (I x8), []⟩]⟩ [c_ 2003750, c_ 2003751, b_ 3, c_ 125235, l_ 15654, b_ 2, b_ 1, c_ 979, l_ 122, b_ 0, c_ 31] (alc ⟨rfl, by decide⟩ (alc ⟨c4, c5⟩ (alc (ldA e169_ok rfl rfl c4 c5) (alc (okI e169_ok c4 c5 (by decide)) (alc (cok0 false (a2c (.z (frz_ag (a2c .s (a2c .s (a2c .s (a2c .s a2n)))))) (a2c (.z .s) a2n)) (.z .s) (fun h => absurd h (by decide))) aln))))) (acal (spec_l02Other.J (at_ a1.f1 ((wrap64 (x5.1 + x7)).tmod (a1.f1.length : Int))) x6 _ hx8) nocal) ?_
            refine .reg' [0, 3, 5, 9, 10, 11, 12, 13, 14, 15, 50] [] ⟨[(0, (.pt 0 0 3)), (3, (I a3)), (5, (.pt 256 0 2)), (9, (.rf 512 0 x2.length 1 (x2.length * 1))), (10, (I x6)), (11, (I x4)), (12, (I x5.1)), (13, (I x7)), (14, (I ((wrap64 (x5.1 + x7)).tmod (a1.f1.length : Int)))), (15, (I x8)), (50, (B (decide (x8 ≥ 0))))], [(0, [(.sl false x5.2.f0.length 1 (x5.2.f0.flatMap encU)), (I x5.2.f1), (I x5.2.f2)]), (256, [(I a1.f0), (.sl true a1.f1.length 4 (a1.f1.flatMap e169))]), (512, (x2.flatMap encI))], [], []⟩ [c_ 2003751, b_ 3, c_ 125235, l_ 15654, b_ 2, b_ 1, c_ 979, l_ 122, b_ 0, c_ 31] aln nocal ?_
            by_cases c6 : x8 ≥ 0
            · rw [if_pos c6] at h
              refine .cond' (.tmp 50) true [c_ 8015004, c_ 8015005, b_ 3, c_ 125235, l_ 15654, b_ 2, b_ 1, c_ 979, l_ 122, b_ 0, c_ 31] (bT (dT c6)) ?_
              by_cases c7 : (x2.length + ([((wrap64 (x5.1 + x7)).tmod (a1.f1.length : Int))] : List Int).length) * 8 ≤ 70368744177664
              · rw [if_pos c7] at h
                refine .reg' [0, 3, 5, 9, 11, 15] [.no, .no, .no, .w (.rf 512 0 ((x2 ++ ([((wrap64 (x5.1 + x7)).tmod (a1.f1.length : Int))] : List Int)).length) 1 ((x2 ++ ([((wrap64 (x5.1 + x7)).tmod (a1.f1.length : Int))] : List Int)).length * 1)) ((x2 ++ ([((wrap64 (x5.1 + x7)).tmod (a1.f1.length : Int))] : List Int)).flatMap encI)] ⟨[(0, (.pt 0 0 3)), (3, (I a3)), (5, (.pt 256 0 2)), (9, (.rf 512 0 ((x2 ++ ([((wrap64 (x5.1 + x7)).tmod (a1.f1.length : Int))] : List Int)).length) 1 ((x2 ++ ([((wrap64 (x5.1 + x7)).tmod (a1.f1.length : Int))] : List Int)).length * 1))), (11, (I x4)), (15, (I x8))], [(0, [(.sl false x5.2.f0.length 1 (x5.2.f0.flatMap encU)), (I x5.2.f1), (I x5.2.f2)]), (256, [(I a1.f0), (.sl true a1.f1.length 4 (a1.f1.flatMap e169))]), (512, ((x2 ++ ([((wrap64 (x5.1 + x7)).tmod (a1.f1.length : Int))] : List Int)).flatMap encI)), (3586, (([((wrap64 (x5.1 + x7)).tmod (a1.f1.length : Int))] : List Int).flatMap encI))], [V.rf 512 0 (x2.length + ([((wrap64 (x5.1 + x7)).tmod (a1.f1.length : Int))] : List Int).length) 1 (x2.length * 1 + ([((wrap64 (x5.1 + x7)).tmod (a1.f1.length : Int))] : List Int).length * 1) = (.rf 512 0 ((x2 ++ ([((wrap64 (x5.1 + x7)).tmod (a1.f1.length : Int))] : List Int)).length) 1 ((x2 ++ ([((wrap64 (x5.1 + x7)).tmod (a1.f1.length : Int))] : List Int)).length * 1)), x2.flatMap encI ++ (((([((wrap64 (x5.1 + x7)).tmod (a1.f1.length : Int))] : List Int).flatMap encI).drop 0).take (([((wrap64 (x5.1 + x7)).tmod (a1.f1.length : Int))] : List Int).length * 1)) = ((x2 ++ ([((wrap64 (x5.1 + x7)).tmod (a1.f1.length : Int))] : List Int)).flatMap encI), (([((wrap64 (x5.1 + x7)).tmod (a1.f1.length : Int))] : List Int).length * 1 = (([((wrap64 (x5.1 + x7)).tmod (a1.f1.length : Int))] : List Int).flatMap encI).length ∧ 0 + ([((wrap64 (x5.1 + x7)).tmod (a1.f1.length : Int))] : List Int).length * 1 ≤ (([((wrap64 (x5.1 + x7)).tmod (a1.f1.length : Int))] : List Int).flatMap encI).length) ∧ x2.length * 1 = (x2.flatMap encI).length ∧ x2.length * 1 = (x2.flatMap encI).length ∧ (x2.length + ([((wrap64 (x5.1 + x7)).tmod (a1.f1.length : Int))] : List Int).length) * 8 ≤ 70368744177664], []⟩ [c_ 16030010, c_ 16030011, b_ 3, c_ 125235, l_ 15654, b_ 2, b_ 1, c_ 979, l_ 122, b_ 0, c_ 31] (alc (apV rfl) (alc (apR encI_ok rfl) (alc (apO encI_ok rfl c7 rfl) aln))) nocal ?_
                refine .reg' [0, 3, 5, 9, 10, 11] [] ⟨[(0, (.pt 0 0 3)), (3, (I a3)), (5, (.pt 256 0 2)), (9, (.rf 512 0 ((x2 ++ ([((wrap64 (x5.1 + x7)).tmod (a1.f1.length : Int))] : List Int)).length) 1 ((x2 ++ ([((wrap64 (x5.1 + x7)).tmod (a1.f1.length : Int))] : List Int)).length * 1))), (10, (I x8)), (11, (I x4))], [(0, [(.sl false x5.2.f0.length 1 (x5.2.f0.flatMap encU)), (I x5.2.f1), (I x5.2.f2)]), (256, [(I a1.f0), (.sl true a1.f1.length 4 (a1.f1.flatMap e169))]), (512, ((x2 ++ ([((wrap64 (x5.1 + x7)).tmod (a1.f1.length : Int))] : List Int)).flatMap encI)), (3586, (([((wrap64 (x5.1 + x7)).tmod (a1.f1.length : Int))] : List Int).flatMap encI))], [], []⟩ [c_ 979, l_ 122, b_ 0, c_ 31] aln nocal ?_
                refine .reg' [0, 3, 5, 9, 10, 11] [] ⟨[(0, (.pt 0 0 3)), (3, (I a3)), (5, (.pt 256 0 2)), (9, (.rf 512 0 ((x2 ++ ([((wrap64 (x5.1 + x7)).tmod (a1.f1.length : Int))] : List Int)).length) 1 ((x2 ++ ([((wrap64 (x5.1 + x7)).tmod (a1.f1.length : Int))] : List Int)).length * 1))), (10, (I x8)), (11, (I (wrap64 (x4 + 1))))], [(0, [(.sl false x5.2.f0.length 1 (x5.2.f0.flatMap encU)), (I x5.2.f1), (I x5.2.f2)]), (256, [(I a1.f0), (.sl true a1.f1.length 4 (a1.f1.flatMap e169))]), (512, ((x2 ++ ([((wrap64 (x5.1 + x7)).tmod (a1.f1.length : Int))] : List Int)).flatMap encI)), (3586, (([((wrap64 (x5.1 + x7)).tmod (a1.f1.length : Int))] : List Int).flatMap encI))], [], []⟩ [l_ 122, b_ 0, c_ 31] aln nocal ?_
                refine .wk' [] [(0, 0), (256, 256), (512, 512)] [(0, (.pt 0 0 3)), (3, (I a3)), (5, (.pt 256 0 2)), (9, (.rf 512 0 ((x2 ++ ([((wrap64 (x5.1 + x7)).tmod (a1.f1.length : Int))] : List Int)).length) 1 ((x2 ++ ([((wrap64 (x5.1 + x7)).tmod (a1.f1.length : Int))] : List Int)).length * 1))), (10, (I x8)), (11, (I (wrap64 (x4 + 1))))] [(0, [(.sl false x5.2.f0.length 1 (x5.2.f0.flatMap encU)), (I x5.2.f1), (I x5.2.f2)]), (256, [(I a1.f0), (.sl true a1.f1.length 4 (a1.f1.flatMap e169))]), (512, ((x2 ++ ([((wrap64 (x5.1 + x7)).tmod (a1.f1.length : Int))] : List Int)).flatMap encI))] (shc 0 (a2c (.z (frz_sl encU_ok (fun h => h))) (a2c (.z .s) (a2c (.z .s) a2n))) (shc 256 (a2c (.z .s) (a2c (.z (frz_sl e169_ok (fun h => h))) a2n)) (shc 512 (rowF encI_ok _) shn))) (enc_ (.pt (memP_mem (p := (0, 0)) rfl)) (enc_ (.z .s) (enc_ (.pt (memP_mem (p := (256, 256)) rfl)) (enc_ (.rf (memP_mem (p := (512, 512)) rfl)) (enc_ (.z .s) (enc_ (.z .s) enn)))))) ?_
                exact ih0 a1 a3 x5.2 (x2 ++ ([((wrap64 (x5.1 + x7)).tmod (a1.f1.length : Int))] : List Int)) x8 (wrap64 (x4 + 1)) _ h
              · rw [if_neg c7] at h
                cases h
            · rw [if_neg c6] at h
              refine .cond' (.tmp 50) false [c_ 125235, l_ 15654, b_ 2, b_ 1, c_ 979, l_ 122, b_ 0, c_ 31] (bF (dF c6)) ?_
              refine .reg' [0, 3, 5, 9, 10, 11, 12, 13] [] ⟨[(0, (.pt 0 0 3)), (3, (I a3)), (5, (.pt 256 0 2)), (9, (.rf 512 0 x2.length 1 (x2.length * 1))), (10, (I x6)), (11, (I x4)), (12, (I x5.1)), (13, (I (wrap64 (x7 + 1))))], [(0, [(.sl false x5.2.f0.length 1 (x5.2.f0.flatMap encU)), (I x5.2.f1), (I x5.2.f2)]), (256, [(I a1.f0), (.sl true a1.f1.length 4 (a1.f1.flatMap e169))]), (512, (x2.flatMap encI))], [], []⟩ [l_ 15654, b_ 2, b_ 1, c_ 979, l_ 122, b_ 0, c_ 31] aln nocal ?_
              exact ih1 a1 a3 x2 x4 x5 x6 (wrap64 (x7 + 1)) _ h
          · rw [if_neg c5] at h
            cases h
        · rw [if_neg c4] at h
          cases h
      · rw [if_neg c3] at h
        cases h
    · rw [if_neg c2] at h
      refine .cond' (.tmp 32) false [c_ 979, l_ 122, b_ 0, c_ 31] (bF (dF c2)) ?_
      refine .reg' [0, 3, 5, 9, 10, 11] [] ⟨[(0, (.pt 0 0 3)), (3, (I a3)), (5, (.pt 256 0 2)), (9, (.rf 512 0 x2.length 1 (x2.length * 1))), (10, (I x6)), (11, (I (wrap64 (x4 + 1))))], [(0, [(.sl false x5.2.f0.length 1 (x5.2.f0.flatMap encU)), (I x5.2.f1), (I x5.2.f2)]), (256, [(I a1.f0), (.sl true a1.f1.length 4 (a1.f1.flatMap e169))]), (512, (x2.flatMap encI))], [], []⟩ [l_ 122, b_ 0, c_ 31] aln nocal ?_
      exact ih0 a1 a3 x5.2 x2 x6 (wrap64 (x4 + 1)) _ h
theorem spec_l02DrawWay.J (k : Nat) (a0 : S153) (a1 : S131) (a2 : Int) (a3 : Int) (r : ((List Int) × S153)) (h : spec_l02DrawWay.f k a0 a1 a2 a3 = some r) : J prog (.call 127 [(.pt 0 0 3), (.ag [(I a1.f0), (.sl true a1.f1.length 4 (a1.f1.flatMap e169))]), (I a2), (I a3)] [(0, [(.sl false a0.f0.length 1 (a0.f0.flatMap encU)), (I a0.f1), (I a0.f2)])] (.rf 512 0 r.1.length 1 (r.1.length * 1)) [(0, [(.sl false r.2.f0.length 1 (r.2.f0.flatMap encU)), (I r.2.f1), (I r.2.f2)]), (512, (r.1.flatMap encI))]) := by
  unfold spec_l02DrawWay.f at h
  obtain ⟨ih0, ih1⟩ := spec_l02DrawWay.lab k
  refine .call' [c_ 2, c_ 3] ?_
  refine .reg' [0, 2, 3, 5] [] ⟨[(0, (.pt 0 0 3)), (2, (I a2)), (3, (I a3)), (5, (.pt 256 0 2))], [(0, [(.sl false a0.f0.length 1 (a0.f0.flatMap encU)), (I a0.f1), (I a0.f2)]), (256, [(I a1.f0), (.sl true a1.f1.length 4 (a1.f1.flatMap e169))])], [], []⟩ [c_ 6, c_ 7] aln nocal ?_
  refine .reg' [0, 2, 3, 5, 9] [] ⟨[(0, (.pt 0 0 3)), (2, (I a2)), (3, (I a3)), (5, (.pt 256 0 2)), (9, (.rf 512 0 (([] : List Int).length) 1 (([] : List Int).length * 1)))], [(0, [(.sl false a0.f0.length 1 (a0.f0.flatMap encU)), (I a0.f1), (I a0.f2)]), (256, [(I a1.f0), (.sl true a1.f1.length 4 (a1.f1.flatMap e169))]), (512, (([] : List Int).flatMap encI))], [], []⟩ [c_ 14, c_ 15] aln nocal ?_
  refine .reg' [0, 3, 5, 9, 10] [] ⟨[(0, (.pt 0 0 3)), (3, (I a3)), (5, (.pt 256 0 2)), (9, (.rf 512 0 (([] : List Int).length) 1 (([] : List Int).length * 1))), (10, (I a2))], [(0, [(.sl false a0.f0.length 1 (a0.f0.flatMap encU)), (I a0.f1), (I a0.f2)]), (256, [(I a1.f0), (.sl true a1.f1.length 4 (a1.f1.flatMap e169))]), (512, (([] : List Int).flatMap encI))], [], []⟩ [c_ 60, c_ 61, c_ 31] aln nocal ?_
  refine .reg' [0, 3, 5, 9, 10, 11] [] ⟨[(0, (.pt 0 0 3)), (3, (I a3)), (5, (.pt 256 0 2)), (9, (.rf 512 0 (([] : List Int).length) 1 (([] : List Int).length * 1))), (10, (I a2)), (11, (I 0))], [(0, [(.sl false a0.f0.length 1 (a0.f0.flatMap encU)), (I a0.f1), (I a0.f2)]), (256, [(I a1.f0), (.sl true a1.f1.length 4 (a1.f1.flatMap e169))]), (512, (([] : List Int).flatMap encI))], [], []⟩ [l_ 122, b_ 0, c_ 31] aln nocal ?_
  exact ih0 a1 a3 a0 ([] : List Int) a2 0 _ h
/-! spec_l08DrawTrip: function 112 -/
def spec_l08DrawTrip.l0 : Nat → S131 → (ByteArray × S153) → (List S107) → S153 → Int → Int → Int → Option (S105 × S153)
 | 0, _, _, _, _, _, _, _ => none
 | k + 1, a1, x1, x5, x6, x7, x8, x9 => (if x9 > 0 then ((spec_l01Below.f x6 4).bind fun x10 => (if (x5.length + ([(⟨x7, x8, (wrap64 (x8 + x10.1))⟩ : S107)] : List S107).length) * 24 ≤ 70368744177664 then ((spec_l01Below.f x10.2 14).bind fun x11 => ((spec_l01Below.f x11.2 (wrap64 (a1.f0 - 1))).bind fun x12 => (if a1.f0 ≠ 0 then ((spec_l02DrawWay.f k x12.2 a1 x7 1).bind fun x13 => (if (x13.1.length : Int) = 1 then (if 0 < (x13.1.length : Int) then (if 0 ≤ (at_ x13.1 0) then (if (at_ x13.1 0) < (a1.f1.length : Int) then ((spec_l02Other.f (at_ a1.f1 (at_ x13.1 0)) x7).bind fun x14 => (spec_l08DrawTrip.l0 k a1 x1 (x5 ++ ([(⟨x7, x8, (wrap64 (x8 + x10.1))⟩ : S107)] : List S107)) x13.2 x14 (wrap64 ((wrap64 ((wrap64 (x8 + x10.1)) + 2)) + x11.1)) (wrap64 (x9 - 1)))) else none) else none) else none) else (spec_l08DrawTrip.l0 k a1 x1 (x5 ++ ([(⟨x7, x8, (wrap64 (x8 + x10.1))⟩ : S107)] : List S107)) x13.2 ((wrap64 ((wrap64 (x7 + 1)) + x12.1)).tmod a1.f0) (wrap64 ((wrap64 ((wrap64 (x8 + x10.1)) + 2)) + x11.1)) (wrap64 (x9 - 1))))) else none))) else none)) else (some ((⟨x1.1, x5⟩ : S105), x6)))
def spec_l08DrawTrip.f (k : Nat) (a0 : S153) (a1 : S131) (a2 : Int) : Option (S105 × S153) := ((spec_l08DrawName.f k a0).bind fun x1 => ((spec_l01Below.f x1.2 a1.f0).bind fun x2 => ((spec_l01Below.f x2.2 120).bind fun x3 => ((spec_l01Below.f x3.2 (wrap64 (a2 - 1))).bind fun x4 => (spec_l08DrawTrip.l0 k a1 x1 ([] : List S107) x4.2 x2.1 x3.1 (wrap64 (2 + x4.1)))))))
end Go.Proofs.Ytjfjifnmfnlfoaa.Fns
