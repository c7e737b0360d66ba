/- The functions that the law FnExactReadTrip reaches, by the engine. Printed by a program of this seat. -/
import Derived.Test.YtjlickinmkafbaaDoorE5
import Derived.Test.YtjlickinmkafbaaDoorProg
import Derived.Shelf.Strings.SplitShaped
import Derived.Shelf.Strings.Shaped
import Derived.Shelf.Strconv.Itoa3
import Derived.Lib.AppendIntMem
namespace Go.Proofs.YtjlickinmkafbaaDoor.Fns
open Go.Proofs.Tryd Go.Proofs.YtjlickinmkafbaaDoor.Eng Go.RowKit
set_option maxRecDepth 100000
set_option linter.unusedVariables false
set_option linter.unusedSimpArgs false
structure S48 where
  f0 : Int
  f1 : Int
  f2 : Int
  deriving Inhabited
def e48 (x : S48) : List V := [I x.f0, I x.f1, I x.f2]
theorem e48_ok : Enc (e48) 3 where
  len := fun _ => rfl
  self := fun x v h H tb bor => by
    simp only [e48, List.mem_cons, List.not_mem_nil, or_false] at h
    rcases h with h | h | h
    · subst h; exact .s
    · subst h; exact .s
    · subst h; exact .s
  cln := fun x v h => by
    simp only [e48, List.mem_cons, List.not_mem_nil, or_false] at h
    rcases h with h | h | h
    · subst h; exact .s
    · subst h; exact .s
    · subst h; exact .s
theorem e48_c {b : Bool} : EncC b e48 := by
  intro x v h
  simp only [e48, List.mem_cons, List.not_mem_nil, or_false] at h
  rcases h with h | h | h
  · subst h; exact .s
  · subst h; exact .s
  · subst h; exact .s
structure S28 where
  f0 : ByteArray
  f1 : (List S48)
  deriving Inhabited
def e28 (t : Bool) (x : S28) : List V := [S x.f0, .sl t x.f1.length 3 (x.f1.flatMap e48)]
theorem e28_ok (t : Bool) : Enc (e28 t) 2 where
  len := fun _ => rfl
  self := fun x v h H tb bor => by
    simp only [e28, List.mem_cons, List.not_mem_nil, or_false] at h
    rcases h with h | h
    · subst h; exact .s
    · subst h; exact frz_sl e48_ok id
  cln := fun x v h => by
    simp only [e28, List.mem_cons, List.not_mem_nil, or_false] at h
    rcases h with h | h
    · subst h; exact .s
    · subst h; exact cln_sl e48_ok
theorem e28_to (x : S28) {H : Nat → Option (List V)} {tb : Bool} {bor : List Nat} : All2 (Frz H tb bor) (e28 false x) (e28 true x) := (a2c .s (a2c (frz_sl e48_ok (fun h => absurd h (by decide))) a2n))
theorem e28_c1 : EncC true (e28 true) := by
  intro x v h
  simp only [e28, List.mem_cons, List.not_mem_nil, or_false] at h
  rcases h with h | h
  · subst h; exact .s
  · subst h; exact clnS e48_c (fun h => rfl)
theorem e28_c0 {b : Bool} : EncC b (e28 false) := by
  intro x v h
  simp only [e28, List.mem_cons, List.not_mem_nil, or_false] at h
  rcases h with h | h
  · subst h; exact .s
  · subst h; exact clnS e48_c (fun h => absurd h (by decide))
/-! spec_l08Split: function 45 -/
def spec_l08Split.l0 : Nat → ByteArray → Int → (List ByteArray) → Int → Int → Option (List ByteArray)
 | 0, _, _, _, _, _ => none
 | k + 1, a0, a1, x1, x2, x3 => (if x3 ≤ (a0.size : Int) then (if x3 = (a0.size : Int) then (if 0 ≤ x2 then (if x2 ≤ x3 then (if (x1.length + ([(a0.extract x2.toNat x3.toNat)] : List ByteArray).length) * 16 ≤ 70368744177664 then (spec_l08Split.l0 k a0 a1 (x1 ++ ([(a0.extract x2.toNat x3.toNat)] : List ByteArray)) (wrap64 (x3 + 1)) (wrap64 (x3 + 1))) else none) else none) else none) else (if 0 ≤ x3 then (if x3 < (a0.size : Int) then (if (bt a0 x3) = a1 then (if 0 ≤ x2 then (if x2 ≤ x3 then (if (x1.length + ([(a0.extract x2.toNat x3.toNat)] : List ByteArray).length) * 16 ≤ 70368744177664 then (spec_l08Split.l0 k a0 a1 (x1 ++ ([(a0.extract x2.toNat x3.toNat)] : List ByteArray)) (wrap64 (x3 + 1)) (wrap64 (x3 + 1))) else none) else none) else none) else (spec_l08Split.l0 k a0 a1 x1 x2 (wrap64 (x3 + 1)))) else none) else none)) else (some x1))
def spec_l08Split.f (k : Nat) (a0 : ByteArray) (a1 : Int) : Option (List ByteArray) := (spec_l08Split.l0 k a0 a1 ([] : List ByteArray) 0 0)
theorem spec_l08Split.lab : ∀ k, (∀ (a0 : ByteArray) (a1 : Int) (x1 : (List ByteArray)) (x2 : Int) (x3 : Int) (r : (List ByteArray)), spec_l08Split.l0 k a0 a1 x1 x2 x3 = some r → J prog (.run 45 [] [l_ 122, b_ 0, c_ 31] [(0, (S a0)), (1, (U a1)), (5, (.rf 512 0 x1.length 1 (x1.length * 1))), (6, (I x2)), (7, (I x3))] [(512, (x1.flatMap encS))] (.rf 512 0 r.length 1 (r.length * 1)) [(512, (r.flatMap encS))]))
 | 0 => (by intro a0 a1 x1 x2 x3 r h; unfold spec_l08Split.l0 at h; cases h)
 | k + 1 => by
  have ih0 := spec_l08Split.lab k
  · intro a0 a1 x1 x2 x3 r h
    unfold spec_l08Split.l0 at h
    refine .loop' [c_ 976, c_ 977, c_ 489, l_ 122, b_ 0, c_ 31] ?_
    refine .reg' [0, 1, 5, 6, 7, 12] [] ⟨[(0, (S a0)), (1, (U a1)), (5, (.rf 512 0 x1.length 1 (x1.length * 1))), (6, (I x2)), (7, (I x3)), (12, (B (decide (x3 ≤ (a0.size : Int)))))], [(512, (x1.flatMap encS))], [], []⟩ [c_ 977, c_ 489, l_ 122, b_ 0, c_ 31] aln nocal ?_
    by_cases c1 : x3 ≤ (a0.size : Int)
    · rw [if_pos c1] at h
      refine .cond' (.tmp 12) true [c_ 3912, c_ 3913, b_ 1, c_ 979, l_ 122, b_ 0, c_ 31] (bT (dT c1)) ?_
      by_cases c2 : x3 = (a0.size : Int)
      · rw [if_pos c2] at h
        refine .reg' [0, 1, 5, 6, 7, 25] [.no, .no, .no, .no, .v (B true)] ⟨[(0, (S a0)), (1, (U a1)), (5, (.rf 512 0 x1.length 1 (x1.length * 1))), (6, (I x2)), (7, (I x3)), (25, (B true))], [(512, (x1.flatMap encS))], [(B (x3 == (a0.size : Int)) : V) = B true], []⟩ [c_ 3913, b_ 1, c_ 979, l_ 122, b_ 0, c_ 31] (alc (bT (qT c2)) aln) nocal ?_
        refine .cond' (.tmp 25) true [c_ 15652, c_ 15653, b_ 1, c_ 979, l_ 122, b_ 0, c_ 31] (rfl) ?_
        by_cases c3 : 0 ≤ x2
        · rw [if_pos c3] at h
          by_cases c4 : x2 ≤ x3
          · rw [if_pos c4] at h
            by_cases c5 : (x1.length + ([(a0.extract x2.toNat x3.toNat)] : List ByteArray).length) * 16 ≤ 70368744177664
            · rw [if_pos c5] at h
              refine .reg' [0, 1, 5, 7] [.no, .no, .no, .no, .no, .no, .w (.rf 512 0 ((x1 ++ ([(a0.extract x2.toNat x3.toNat)] : List ByteArray)).length) 1 ((x1 ++ ([(a0.extract x2.toNat x3.toNat)] : List ByteArray)).length * 1)) ((x1 ++ ([(a0.extract x2.toNat x3.toNat)] : List ByteArray)).flatMap encS)] ⟨[(0, (S a0)), (1, (U a1)), (5, (.rf 512 0 ((x1 ++ ([(a0.extract x2.toNat x3.toNat)] : List ByteArray)).length) 1 ((x1 ++ ([(a0.extract x2.toNat x3.toNat)] : List ByteArray)).length * 1))), (7, (I x3))], [(512, ((x1 ++ ([(a0.extract x2.toNat x3.toNat)] : List ByteArray)).flatMap encS)), (2053, (([(a0.extract x2.toNat x3.toNat)] : List ByteArray).flatMap encS))], [0 ≤ x2 ∧ x2 ≤ x3 ∧ x3 ≤ (a0.size : Int), V.rf 512 0 (x1.length + ([(a0.extract x2.toNat x3.toNat)] : List ByteArray).length) 1 (x1.length * 1 + ([(a0.extract x2.toNat x3.toNat)] : List ByteArray).length * 1) = (.rf 512 0 ((x1 ++ ([(a0.extract x2.toNat x3.toNat)] : List ByteArray)).length) 1 ((x1 ++ ([(a0.extract x2.toNat x3.toNat)] : List ByteArray)).length * 1)), x1.flatMap encS ++ (((([(a0.extract x2.toNat x3.toNat)] : List ByteArray).flatMap encS).drop 0).take (([(a0.extract x2.toNat x3.toNat)] : List ByteArray).length * 1)) = ((x1 ++ ([(a0.extract x2.toNat x3.toNat)] : List ByteArray)).flatMap encS), (([(a0.extract x2.toNat x3.toNat)] : List ByteArray).length * 1 = (([(a0.extract x2.toNat x3.toNat)] : List ByteArray).flatMap encS).length ∧ 0 + ([(a0.extract x2.toNat x3.toNat)] : List ByteArray).length * 1 ≤ (([(a0.extract x2.toNat x3.toNat)] : List ByteArray).flatMap encS).length) ∧ x1.length * 1 = (x1.flatMap encS).length ∧ x1.length * 1 = (x1.flatMap encS).length ∧ (x1.length + ([(a0.extract x2.toNat x3.toNat)] : List ByteArray).length) * 16 ≤ 70368744177664], []⟩ [c_ 15653, b_ 1, c_ 979, l_ 122, b_ 0, c_ 31] (alc ⟨c3, c4, c1⟩ (alc (apV rfl) (alc (apR encS_ok rfl) (alc (apO encS_ok rfl c5 rfl) aln)))) nocal ?_
              refine .reg' [0, 1, 5, 6, 7] [] ⟨[(0, (S a0)), (1, (U a1)), (5, (.rf 512 0 ((x1 ++ ([(a0.extract x2.toNat x3.toNat)] : List ByteArray)).length) 1 ((x1 ++ ([(a0.extract x2.toNat x3.toNat)] : List ByteArray)).length * 1))), (6, (I (wrap64 (x3 + 1)))), (7, (I x3))], [(512, ((x1 ++ ([(a0.extract x2.toNat x3.toNat)] : List ByteArray)).flatMap encS)), (2053, (([(a0.extract x2.toNat x3.toNat)] : List ByteArray).flatMap encS))], [], []⟩ [c_ 979, l_ 122, b_ 0, c_ 31] aln nocal ?_
              refine .reg' [0, 1, 5, 6, 7] [] ⟨[(0, (S a0)), (1, (U a1)), (5, (.rf 512 0 ((x1 ++ ([(a0.extract x2.toNat x3.toNat)] : List ByteArray)).length) 1 ((x1 ++ ([(a0.extract x2.toNat x3.toNat)] : List ByteArray)).length * 1))), (6, (I (wrap64 (x3 + 1)))), (7, (I (wrap64 (x3 + 1))))], [(512, ((x1 ++ ([(a0.extract x2.toNat x3.toNat)] : List ByteArray)).flatMap encS)), (2053, (([(a0.extract x2.toNat x3.toNat)] : List ByteArray).flatMap encS))], [], []⟩ [l_ 122, b_ 0, c_ 31] aln nocal ?_
              refine .wk' [] [(512, 512)] [(0, (S a0)), (1, (U a1)), (5, (.rf 512 0 ((x1 ++ ([(a0.extract x2.toNat x3.toNat)] : List ByteArray)).length) 1 ((x1 ++ ([(a0.extract x2.toNat x3.toNat)] : List ByteArray)).length * 1))), (6, (I (wrap64 (x3 + 1)))), (7, (I (wrap64 (x3 + 1))))] [(512, ((x1 ++ ([(a0.extract x2.toNat x3.toNat)] : List ByteArray)).flatMap encS))] (shc 512 (rowF encS_ok _) shn) (enc_ (.z .s) (enc_ (.z .s) (enc_ (.rf (memP_mem (p := (512, 512)) rfl)) (enc_ (.z .s) (enc_ (.z .s) enn))))) ?_
              exact ih0 a0 a1 (x1 ++ ([(a0.extract x2.toNat x3.toNat)] : List ByteArray)) (wrap64 (x3 + 1)) (wrap64 (x3 + 1)) _ h
            · rw [if_neg c5] at h
              cases h
          · rw [if_neg c4] at h
            cases h
        · rw [if_neg c3] at h
          cases h
      · rw [if_neg c2] at h
        by_cases c6 : 0 ≤ x3
        · rw [if_pos c6] at h
          by_cases c7 : x3 < (a0.size : Int)
          · rw [if_pos c7] at h
            refine .reg' [0, 1, 5, 6, 7, 25] [.no, .no, .no, .no, .v (B false)] ⟨[(0, (S a0)), (1, (U a1)), (5, (.rf 512 0 x1.length 1 (x1.length * 1))), (6, (I x2)), (7, (I x3)), (25, (B ((bt a0 x3) == a1)))], [(512, (x1.flatMap encS))], [(B (x3 == (a0.size : Int)) : V) = B false, (0 : Int) ≤ x3 ∧ x3 < (a0.size : Int)], []⟩ [c_ 3913, b_ 1, c_ 979, l_ 122, b_ 0, c_ 31] (alc (bF (qF c2)) (alc ⟨c6, c7⟩ aln)) nocal ?_
            by_cases c8 : (bt a0 x3) = a1
            · rw [if_pos c8] at h
              refine .cond' (.tmp 25) true [c_ 15652, c_ 15653, b_ 1, c_ 979, l_ 122, b_ 0, c_ 31] (bT (qT c8)) ?_
              by_cases c9 : 0 ≤ x2
              · rw [if_pos c9] at h
                by_cases c10 : x2 ≤ x3
                · rw [if_pos c10] at h
                  by_cases c11 : (x1.length + ([(a0.extract x2.toNat x3.toNat)] : List ByteArray).length) * 16 ≤ 70368744177664
                  · rw [if_pos c11] at h
                    refine .reg' [0, 1, 5, 7] [.no, .no, .no, .no, .no, .no, .w (.rf 512 0 ((x1 ++ ([(a0.extract x2.toNat x3.toNat)] : List ByteArray)).length) 1 ((x1 ++ ([(a0.extract x2.toNat x3.toNat)] : List ByteArray)).length * 1)) ((x1 ++ ([(a0.extract x2.toNat x3.toNat)] : List ByteArray)).flatMap encS)] ⟨[(0, (S a0)), (1, (U a1)), (5, (.rf 512 0 ((x1 ++ ([(a0.extract x2.toNat x3.toNat)] : List ByteArray)).length) 1 ((x1 ++ ([(a0.extract x2.toNat x3.toNat)] : List ByteArray)).length * 1))), (7, (I x3))], [(512, ((x1 ++ ([(a0.extract x2.toNat x3.toNat)] : List ByteArray)).flatMap encS)), (2053, (([(a0.extract x2.toNat x3.toNat)] : List ByteArray).flatMap encS))], [0 ≤ x2 ∧ x2 ≤ x3 ∧ x3 ≤ (a0.size : Int), V.rf 512 0 (x1.length + ([(a0.extract x2.toNat x3.toNat)] : List ByteArray).length) 1 (x1.length * 1 + ([(a0.extract x2.toNat x3.toNat)] : List ByteArray).length * 1) = (.rf 512 0 ((x1 ++ ([(a0.extract x2.toNat x3.toNat)] : List ByteArray)).length) 1 ((x1 ++ ([(a0.extract x2.toNat x3.toNat)] : List ByteArray)).length * 1)), x1.flatMap encS ++ (((([(a0.extract x2.toNat x3.toNat)] : List ByteArray).flatMap encS).drop 0).take (([(a0.extract x2.toNat x3.toNat)] : List ByteArray).length * 1)) = ((x1 ++ ([(a0.extract x2.toNat x3.toNat)] : List ByteArray)).flatMap encS), (([(a0.extract x2.toNat x3.toNat)] : List ByteArray).length * 1 = (([(a0.extract x2.toNat x3.toNat)] : List ByteArray).flatMap encS).length ∧ 0 + ([(a0.extract x2.toNat x3.toNat)] : List ByteArray).length * 1 ≤ (([(a0.extract x2.toNat x3.toNat)] : List ByteArray).flatMap encS).length) ∧ x1.length * 1 = (x1.flatMap encS).length ∧ x1.length * 1 = (x1.flatMap encS).length ∧ (x1.length + ([(a0.extract x2.toNat x3.toNat)] : List ByteArray).length) * 16 ≤ 70368744177664], []⟩ [c_ 15653, b_ 1, c_ 979, l_ 122, b_ 0, c_ 31] (alc ⟨c9, c10, c1⟩ (alc (apV rfl) (alc (apR encS_ok rfl) (alc (apO encS_ok rfl c11 rfl) aln)))) nocal ?_
                    refine .reg' [0, 1, 5, 6, 7] [] ⟨[(0, (S a0)), (1, (U a1)), (5, (.rf 512 0 ((x1 ++ ([(a0.extract x2.toNat x3.toNat)] : List ByteArray)).length) 1 ((x1 ++ ([(a0.extract x2.toNat x3.toNat)] : List ByteArray)).length * 1))), (6, (I (wrap64 (x3 + 1)))), (7, (I x3))], [(512, ((x1 ++ ([(a0.extract x2.toNat x3.toNat)] : List ByteArray)).flatMap encS)), (2053, (([(a0.extract x2.toNat x3.toNat)] : List ByteArray).flatMap encS))], [], []⟩ [c_ 979, l_ 122, b_ 0, c_ 31] aln nocal ?_
                    refine .reg' [0, 1, 5, 6, 7] [] ⟨[(0, (S a0)), (1, (U a1)), (5, (.rf 512 0 ((x1 ++ ([(a0.extract x2.toNat x3.toNat)] : List ByteArray)).length) 1 ((x1 ++ ([(a0.extract x2.toNat x3.toNat)] : List ByteArray)).length * 1))), (6, (I (wrap64 (x3 + 1)))), (7, (I (wrap64 (x3 + 1))))], [(512, ((x1 ++ ([(a0.extract x2.toNat x3.toNat)] : List ByteArray)).flatMap encS)), (2053, (([(a0.extract x2.toNat x3.toNat)] : List ByteArray).flatMap encS))], [], []⟩ [l_ 122, b_ 0, c_ 31] aln nocal ?_
                    refine .wk' [] [(512, 512)] [(0, (S a0)), (1, (U a1)), (5, (.rf 512 0 ((x1 ++ ([(a0.extract x2.toNat x3.toNat)] : List ByteArray)).length) 1 ((x1 ++ ([(a0.extract x2.toNat x3.toNat)] : List ByteArray)).length * 1))), (6, (I (wrap64 (x3 + 1)))), (7, (I (wrap64 (x3 + 1))))] [(512, ((x1 ++ ([(a0.extract x2.toNat x3.toNat)] : List ByteArray)).flatMap encS))] (shc 512 (rowF encS_ok _) shn) (enc_ (.z .s) (enc_ (.z .s) (enc_ (.rf (memP_mem (p := (512, 512)) rfl)) (enc_ (.z .s) (enc_ (.z .s) enn))))) ?_
                    exact ih0 a0 a1 (x1 ++ ([(a0.extract x2.toNat x3.toNat)] : List ByteArray)) (wrap64 (x3 + 1)) (wrap64 (x3 + 1)) _ h
                  · rw [if_neg c11] at h
                    cases h
                · rw [if_neg c10] at h
                  cases h
              · rw [if_neg c9] at h
                cases h
            · rw [if_neg c8] at h
              refine .cond' (.tmp 25) false [c_ 979, l_ 122, b_ 0, c_ 31] (bF (qF c8)) ?_
              refine .reg' [0, 1, 5, 6, 7] [] ⟨[(0, (S a0)), (1, (U a1)), (5, (.rf 512 0 x1.length 1 (x1.length * 1))), (6, (I x2)), (7, (I (wrap64 (x3 + 1))))], [(512, (x1.flatMap encS))], [], []⟩ [l_ 122, b_ 0, c_ 31] aln nocal ?_
              exact ih0 a0 a1 x1 x2 (wrap64 (x3 + 1)) _ h
          · rw [if_neg c7] at h
            cases h
        · rw [if_neg c6] at h
          cases h
    · rw [if_neg c1] at h
      refine .cond' (.tmp 12) false [c_ 62, c_ 63] (bF (dF c1)) ?_
      refine .reg' [4] [] ⟨[(4, (.rf 512 0 x1.length 1 (x1.length * 1)))], [(512, (x1.flatMap encS))], [], []⟩ [c_ 63] aln nocal ?_
      have h := Option.some.inj h
      subst h
      exact .fin' [] [(512, 512)] (.rf 512 0 x1.length 1 (x1.length * 1)) [] aln (shc 512 (rowF encS_ok _) shn) (.rf (memP_mem (p := (512, 512)) rfl))
theorem spec_l08Split.J (k : Nat) (a0 : ByteArray) (a1 : Int) (r : (List ByteArray)) (h : spec_l08Split.f k a0 a1 = some r) : J prog (.call 45 [(S a0), (U a1)] [] (.rf 512 0 r.length 1 (r.length * 1)) [(512, (r.flatMap encS))]) := by
  unfold spec_l08Split.f at h
  have ih0 := spec_l08Split.lab k
  refine .call' [c_ 2, c_ 3] ?_
  refine .reg' [0, 1] [] ⟨[(0, (S a0)), (1, (U a1))], [], [], []⟩ [c_ 6, c_ 7] aln nocal ?_
  refine .reg' [0, 1, 5] [] ⟨[(0, (S a0)), (1, (U a1)), (5, (.rf 512 0 (([] : List ByteArray).length) 1 (([] : List ByteArray).length * 1)))], [(512, (([] : List ByteArray).flatMap encS))], [], []⟩ [c_ 14, c_ 15] aln nocal ?_
  refine .reg' [0, 1, 5, 6] [] ⟨[(0, (S a0)), (1, (U a1)), (5, (.rf 512 0 (([] : List ByteArray).length) 1 (([] : List ByteArray).length * 1))), (6, (I 0))], [(512, (([] : List ByteArray).flatMap encS))], [], []⟩ [c_ 60, c_ 61, c_ 31] aln nocal ?_
  refine .reg' [0, 1, 5, 6, 7] [] ⟨[(0, (S a0)), (1, (U a1)), (5, (.rf 512 0 (([] : List ByteArray).length) 1 (([] : List ByteArray).length * 1))), (6, (I 0)), (7, (I 0))], [(512, (([] : List ByteArray).flatMap encS))], [], []⟩ [l_ 122, b_ 0, c_ 31] aln nocal ?_
  exact ih0 a0 a1 ([] : List ByteArray) 0 0 _ h
/-! spec_l01Num: function 32 -/
def spec_l01Num.l0 : Nat → Int → Int → ByteArray → Option ByteArray
 | 0, _, _, _ => none
 | k + 1, a0, x1, x2 => (if x1 = 0 then (if a0 < 0 then (if (⟨#[45]⟩ : ByteArray).size + x2.size ≤ 9223372036854775807 then (some ((⟨#[45]⟩ : ByteArray) ++ x2)) else none) else (some x2)) else (if (x1.tmod (10 : Int)) < 0 then (if (⟨#[UInt8.ofNat (IntKind.u8.wrap (wrap64 (48 + (wrap64 (-(x1.tmod (10 : Int))))))).toNat]⟩ : ByteArray).size + x2.size ≤ 9223372036854775807 then (spec_l01Num.l0 k a0 (wrap64 (x1.tdiv (10 : Int))) ((⟨#[UInt8.ofNat (IntKind.u8.wrap (wrap64 (48 + (wrap64 (-(x1.tmod (10 : Int))))))).toNat]⟩ : ByteArray) ++ x2)) else none) else (if (⟨#[UInt8.ofNat (IntKind.u8.wrap (wrap64 (48 + (x1.tmod (10 : Int))))).toNat]⟩ : ByteArray).size + x2.size ≤ 9223372036854775807 then (spec_l01Num.l0 k a0 (wrap64 (x1.tdiv (10 : Int))) ((⟨#[UInt8.ofNat (IntKind.u8.wrap (wrap64 (48 + (x1.tmod (10 : Int))))).toNat]⟩ : ByteArray) ++ x2)) else none)))
def spec_l01Num.f (k : Nat) (a0 : Int) : Option ByteArray := (if a0 = 0 then (some (⟨#[48]⟩ : ByteArray)) else (spec_l01Num.l0 k a0 a0 (⟨#[]⟩ : ByteArray)))
theorem spec_l01Num.lab : ∀ k, (∀ (a0 : Int) (x1 : Int) (x2 : ByteArray) (r : ByteArray), spec_l01Num.l0 k a0 x1 x2 = some r → J prog (.run 32 [] [l_ 124, b_ 0, c_ 63] [(0, (I x1)), (3, (S x2)), (4, (B (decide (a0 < 0))))] [] (S r) []))
 | 0 => (by intro a0 x1 x2 r h; unfold spec_l01Num.l0 at h; cases h)
 | k + 1 => by
  have ih0 := spec_l01Num.lab k
  · intro a0 x1 x2 r h
    unfold spec_l01Num.l0 at h
    refine .loop' [c_ 992, c_ 993, c_ 497, l_ 124, b_ 0, c_ 63] ?_
    refine .reg' [0, 3, 4, 11] [] ⟨[(0, (I x1)), (3, (S x2)), (4, (B (decide (a0 < 0)))), (11, (B (!(x1 == 0))))], [], [], []⟩ [c_ 993, c_ 497, l_ 124, b_ 0, c_ 63] aln nocal ?_
    by_cases c2 : x1 = 0
    · rw [if_pos c2] at h
      refine .cond' (.tmp 11) false [c_ 252, c_ 253, c_ 127] (bF (nF (qT c2))) ?_
      refine .reg' [3, 27] [] ⟨[(3, (S x2)), (27, (B (decide (a0 < 0))))], [], [], []⟩ [c_ 253, c_ 127] aln nocal ?_
      by_cases c3 : a0 < 0
      · rw [if_pos c3] at h
        refine .cond' (.tmp 27) true [c_ 1012, c_ 1013, c_ 127] (bT (dT c3)) ?_
        by_cases c4 : (⟨#[45]⟩ : ByteArray).size + x2.size ≤ 9223372036854775807
        · rw [if_pos c4] at h
          refine .reg' [2] [] ⟨[(2, (S ((⟨#[45]⟩ : ByteArray) ++ x2)))], [], [(⟨#[45]⟩ : ByteArray).size + x2.size ≤ 9223372036854775807], []⟩ [c_ 1013, c_ 127] (alc c4 aln) nocal ?_
          have h := Option.some.inj h
          subst h
          exact .fin0 [] (S ((⟨#[45]⟩ : ByteArray) ++ x2)) [] aln (.z .s)
        · rw [if_neg c4] at h
          cases h
      · rw [if_neg c3] at h
        refine .cond' (.tmp 27) false [c_ 254, c_ 255] (bF (dF c3)) ?_
        refine .reg' [2] [] ⟨[(2, (S x2))], [], [], []⟩ [c_ 255] aln nocal ?_
        have h := Option.some.inj h
        subst h
        exact .fin0 [] (S x2) [] aln (.z .s)
    · rw [if_neg c2] at h
      refine .cond' (.tmp 11) true [c_ 1988, c_ 1989, b_ 1, l_ 124, b_ 0, c_ 63] (bT (nT (qF c2))) ?_
      refine .reg' [0, 3, 4, 5] [] ⟨[(0, (I x1)), (3, (S x2)), (4, (B (decide (a0 < 0)))), (5, (I (x1.tmod (10 : Int))))], [], [(10 : Int) ≠ 0], []⟩ [c_ 7956, c_ 7957, c_ 3979, b_ 1, l_ 124, b_ 0, c_ 63] (alc (by decide) aln) nocal ?_
      refine .reg' [0, 3, 4, 5, 15] [] ⟨[(0, (I x1)), (3, (S x2)), (4, (B (decide (a0 < 0)))), (5, (I (x1.tmod (10 : Int)))), (15, (B (decide ((x1.tmod (10 : Int)) < 0))))], [], [], []⟩ [c_ 7957, c_ 3979, b_ 1, l_ 124, b_ 0, c_ 63] aln nocal ?_
      by_cases c5 : (x1.tmod (10 : Int)) < 0
      · rw [if_pos c5] at h
        refine .cond' (.tmp 15) true [c_ 15914, c_ 3979, b_ 1, l_ 124, b_ 0, c_ 63] (bT (dT c5)) ?_
        refine .reg' [0, 3, 4, 5] [.no, .v (I (wrap64 (-(x1.tmod (10 : Int)))))] ⟨[(0, (I x1)), (3, (S x2)), (4, (B (decide (a0 < 0)))), (5, (I (wrap64 (-(x1.tmod (10 : Int))))))], [], [(I (IntKind.i64.wrap (0 - (x1.tmod (10 : Int)))) : V) = I (wrap64 (-(x1.tmod (10 : Int))))], []⟩ [c_ 7958, c_ 7959, b_ 1, l_ 124, b_ 0, c_ 63] (alc (negI _) aln) nocal ?_
        by_cases c6 : (⟨#[UInt8.ofNat (IntKind.u8.wrap (wrap64 (48 + (wrap64 (-(x1.tmod (10 : Int))))))).toNat]⟩ : ByteArray).size + x2.size ≤ 9223372036854775807
        · rw [if_pos c6] at h
          refine .reg' [0, 3, 4] [] ⟨[(0, (I x1)), (3, (S ((⟨#[UInt8.ofNat (IntKind.u8.wrap (wrap64 (48 + (wrap64 (-(x1.tmod (10 : Int))))))).toNat]⟩ : ByteArray) ++ x2))), (4, (B (decide (a0 < 0))))], [(2563, (([(IntKind.u8.wrap (wrap64 (48 + (wrap64 (-(x1.tmod (10 : Int)))))))] : List Int).flatMap encU))], [([(IntKind.u8.wrap (wrap64 (48 + (wrap64 (-(x1.tmod (10 : Int)))))))] : List Int).length * 1 = (([(IntKind.u8.wrap (wrap64 (48 + (wrap64 (-(x1.tmod (10 : Int)))))))] : List Int).flatMap encU).length ∧ 0 + ([(IntKind.u8.wrap (wrap64 (48 + (wrap64 (-(x1.tmod (10 : Int)))))))] : List Int).length ≤ (([(IntKind.u8.wrap (wrap64 (48 + (wrap64 (-(x1.tmod (10 : Int)))))))] : List Int).flatMap encU).length, (⟨#[UInt8.ofNat (IntKind.u8.wrap (wrap64 (48 + (wrap64 (-(x1.tmod (10 : Int))))))).toNat]⟩ : ByteArray).size + x2.size ≤ 9223372036854775807], []⟩ [c_ 7959, b_ 1, l_ 124, b_ 0, c_ 63] (alc ⟨rfl, Nat.le_of_ble_eq_true rfl⟩ (alc c6 aln)) nocal ?_
          refine .reg' [0, 3, 4] [] ⟨[(0, (I (wrap64 (x1.tdiv (10 : Int))))), (3, (S ((⟨#[UInt8.ofNat (IntKind.u8.wrap (wrap64 (48 + (wrap64 (-(x1.tmod (10 : Int))))))).toNat]⟩ : ByteArray) ++ x2))), (4, (B (decide (a0 < 0))))], [(2563, (([(IntKind.u8.wrap (wrap64 (48 + (wrap64 (-(x1.tmod (10 : Int)))))))] : List Int).flatMap encU))], [(10 : Int) ≠ 0], []⟩ [l_ 124, b_ 0, c_ 63] (alc (by decide) aln) nocal ?_
          refine .wk' [] [] [(0, (I (wrap64 (x1.tdiv (10 : Int))))), (3, (S ((⟨#[UInt8.ofNat (IntKind.u8.wrap (wrap64 (48 + (wrap64 (-(x1.tmod (10 : Int))))))).toNat]⟩ : ByteArray) ++ x2))), (4, (B (decide (a0 < 0))))] [] shn (enc_ (.z .s) (enc_ (.z .s) (enc_ (.z .s) enn))) ?_
          exact ih0 a0 (wrap64 (x1.tdiv (10 : Int))) ((⟨#[UInt8.ofNat (IntKind.u8.wrap (wrap64 (48 + (wrap64 (-(x1.tmod (10 : Int))))))).toNat]⟩ : ByteArray) ++ x2) _ h
        · rw [if_neg c6] at h
          cases h
      · rw [if_neg c5] at h
        refine .cond' (.tmp 15) false [c_ 7958, c_ 7959, b_ 1, l_ 124, b_ 0, c_ 63] (bF (dF c5)) ?_
        by_cases c7 : (⟨#[UInt8.ofNat (IntKind.u8.wrap (wrap64 (48 + (x1.tmod (10 : Int))))).toNat]⟩ : ByteArray).size + x2.size ≤ 9223372036854775807
        · rw [if_pos c7] at h
          refine .reg' [0, 3, 4] [] ⟨[(0, (I x1)), (3, (S ((⟨#[UInt8.ofNat (IntKind.u8.wrap (wrap64 (48 + (x1.tmod (10 : Int))))).toNat]⟩ : ByteArray) ++ x2))), (4, (B (decide (a0 < 0))))], [(2563, (([(IntKind.u8.wrap (wrap64 (48 + (x1.tmod (10 : Int)))))] : List Int).flatMap encU))], [([(IntKind.u8.wrap (wrap64 (48 + (x1.tmod (10 : Int)))))] : List Int).length * 1 = (([(IntKind.u8.wrap (wrap64 (48 + (x1.tmod (10 : Int)))))] : List Int).flatMap encU).length ∧ 0 + ([(IntKind.u8.wrap (wrap64 (48 + (x1.tmod (10 : Int)))))] : List Int).length ≤ (([(IntKind.u8.wrap (wrap64 (48 + (x1.tmod (10 : Int)))))] : List Int).flatMap encU).length, (⟨#[UInt8.ofNat (IntKind.u8.wrap (wrap64 (48 + (x1.tmod (10 : Int))))).toNat]⟩ : ByteArray).size + x2.size ≤ 9223372036854775807], []⟩ [c_ 7959, b_ 1, l_ 124, b_ 0, c_ 63] (alc ⟨rfl, Nat.le_of_ble_eq_true rfl⟩ (alc c7 aln)) nocal ?_
          refine .reg' [0, 3, 4] [] ⟨[(0, (I (wrap64 (x1.tdiv (10 : Int))))), (3, (S ((⟨#[UInt8.ofNat (IntKind.u8.wrap (wrap64 (48 + (x1.tmod (10 : Int))))).toNat]⟩ : ByteArray) ++ x2))), (4, (B (decide (a0 < 0))))], [(2563, (([(IntKind.u8.wrap (wrap64 (48 + (x1.tmod (10 : Int)))))] : List Int).flatMap encU))], [(10 : Int) ≠ 0], []⟩ [l_ 124, b_ 0, c_ 63] (alc (by decide) aln) nocal ?_
          refine .wk' [] [] [(0, (I (wrap64 (x1.tdiv (10 : Int))))), (3, (S ((⟨#[UInt8.ofNat (IntKind.u8.wrap (wrap64 (48 + (x1.tmod (10 : Int))))).toNat]⟩ : ByteArray) ++ x2))), (4, (B (decide (a0 < 0))))] [] shn (enc_ (.z .s) (enc_ (.z .s) (enc_ (.z .s) enn))) ?_
          exact ih0 a0 (wrap64 (x1.tdiv (10 : Int))) ((⟨#[UInt8.ofNat (IntKind.u8.wrap (wrap64 (48 + (x1.tmod (10 : Int))))).toNat]⟩ : ByteArray) ++ x2) _ h
        · rw [if_neg c7] at h
          cases h
theorem spec_l01Num.J (k : Nat) (a0 : Int) (r : ByteArray) (h : spec_l01Num.f k a0 = some r) : J prog (.call 32 [(I a0)] [] (S r) []) := by
  unfold spec_l01Num.f at h
  have ih0 := spec_l01Num.lab k
  refine .call' [c_ 2, c_ 3] ?_
  refine .reg' [0] [] ⟨[(0, (I a0))], [], [], []⟩ [c_ 12, c_ 13, c_ 7] aln nocal ?_
  refine .reg' [0, 7] [] ⟨[(0, (I a0)), (7, (B (a0 == 0)))], [], [], []⟩ [c_ 13, c_ 7] aln nocal ?_
  by_cases c1 : a0 = 0
  · rw [if_pos c1] at h
    refine .cond' (.tmp 7) true [c_ 52, c_ 53, c_ 7] (bT (qT c1)) ?_
    refine .reg' [2] [] ⟨[(2, (S (⟨#[48]⟩ : ByteArray)))], [], [], []⟩ [c_ 53, c_ 7] aln nocal ?_
    have h := Option.some.inj h
    subst h
    exact .fin0 [] (S (⟨#[48]⟩ : ByteArray)) [] aln (.z .s)
  · rw [if_neg c1] at h
    refine .cond' (.tmp 7) false [c_ 14, c_ 15] (bF (qF c1)) ?_
    refine .reg' [0, 3] [] ⟨[(0, (I a0)), (3, (S (⟨#[]⟩ : ByteArray)))], [], [], []⟩ [c_ 30, c_ 31] aln nocal ?_
    refine .reg' [0, 3, 4] [] ⟨[(0, (I a0)), (3, (S (⟨#[]⟩ : ByteArray))), (4, (B (decide (a0 < 0))))], [], [], []⟩ [l_ 124, b_ 0, c_ 63] aln nocal ?_
    exact ih0 a0 a0 (⟨#[]⟩ : ByteArray) _ h
/-! spec_l08Number: function 46 -/
def spec_l08Number.l0 : Nat → ByteArray → Int → Int → Option Int
 | 0, _, _, _ => none
 | k + 1, a0, x1, x2 => (if x2 < (a0.size : Int) then (if x2 < 8 then (if 0 ≤ x2 then (if (bt a0 x2) < 48 then (some (-1)) else (if (bt a0 x2) > 57 then (some (-1)) else (spec_l08Number.l0 k a0 (wrap64 ((wrap64 ((wrap64 (x1 * 10)) + (IntKind.i64.wrap (bt a0 x2)))) - 48)) (wrap64 (x2 + 1))))) else none) else (if (a0.size : Int) = 0 then (some (-1)) else (if (a0.size : Int) > 8 then (some (-1)) else ((spec_l01Num.f k x1).bind fun x3 => (if (sEq x3 a0) = true then (some x1) else (some (-1))))))) else (if (a0.size : Int) = 0 then (some (-1)) else (if (a0.size : Int) > 8 then (some (-1)) else ((spec_l01Num.f k x1).bind fun x4 => (if (sEq x4 a0) = true then (some x1) else (some (-1)))))))
def spec_l08Number.f (k : Nat) (a0 : ByteArray) : Option Int := (spec_l08Number.l0 k a0 0 0)
theorem spec_l08Number.lab : ∀ k, (∀ (a0 : ByteArray) (x1 : Int) (x2 : Int) (r : Int), spec_l08Number.l0 k a0 x1 x2 = some r → J prog (.run 46 [] [l_ 58, b_ 0, c_ 15] [(0, (S a0)), (3, (I x1)), (4, (I x2))] [] (I r) []))
 | 0 => (by intro a0 x1 x2 r h; unfold spec_l08Number.l0 at h; cases h)
 | k + 1 => by
  have ih0 := spec_l08Number.lab k
  · intro a0 x1 x2 r h
    unfold spec_l08Number.l0 at h
    refine .loop' [c_ 464, c_ 465, c_ 233, l_ 58, b_ 0, c_ 15] ?_
    by_cases c1 : x2 < (a0.size : Int)
    · rw [if_pos c1] at h
      refine .reg' [0, 3, 4, 12] [.no, .no, .no, .no, .v (B true)] ⟨[(0, (S a0)), (3, (I x1)), (4, (I x2)), (12, (B (decide (x2 < 8))))], [], [(B (decide (x2 < (a0.size : Int))) : V) = B true], []⟩ [c_ 465, c_ 233, l_ 58, b_ 0, c_ 15] (alc (bT (dT c1)) aln) nocal ?_
      by_cases c2 : x2 < 8
      · rw [if_pos c2] at h
        refine .cond' (.tmp 12) true [c_ 3728, c_ 3729, c_ 1865, b_ 1, c_ 467, l_ 58, b_ 0, c_ 15] (bT (dT c2)) ?_
        by_cases c3 : 0 ≤ x2
        · rw [if_pos c3] at h
          by_cases c4 : (bt a0 x2) < 48
          · rw [if_pos c4] at h
            refine .reg' [0, 3, 4, 24] [.no, .no, .no, .no, .v (B true)] ⟨[(0, (S a0)), (3, (I x1)), (4, (I x2)), (24, (B true))], [], [(0 : Int) ≤ x2 ∧ x2 < (a0.size : Int), (B (decide ((bt a0 x2) < 48)) : V) = B true], []⟩ [c_ 3729, c_ 1865, b_ 1, c_ 467, l_ 58, b_ 0, c_ 15] (alc ⟨c3, c1⟩ (alc (bT (dT c4)) aln)) nocal ?_
            refine .cond' (.tmp 24) true [c_ 14916, c_ 14917, c_ 1865, b_ 1, c_ 467, l_ 58, b_ 0, c_ 15] (rfl) ?_
            refine .reg' [2] [] ⟨[(2, (I (-1)))], [], [], []⟩ [c_ 14917, c_ 1865, b_ 1, c_ 467, l_ 58, b_ 0, c_ 15] aln nocal ?_
            have h := Option.some.inj h
            subst h
            exact .fin0 [] (I (-1)) [] aln (.z .s)
          · rw [if_neg c4] at h
            refine .reg' [0, 3, 4, 24] [.no, .no, .no, .no, .v (B false)] ⟨[(0, (S a0)), (3, (I x1)), (4, (I x2)), (24, (B (decide ((bt a0 x2) > 57))))], [], [(0 : Int) ≤ x2 ∧ x2 < (a0.size : Int), (B (decide ((bt a0 x2) < 48)) : V) = B false, (0 : Int) ≤ x2 ∧ x2 < (a0.size : Int)], []⟩ [c_ 3729, c_ 1865, b_ 1, c_ 467, l_ 58, b_ 0, c_ 15] (alc ⟨c3, c1⟩ (alc (bF (dF c4)) (alc ⟨c3, c1⟩ aln))) nocal ?_
            by_cases c5 : (bt a0 x2) > 57
            · rw [if_pos c5] at h
              refine .cond' (.tmp 24) true [c_ 14916, c_ 14917, c_ 1865, b_ 1, c_ 467, l_ 58, b_ 0, c_ 15] (bT (dT c5)) ?_
              refine .reg' [2] [] ⟨[(2, (I (-1)))], [], [], []⟩ [c_ 14917, c_ 1865, b_ 1, c_ 467, l_ 58, b_ 0, c_ 15] aln nocal ?_
              have h := Option.some.inj h
              subst h
              exact .fin0 [] (I (-1)) [] aln (.z .s)
            · rw [if_neg c5] at h
              refine .cond' (.tmp 24) false [c_ 1865, b_ 1, c_ 467, l_ 58, b_ 0, c_ 15] (bF (dF c5)) ?_
              refine .reg' [0, 3, 4] [] ⟨[(0, (S a0)), (3, (I (wrap64 ((wrap64 ((wrap64 (x1 * 10)) + (IntKind.i64.wrap (bt a0 x2)))) - 48)))), (4, (I x2))], [], [(0 : Int) ≤ x2 ∧ x2 < (a0.size : Int)], []⟩ [c_ 467, l_ 58, b_ 0, c_ 15] (alc ⟨c3, c1⟩ aln) nocal ?_
              refine .reg' [0, 3, 4] [] ⟨[(0, (S a0)), (3, (I (wrap64 ((wrap64 ((wrap64 (x1 * 10)) + (IntKind.i64.wrap (bt a0 x2)))) - 48)))), (4, (I (wrap64 (x2 + 1))))], [], [], []⟩ [l_ 58, b_ 0, c_ 15] aln nocal ?_
              exact ih0 a0 (wrap64 ((wrap64 ((wrap64 (x1 * 10)) + (IntKind.i64.wrap (bt a0 x2)))) - 48)) (wrap64 (x2 + 1)) _ h
        · rw [if_neg c3] at h
          cases h
      · rw [if_neg c2] at h
        refine .cond' (.tmp 12) false [c_ 60, c_ 61, c_ 31] (bF (dF c2)) ?_
        by_cases c6 : (a0.size : Int) = 0
        · rw [if_pos c6] at h
          refine .reg' [3, 46] [.no, .no, .no, .v (B true)] ⟨[(3, (I x1)), (46, (B true))], [], [(B ((a0.size : Int) == 0) : V) = B true], []⟩ [c_ 61, c_ 31] (alc (bT (qT c6)) aln) nocal ?_
          refine .cond' (.tmp 46) true [c_ 244, c_ 245, c_ 31] (rfl) ?_
          refine .reg' [2] [] ⟨[(2, (I (-1)))], [], [], []⟩ [c_ 245, c_ 31] aln nocal ?_
          have h := Option.some.inj h
          subst h
          exact .fin0 [] (I (-1)) [] aln (.z .s)
        · rw [if_neg c6] at h
          by_cases c7 : (a0.size : Int) > 8
          · rw [if_pos c7] at h
            refine .reg' [3, 46] [.no, .no, .no, .v (B false), .no, .no, .no, .no, .v (B true)] ⟨[(3, (I x1)), (46, (B true))], [], [(B ((a0.size : Int) == 0) : V) = B false, (B (decide ((a0.size : Int) > 8)) : V) = B true], []⟩ [c_ 61, c_ 31] (alc (bF (qF c6)) (alc (bT (dT c7)) aln)) nocal ?_
            refine .cond' (.tmp 46) true [c_ 244, c_ 245, c_ 31] (rfl) ?_
            refine .reg' [2] [] ⟨[(2, (I (-1)))], [], [], []⟩ [c_ 245, c_ 31] aln nocal ?_
            have h := Option.some.inj h
            subst h
            exact .fin0 [] (I (-1)) [] aln (.z .s)
          · rw [if_neg c7] at h
            obtain ⟨x3, hx3, h⟩ := Option.bind_eq_some_iff.mp h
            refine .reg' [3, 46] [.no, .no, .no, .v (B false), .no, .no, .no, .no, .v (B false), .no, .c ⟨32, [(I x1)], [], (S x3), [], [], [], [], (S x3), []⟩] ⟨[(3, (I x1)), (46, (B (!(sEq x3 a0))))], [], [(B ((a0.size : Int) == 0) : V) = B false, (B (decide ((a0.size : Int) > 8)) : V) = B false, COK (hget []) [(I x1)] ⟨32, [(I x1)], [], (S x3), [], [], [], [], (S x3), []⟩], [⟨32, [(I x1)], [], (S x3), [], [], [], [], (S x3), []⟩]⟩ [c_ 61, c_ 31] (alc (bF (qF c6)) (alc (bF (dF c7)) (alc (cok0 false (a2c (.z .s) a2n) (.z .s) (fun h => absurd h (by decide))) aln))) (acal (spec_l01Num.J k x1 _ hx3) nocal) ?_
            by_cases c8 : (sEq x3 a0) = true
            · rw [if_pos c8] at h
              refine .cond' (.tmp 46) false [c_ 62, c_ 63] (bF (nF c8)) ?_
              refine .reg' [2] [] ⟨[(2, (I x1))], [], [], []⟩ [c_ 63] aln nocal ?_
              have h := Option.some.inj h
              subst h
              exact .fin0 [] (I x1) [] aln (.z .s)
            · rw [if_neg c8] at h
              refine .cond' (.tmp 46) true [c_ 244, c_ 245, c_ 31] (bT (nT (vF c8))) ?_
              refine .reg' [2] [] ⟨[(2, (I (-1)))], [], [], []⟩ [c_ 245, c_ 31] aln nocal ?_
              have h := Option.some.inj h
              subst h
              exact .fin0 [] (I (-1)) [] aln (.z .s)
    · rw [if_neg c1] at h
      refine .reg' [0, 3, 4, 12] [.no, .no, .no, .no, .v (B false)] ⟨[(0, (S a0)), (3, (I x1)), (4, (I x2)), (12, (B false))], [], [(B (decide (x2 < (a0.size : Int))) : V) = B false], []⟩ [c_ 465, c_ 233, l_ 58, b_ 0, c_ 15] (alc (bF (dF c1)) aln) nocal ?_
      refine .cond' (.tmp 12) false [c_ 60, c_ 61, c_ 31] (rfl) ?_
      by_cases c9 : (a0.size : Int) = 0
      · rw [if_pos c9] at h
        refine .reg' [3, 46] [.no, .no, .no, .v (B true)] ⟨[(3, (I x1)), (46, (B true))], [], [(B ((a0.size : Int) == 0) : V) = B true], []⟩ [c_ 61, c_ 31] (alc (bT (qT c9)) aln) nocal ?_
        refine .cond' (.tmp 46) true [c_ 244, c_ 245, c_ 31] (rfl) ?_
        refine .reg' [2] [] ⟨[(2, (I (-1)))], [], [], []⟩ [c_ 245, c_ 31] aln nocal ?_
        have h := Option.some.inj h
        subst h
        exact .fin0 [] (I (-1)) [] aln (.z .s)
      · rw [if_neg c9] at h
        by_cases c10 : (a0.size : Int) > 8
        · rw [if_pos c10] at h
          refine .reg' [3, 46] [.no, .no, .no, .v (B false), .no, .no, .no, .no, .v (B true)] ⟨[(3, (I x1)), (46, (B true))], [], [(B ((a0.size : Int) == 0) : V) = B false, (B (decide ((a0.size : Int) > 8)) : V) = B true], []⟩ [c_ 61, c_ 31] (alc (bF (qF c9)) (alc (bT (dT c10)) aln)) nocal ?_
          refine .cond' (.tmp 46) true [c_ 244, c_ 245, c_ 31] (rfl) ?_
          refine .reg' [2] [] ⟨[(2, (I (-1)))], [], [], []⟩ [c_ 245, c_ 31] aln nocal ?_
          have h := Option.some.inj h
          subst h
          exact .fin0 [] (I (-1)) [] aln (.z .s)
        · rw [if_neg c10] at h
          obtain ⟨x4, hx4, h⟩ := Option.bind_eq_some_iff.mp h
          refine .reg' [3, 46] [.no, .no, .no, .v (B false), .no, .no, .no, .no, .v (B false), .no, .c ⟨32, [(I x1)], [], (S x4), [], [], [], [], (S x4), []⟩] ⟨[(3, (I x1)), (46, (B (!(sEq x4 a0))))], [], [(B ((a0.size : Int) == 0) : V) = B false, (B (decide ((a0.size : Int) > 8)) : V) = B false, COK (hget []) [(I x1)] ⟨32, [(I x1)], [], (S x4), [], [], [], [], (S x4), []⟩], [⟨32, [(I x1)], [], (S x4), [], [], [], [], (S x4), []⟩]⟩ [c_ 61, c_ 31] (alc (bF (qF c9)) (alc (bF (dF c10)) (alc (cok0 false (a2c (.z .s) a2n) (.z .s) (fun h => absurd h (by decide))) aln))) (acal (spec_l01Num.J k x1 _ hx4) nocal) ?_
          by_cases c11 : (sEq x4 a0) = true
          · rw [if_pos c11] at h
            refine .cond' (.tmp 46) false [c_ 62, c_ 63] (bF (nF c11)) ?_
            refine .reg' [2] [] ⟨[(2, (I x1))], [], [], []⟩ [c_ 63] aln nocal ?_
            have h := Option.some.inj h
            subst h
            exact .fin0 [] (I x1) [] aln (.z .s)
          · rw [if_neg c11] at h
            refine .cond' (.tmp 46) true [c_ 244, c_ 245, c_ 31] (bT (nT (vF c11))) ?_
            refine .reg' [2] [] ⟨[(2, (I (-1)))], [], [], []⟩ [c_ 245, c_ 31] aln nocal ?_
            have h := Option.some.inj h
            subst h
            exact .fin0 [] (I (-1)) [] aln (.z .s)
theorem spec_l08Number.J (k : Nat) (a0 : ByteArray) (r : Int) (h : spec_l08Number.f k a0 = some r) : J prog (.call 46 [(S a0)] [] (I r) []) := by
  unfold spec_l08Number.f at h
  have ih0 := spec_l08Number.lab k
  refine .call' [c_ 2, c_ 3] ?_
  refine .reg' [0] [] ⟨[(0, (S a0))], [], [], []⟩ [c_ 6, c_ 7] aln nocal ?_
  refine .reg' [0, 3] [] ⟨[(0, (S a0)), (3, (I 0))], [], [], []⟩ [c_ 28, c_ 29, c_ 15] aln nocal ?_
  refine .reg' [0, 3, 4] [] ⟨[(0, (S a0)), (3, (I 0)), (4, (I 0))], [], [], []⟩ [l_ 58, b_ 0, c_ 15] aln nocal ?_
  exact ih0 a0 0 0 _ h
/-! spec_l01In: function 38 -/
def spec_l01In.f (a0 : Int) (a1 : Int) (a2 : Int) : Option Bool := (if a1 ≤ a0 then (some (decide (a0 ≤ a2))) else (some false))
theorem spec_l01In.J (a0 : Int) (a1 : Int) (a2 : Int) (r : Bool) (h : spec_l01In.f a0 a1 a2 = some r) : J prog (.call 38 [(I a0), (I a1), (I a2)] [] (B r) []) := by
  unfold spec_l01In.f at h
  refine .call' [c_ 2, c_ 3] ?_
  refine .reg' [0, 1, 2] [] ⟨[(0, (I a0)), (1, (I a1)), (2, (I a2))], [], [], []⟩ [c_ 6, c_ 7] aln nocal ?_
  by_cases c1 : a1 ≤ a0
  · rw [if_pos c1] at h
    refine .reg' [6] [.no, .no, .no, .v (B true)] ⟨[(6, (B (decide (a0 ≤ a2))))], [], [(B (decide (a1 ≤ a0)) : V) = B true], []⟩ [c_ 7] (alc (bT (dT c1)) aln) nocal ?_
    have h := Option.some.inj h
    subst h
    exact .fin0 [] (B (decide (a0 ≤ a2))) [] aln (.z .s)
  · rw [if_neg c1] at h
    refine .reg' [6] [.no, .no, .no, .v (B false)] ⟨[(6, (B false))], [], [(B (decide (a1 ≤ a0)) : V) = B false], []⟩ [c_ 7] (alc (bF (dF c1)) aln) nocal ?_
    have h := Option.some.inj h
    subst h
    exact .fin0 [] (B false) [] aln (.z .s)
/-! spec_TimeText: function 33 -/
def spec_TimeText.f (k : Nat) (a0 : Int) : Option ByteArray := ((spec_l01In.f a0 0 100000).bind fun x1 => (if x1 = true then ((spec_l01Num.f k (wrap64 (a0.tdiv (60 : Int)))).bind fun x2 => ((spec_l01Num.f k (a0.tmod (60 : Int))).bind fun x3 => (if (x2.size : Int) < 2 then (if (⟨#[48]⟩ : ByteArray).size + x2.size ≤ 9223372036854775807 then (if (x3.size : Int) < 2 then (if (⟨#[48]⟩ : ByteArray).size + x3.size ≤ 9223372036854775807 then (if ((⟨#[48]⟩ : ByteArray) ++ x2).size + (⟨#[58]⟩ : ByteArray).size ≤ 9223372036854775807 then (if (((⟨#[48]⟩ : ByteArray) ++ x2) ++ (⟨#[58]⟩ : ByteArray)).size + ((⟨#[48]⟩ : ByteArray) ++ x3).size ≤ 9223372036854775807 then (some ((((⟨#[48]⟩ : ByteArray) ++ x2) ++ (⟨#[58]⟩ : ByteArray)) ++ ((⟨#[48]⟩ : ByteArray) ++ x3))) else none) else none) else none) else (if ((⟨#[48]⟩ : ByteArray) ++ x2).size + (⟨#[58]⟩ : ByteArray).size ≤ 9223372036854775807 then (if (((⟨#[48]⟩ : ByteArray) ++ x2) ++ (⟨#[58]⟩ : ByteArray)).size + x3.size ≤ 9223372036854775807 then (some ((((⟨#[48]⟩ : ByteArray) ++ x2) ++ (⟨#[58]⟩ : ByteArray)) ++ x3)) else none) else none)) else none) else (if (x3.size : Int) < 2 then (if (⟨#[48]⟩ : ByteArray).size + x3.size ≤ 9223372036854775807 then (if x2.size + (⟨#[58]⟩ : ByteArray).size ≤ 9223372036854775807 then (if (x2 ++ (⟨#[58]⟩ : ByteArray)).size + ((⟨#[48]⟩ : ByteArray) ++ x3).size ≤ 9223372036854775807 then (some ((x2 ++ (⟨#[58]⟩ : ByteArray)) ++ ((⟨#[48]⟩ : ByteArray) ++ x3))) else none) else none) else none) else (if x2.size + (⟨#[58]⟩ : ByteArray).size ≤ 9223372036854775807 then (if (x2 ++ (⟨#[58]⟩ : ByteArray)).size + x3.size ≤ 9223372036854775807 then (some ((x2 ++ (⟨#[58]⟩ : ByteArray)) ++ x3)) else none) else none))))) else (some (⟨#[]⟩ : ByteArray))))
theorem spec_TimeText.J (k : Nat) (a0 : Int) (r : ByteArray) (h : spec_TimeText.f k a0 = some r) : J prog (.call 33 [(I a0)] [] (S r) []) := by
  unfold spec_TimeText.f at h
  refine .call' [c_ 2, c_ 3] ?_
  refine .reg' [0] [] ⟨[(0, (I a0))], [], [], []⟩ [c_ 12, c_ 13, c_ 7] aln nocal ?_
  obtain ⟨x1, hx1, h⟩ := Option.bind_eq_some_iff.mp h
  refine .reg' [0, 7] [.no, .c ⟨38, [(I a0), (I 0), (I 100000)], [], (B x1), [], [], [], [], (B x1), []⟩] ⟨[(0, (I a0)), (7, (B (!x1)))], [], [COK (hget []) [(I a0), (I 0), (I 100000)] ⟨38, [(I a0), (I 0), (I 100000)], [], (B x1), [], [], [], [], (B x1), []⟩], [⟨38, [(I a0), (I 0), (I 100000)], [], (B x1), [], [], [], [], (B x1), []⟩]⟩ [c_ 13, c_ 7] (alc (cok0 false (a2c (.z .s) (a2c (.z .s) (a2c (.z .s) a2n))) (.z .s) (fun h => absurd h (by decide))) aln) (acal (spec_l01In.J a0 0 100000 _ hx1) nocal) ?_
  by_cases c1 : x1 = true
  · rw [if_pos c1] at h
    refine .cond' (.tmp 7) false [c_ 14, c_ 15] (bF (nF c1)) ?_
    obtain ⟨x2, hx2, h⟩ := Option.bind_eq_some_iff.mp h
    obtain ⟨x3, hx3, h⟩ := Option.bind_eq_some_iff.mp h
    refine .reg' [3, 4] [.no, .no, .c ⟨32, [(I (wrap64 (a0.tdiv (60 : Int))))], [], (S x2), [], [], [], [], (S x2), []⟩, .no, .no, .c ⟨32, [(I (a0.tmod (60 : Int)))], [], (S x3), [], [], [], [], (S x3), []⟩] ⟨[(3, (S x2)), (4, (S x3))], [], [(60 : Int) ≠ 0, COK (hget []) [(I (wrap64 (a0.tdiv (60 : Int))))] ⟨32, [(I (wrap64 (a0.tdiv (60 : Int))))], [], (S x2), [], [], [], [], (S x2), []⟩, (60 : Int) ≠ 0, COK (hget []) [(I (a0.tmod (60 : Int)))] ⟨32, [(I (a0.tmod (60 : Int)))], [], (S x3), [], [], [], [], (S x3), []⟩], [⟨32, [(I (wrap64 (a0.tdiv (60 : Int))))], [], (S x2), [], [], [], [], (S x2), []⟩, ⟨32, [(I (a0.tmod (60 : Int)))], [], (S x3), [], [], [], [], (S x3), []⟩]⟩ [c_ 60, c_ 61, c_ 31] (alc (by decide) (alc (cok0 false (a2c (.z .s) a2n) (.z .s) (fun h => absurd h (by decide))) (alc (by decide) (alc (cok0 false (a2c (.z .s) a2n) (.z .s) (fun h => absurd h (by decide))) aln)))) (acal (spec_l01Num.J k (wrap64 (a0.tdiv (60 : Int))) _ hx2) (acal (spec_l01Num.J k (a0.tmod (60 : Int)) _ hx3) nocal)) ?_
    refine .reg' [3, 4, 16] [] ⟨[(3, (S x2)), (4, (S x3)), (16, (B (decide ((x2.size : Int) < 2))))], [], [], []⟩ [c_ 61, c_ 31] aln nocal ?_
    by_cases c2 : (x2.size : Int) < 2
    · rw [if_pos c2] at h
      refine .cond' (.tmp 16) true [c_ 122, c_ 31] (bT (dT c2)) ?_
      by_cases c3 : (⟨#[48]⟩ : ByteArray).size + x2.size ≤ 9223372036854775807
      · rw [if_pos c3] at h
        refine .reg' [3, 4] [] ⟨[(3, (S ((⟨#[48]⟩ : ByteArray) ++ x2))), (4, (S x3))], [], [(⟨#[48]⟩ : ByteArray).size + x2.size ≤ 9223372036854775807], []⟩ [c_ 124, c_ 125, c_ 63] (alc c3 aln) nocal ?_
        refine .reg' [3, 4, 21] [] ⟨[(3, (S ((⟨#[48]⟩ : ByteArray) ++ x2))), (4, (S x3)), (21, (B (decide ((x3.size : Int) < 2))))], [], [], []⟩ [c_ 125, c_ 63] aln nocal ?_
        by_cases c4 : (x3.size : Int) < 2
        · rw [if_pos c4] at h
          refine .cond' (.tmp 21) true [c_ 250, c_ 63] (bT (dT c4)) ?_
          by_cases c5 : (⟨#[48]⟩ : ByteArray).size + x3.size ≤ 9223372036854775807
          · rw [if_pos c5] at h
            refine .reg' [3, 4] [] ⟨[(3, (S ((⟨#[48]⟩ : ByteArray) ++ x2))), (4, (S ((⟨#[48]⟩ : ByteArray) ++ x3)))], [], [(⟨#[48]⟩ : ByteArray).size + x3.size ≤ 9223372036854775807], []⟩ [c_ 126, c_ 127] (alc c5 aln) nocal ?_
            by_cases c6 : ((⟨#[48]⟩ : ByteArray) ++ x2).size + (⟨#[58]⟩ : ByteArray).size ≤ 9223372036854775807
            · rw [if_pos c6] at h
              by_cases c7 : (((⟨#[48]⟩ : ByteArray) ++ x2) ++ (⟨#[58]⟩ : ByteArray)).size + ((⟨#[48]⟩ : ByteArray) ++ x3).size ≤ 9223372036854775807
              · rw [if_pos c7] at h
                refine .reg' [2] [] ⟨[(2, (S ((((⟨#[48]⟩ : ByteArray) ++ x2) ++ (⟨#[58]⟩ : ByteArray)) ++ ((⟨#[48]⟩ : ByteArray) ++ x3))))], [], [((⟨#[48]⟩ : ByteArray) ++ x2).size + (⟨#[58]⟩ : ByteArray).size ≤ 9223372036854775807, (((⟨#[48]⟩ : ByteArray) ++ x2) ++ (⟨#[58]⟩ : ByteArray)).size + ((⟨#[48]⟩ : ByteArray) ++ x3).size ≤ 9223372036854775807], []⟩ [c_ 127] (alc c6 (alc c7 aln)) nocal ?_
                have h := Option.some.inj h
                subst h
                exact .fin0 [] (S ((((⟨#[48]⟩ : ByteArray) ++ x2) ++ (⟨#[58]⟩ : ByteArray)) ++ ((⟨#[48]⟩ : ByteArray) ++ x3))) [] aln (.z .s)
              · rw [if_neg c7] at h
                cases h
            · rw [if_neg c6] at h
              cases h
          · rw [if_neg c5] at h
            cases h
        · rw [if_neg c4] at h
          refine .cond' (.tmp 21) false [c_ 126, c_ 127] (bF (dF c4)) ?_
          by_cases c8 : ((⟨#[48]⟩ : ByteArray) ++ x2).size + (⟨#[58]⟩ : ByteArray).size ≤ 9223372036854775807
          · rw [if_pos c8] at h
            by_cases c9 : (((⟨#[48]⟩ : ByteArray) ++ x2) ++ (⟨#[58]⟩ : ByteArray)).size + x3.size ≤ 9223372036854775807
            · rw [if_pos c9] at h
              refine .reg' [2] [] ⟨[(2, (S ((((⟨#[48]⟩ : ByteArray) ++ x2) ++ (⟨#[58]⟩ : ByteArray)) ++ x3)))], [], [((⟨#[48]⟩ : ByteArray) ++ x2).size + (⟨#[58]⟩ : ByteArray).size ≤ 9223372036854775807, (((⟨#[48]⟩ : ByteArray) ++ x2) ++ (⟨#[58]⟩ : ByteArray)).size + x3.size ≤ 9223372036854775807], []⟩ [c_ 127] (alc c8 (alc c9 aln)) nocal ?_
              have h := Option.some.inj h
              subst h
              exact .fin0 [] (S ((((⟨#[48]⟩ : ByteArray) ++ x2) ++ (⟨#[58]⟩ : ByteArray)) ++ x3)) [] aln (.z .s)
            · rw [if_neg c9] at h
              cases h
          · rw [if_neg c8] at h
            cases h
      · rw [if_neg c3] at h
        cases h
    · rw [if_neg c2] at h
      refine .cond' (.tmp 16) false [c_ 124, c_ 125, c_ 63] (bF (dF c2)) ?_
      refine .reg' [3, 4, 21] [] ⟨[(3, (S x2)), (4, (S x3)), (21, (B (decide ((x3.size : Int) < 2))))], [], [], []⟩ [c_ 125, c_ 63] aln nocal ?_
      by_cases c10 : (x3.size : Int) < 2
      · rw [if_pos c10] at h
        refine .cond' (.tmp 21) true [c_ 250, c_ 63] (bT (dT c10)) ?_
        by_cases c11 : (⟨#[48]⟩ : ByteArray).size + x3.size ≤ 9223372036854775807
        · rw [if_pos c11] at h
          refine .reg' [3, 4] [] ⟨[(3, (S x2)), (4, (S ((⟨#[48]⟩ : ByteArray) ++ x3)))], [], [(⟨#[48]⟩ : ByteArray).size + x3.size ≤ 9223372036854775807], []⟩ [c_ 126, c_ 127] (alc c11 aln) nocal ?_
          by_cases c12 : x2.size + (⟨#[58]⟩ : ByteArray).size ≤ 9223372036854775807
          · rw [if_pos c12] at h
            by_cases c13 : (x2 ++ (⟨#[58]⟩ : ByteArray)).size + ((⟨#[48]⟩ : ByteArray) ++ x3).size ≤ 9223372036854775807
            · rw [if_pos c13] at h
              refine .reg' [2] [] ⟨[(2, (S ((x2 ++ (⟨#[58]⟩ : ByteArray)) ++ ((⟨#[48]⟩ : ByteArray) ++ x3))))], [], [x2.size + (⟨#[58]⟩ : ByteArray).size ≤ 9223372036854775807, (x2 ++ (⟨#[58]⟩ : ByteArray)).size + ((⟨#[48]⟩ : ByteArray) ++ x3).size ≤ 9223372036854775807], []⟩ [c_ 127] (alc c12 (alc c13 aln)) nocal ?_
              have h := Option.some.inj h
              subst h
              exact .fin0 [] (S ((x2 ++ (⟨#[58]⟩ : ByteArray)) ++ ((⟨#[48]⟩ : ByteArray) ++ x3))) [] aln (.z .s)
            · rw [if_neg c13] at h
              cases h
          · rw [if_neg c12] at h
            cases h
        · rw [if_neg c11] at h
          cases h
      · rw [if_neg c10] at h
        refine .cond' (.tmp 21) false [c_ 126, c_ 127] (bF (dF c10)) ?_
        by_cases c14 : x2.size + (⟨#[58]⟩ : ByteArray).size ≤ 9223372036854775807
        · rw [if_pos c14] at h
          by_cases c15 : (x2 ++ (⟨#[58]⟩ : ByteArray)).size + x3.size ≤ 9223372036854775807
          · rw [if_pos c15] at h
            refine .reg' [2] [] ⟨[(2, (S ((x2 ++ (⟨#[58]⟩ : ByteArray)) ++ x3)))], [], [x2.size + (⟨#[58]⟩ : ByteArray).size ≤ 9223372036854775807, (x2 ++ (⟨#[58]⟩ : ByteArray)).size + x3.size ≤ 9223372036854775807], []⟩ [c_ 127] (alc c14 (alc c15 aln)) nocal ?_
            have h := Option.some.inj h
            subst h
            exact .fin0 [] (S ((x2 ++ (⟨#[58]⟩ : ByteArray)) ++ x3)) [] aln (.z .s)
          · rw [if_neg c15] at h
            cases h
        · rw [if_neg c14] at h
          cases h
  · rw [if_neg c1] at h
    refine .cond' (.tmp 7) true [c_ 52, c_ 53, c_ 7] (bT (nT (vF c1))) ?_
    refine .reg' [2] [] ⟨[(2, (S (⟨#[]⟩ : ByteArray)))], [], [], []⟩ [c_ 53, c_ 7] aln nocal ?_
    have h := Option.some.inj h
    subst h
    exact .fin0 [] (S (⟨#[]⟩ : ByteArray)) [] aln (.z .s)
/-! spec_ReadTime: function 47 -/
def spec_ReadTime.l0 : Nat → ByteArray → Int → Int → Option Int
 | 0, _, _, _ => none
 | k + 1, a0, x2, x3 => (if x3 < (wrap64 ((a0.size : Int) - 3)) then (if 0 ≤ x3 then (if x3 < (a0.size : Int) then (spec_ReadTime.l0 k a0 (wrap64 ((wrap64 ((wrap64 (x2 * 10)) + (IntKind.i64.wrap (bt a0 x3)))) - 48)) (wrap64 (x3 + 1))) else none) else none) else (if 0 ≤ (wrap64 ((a0.size : Int) - 2)) then (if (wrap64 ((a0.size : Int) - 2)) < (a0.size : Int) then (if 0 ≤ (wrap64 ((a0.size : Int) - 1)) then (if (wrap64 ((a0.size : Int) - 1)) < (a0.size : Int) then ((spec_TimeText.f k (wrap64 ((wrap64 ((wrap64 ((wrap64 (x2 * 60)) + (wrap64 ((wrap64 ((IntKind.i64.wrap (bt a0 (wrap64 ((a0.size : Int) - 2)))) - 48)) * 10)))) + (IntKind.i64.wrap (bt a0 (wrap64 ((a0.size : Int) - 1)))))) - 48))).bind fun x4 => (if (sEq x4 a0) = true then (some (wrap64 ((wrap64 ((wrap64 ((wrap64 (x2 * 60)) + (wrap64 ((wrap64 ((IntKind.i64.wrap (bt a0 (wrap64 ((a0.size : Int) - 2)))) - 48)) * 10)))) + (IntKind.i64.wrap (bt a0 (wrap64 ((a0.size : Int) - 1)))))) - 48))) else (some (-1)))) else none) else none) else none) else none))
def spec_ReadTime.f (k : Nat) (a0 : ByteArray) : Option Int := ((spec_l01In.f (a0.size : Int) 5 7).bind fun x1 => (if x1 = true then (spec_ReadTime.l0 k a0 0 0) else (some (-1))))
theorem spec_ReadTime.lab : ∀ k, (∀ (a0 : ByteArray) (x2 : Int) (x3 : Int) (r : Int), spec_ReadTime.l0 k a0 x2 x3 = some r → J prog (.run 47 [] [l_ 122, b_ 0, c_ 31] [(0, (S a0)), (3, (I x2)), (4, (I x3))] [] (I r) []))
 | 0 => (by intro a0 x2 x3 r h; unfold spec_ReadTime.l0 at h; cases h)
 | k + 1 => by
  have ih0 := spec_ReadTime.lab k
  · intro a0 x2 x3 r h
    unfold spec_ReadTime.l0 at h
    refine .loop' [c_ 976, c_ 977, c_ 489, l_ 122, b_ 0, c_ 31] ?_
    refine .reg' [0, 3, 4, 13] [] ⟨[(0, (S a0)), (3, (I x2)), (4, (I x3)), (13, (B (decide (x3 < (wrap64 ((a0.size : Int) - 3))))))], [], [], []⟩ [c_ 977, c_ 489, l_ 122, b_ 0, c_ 31] aln nocal ?_
    by_cases c2 : x3 < (wrap64 ((a0.size : Int) - 3))
    · rw [if_pos c2] at h
      refine .cond' (.tmp 13) true [c_ 1956, b_ 1, c_ 979, l_ 122, b_ 0, c_ 31] (bT (dT c2)) ?_
      by_cases c3 : 0 ≤ x3
      · rw [if_pos c3] at h
        by_cases c4 : x3 < (a0.size : Int)
        · rw [if_pos c4] at h
          refine .reg' [0, 3, 4] [] ⟨[(0, (S a0)), (3, (I (wrap64 ((wrap64 ((wrap64 (x2 * 10)) + (IntKind.i64.wrap (bt a0 x3)))) - 48)))), (4, (I x3))], [], [(0 : Int) ≤ x3 ∧ x3 < (a0.size : Int)], []⟩ [c_ 979, l_ 122, b_ 0, c_ 31] (alc ⟨c3, c4⟩ aln) nocal ?_
          refine .reg' [0, 3, 4] [] ⟨[(0, (S a0)), (3, (I (wrap64 ((wrap64 ((wrap64 (x2 * 10)) + (IntKind.i64.wrap (bt a0 x3)))) - 48)))), (4, (I (wrap64 (x3 + 1))))], [], [], []⟩ [l_ 122, b_ 0, c_ 31] aln nocal ?_
          exact ih0 a0 (wrap64 ((wrap64 ((wrap64 (x2 * 10)) + (IntKind.i64.wrap (bt a0 x3)))) - 48)) (wrap64 (x3 + 1)) _ h
        · rw [if_neg c4] at h
          cases h
      · rw [if_neg c3] at h
        cases h
    · rw [if_neg c2] at h
      refine .cond' (.tmp 13) false [c_ 62, c_ 63] (bF (dF c2)) ?_
      by_cases c5 : 0 ≤ (wrap64 ((a0.size : Int) - 2))
      · rw [if_pos c5] at h
        by_cases c6 : (wrap64 ((a0.size : Int) - 2)) < (a0.size : Int)
        · rw [if_pos c6] at h
          by_cases c7 : 0 ≤ (wrap64 ((a0.size : Int) - 1))
          · rw [if_pos c7] at h
            by_cases c8 : (wrap64 ((a0.size : Int) - 1)) < (a0.size : Int)
            · rw [if_pos c8] at h
              refine .reg' [0, 3] [] ⟨[(0, (S a0)), (3, (I (wrap64 ((wrap64 ((wrap64 ((wrap64 (x2 * 60)) + (wrap64 ((wrap64 ((IntKind.i64.wrap (bt a0 (wrap64 ((a0.size : Int) - 2)))) - 48)) * 10)))) + (IntKind.i64.wrap (bt a0 (wrap64 ((a0.size : Int) - 1)))))) - 48))))], [], [(0 : Int) ≤ (wrap64 ((a0.size : Int) - 2)) ∧ (wrap64 ((a0.size : Int) - 2)) < (a0.size : Int), (0 : Int) ≤ (wrap64 ((a0.size : Int) - 1)) ∧ (wrap64 ((a0.size : Int) - 1)) < (a0.size : Int)], []⟩ [c_ 252, c_ 253, c_ 127] (alc ⟨c5, c6⟩ (alc ⟨c7, c8⟩ aln)) nocal ?_
              obtain ⟨x4, hx4, h⟩ := Option.bind_eq_some_iff.mp h
              refine .reg' [3, 46] [.no, .c ⟨33, [(I (wrap64 ((wrap64 ((wrap64 ((wrap64 (x2 * 60)) + (wrap64 ((wrap64 ((IntKind.i64.wrap (bt a0 (wrap64 ((a0.size : Int) - 2)))) - 48)) * 10)))) + (IntKind.i64.wrap (bt a0 (wrap64 ((a0.size : Int) - 1)))))) - 48)))], [], (S x4), [], [], [], [], (S x4), []⟩] ⟨[(3, (I (wrap64 ((wrap64 ((wrap64 ((wrap64 (x2 * 60)) + (wrap64 ((wrap64 ((IntKind.i64.wrap (bt a0 (wrap64 ((a0.size : Int) - 2)))) - 48)) * 10)))) + (IntKind.i64.wrap (bt a0 (wrap64 ((a0.size : Int) - 1)))))) - 48)))), (46, (B (!(sEq x4 a0))))], [], [COK (hget []) [(I (wrap64 ((wrap64 ((wrap64 ((wrap64 (x2 * 60)) + (wrap64 ((wrap64 ((IntKind.i64.wrap (bt a0 (wrap64 ((a0.size : Int) - 2)))) - 48)) * 10)))) + (IntKind.i64.wrap (bt a0 (wrap64 ((a0.size : Int) - 1)))))) - 48)))] ⟨33, [(I (wrap64 ((wrap64 ((wrap64 ((wrap64 (x2 * 60)) + (wrap64 ((wrap64 ((IntKind.i64.wrap (bt a0 (wrap64 ((a0.size : Int) - 2)))) - 48)) * 10)))) + (IntKind.i64.wrap (bt a0 (wrap64 ((a0.size : Int) - 1)))))) - 48)))], [], (S x4), [], [], [], [], (S x4), []⟩], [⟨33, [(I (wrap64 ((wrap64 ((wrap64 ((wrap64 (x2 * 60)) + (wrap64 ((wrap64 ((IntKind.i64.wrap (bt a0 (wrap64 ((a0.size : Int) - 2)))) - 48)) * 10)))) + (IntKind.i64.wrap (bt a0 (wrap64 ((a0.size : Int) - 1)))))) - 48)))], [], (S x4), [], [], [], [], (S x4), []⟩]⟩ [c_ 253, c_ 127] (alc (cok0 false (a2c (.z .s) a2n) (.z .s) (fun h => absurd h (by decide))) aln) (acal (spec_TimeText.J k (wrap64 ((wrap64 ((wrap64 ((wrap64 (x2 * 60)) + (wrap64 ((wrap64 ((IntKind.i64.wrap (bt a0 (wrap64 ((a0.size : Int) - 2)))) - 48)) * 10)))) + (IntKind.i64.wrap (bt a0 (wrap64 ((a0.size : Int) - 1)))))) - 48)) _ hx4) nocal) ?_
              by_cases c9 : (sEq x4 a0) = true
              · rw [if_pos c9] at h
                refine .cond' (.tmp 46) false [c_ 254, c_ 255] (bF (nF c9)) ?_
                refine .reg' [2] [] ⟨[(2, (I (wrap64 ((wrap64 ((wrap64 ((wrap64 (x2 * 60)) + (wrap64 ((wrap64 ((IntKind.i64.wrap (bt a0 (wrap64 ((a0.size : Int) - 2)))) - 48)) * 10)))) + (IntKind.i64.wrap (bt a0 (wrap64 ((a0.size : Int) - 1)))))) - 48))))], [], [], []⟩ [c_ 255] aln nocal ?_
                have h := Option.some.inj h
                subst h
                exact .fin0 [] (I (wrap64 ((wrap64 ((wrap64 ((wrap64 (x2 * 60)) + (wrap64 ((wrap64 ((IntKind.i64.wrap (bt a0 (wrap64 ((a0.size : Int) - 2)))) - 48)) * 10)))) + (IntKind.i64.wrap (bt a0 (wrap64 ((a0.size : Int) - 1)))))) - 48))) [] aln (.z .s)
              · rw [if_neg c9] at h
                refine .cond' (.tmp 46) true [c_ 1012, c_ 1013, c_ 127] (bT (nT (vF c9))) ?_
                refine .reg' [2] [] ⟨[(2, (I (-1)))], [], [], []⟩ [c_ 1013, c_ 127] aln nocal ?_
                have h := Option.some.inj h
                subst h
                exact .fin0 [] (I (-1)) [] aln (.z .s)
            · rw [if_neg c8] at h
              cases h
          · rw [if_neg c7] at h
            cases h
        · rw [if_neg c6] at h
          cases h
      · rw [if_neg c5] at h
        cases h
theorem spec_ReadTime.J (k : Nat) (a0 : ByteArray) (r : Int) (h : spec_ReadTime.f k a0 = some r) : J prog (.call 47 [(S a0)] [] (I r) []) := by
  unfold spec_ReadTime.f at h
  have ih0 := spec_ReadTime.lab k
  refine .call' [c_ 2, c_ 3] ?_
  refine .reg' [0] [] ⟨[(0, (S a0))], [], [], []⟩ [c_ 12, c_ 13, c_ 7] aln nocal ?_
  obtain ⟨x1, hx1, h⟩ := Option.bind_eq_some_iff.mp h
  refine .reg' [0, 8] [.no, .no, .c ⟨38, [(I (a0.size : Int)), (I 5), (I 7)], [], (B x1), [], [], [], [], (B x1), []⟩] ⟨[(0, (S a0)), (8, (B (!x1)))], [], [COK (hget []) [(I (a0.size : Int)), (I 5), (I 7)] ⟨38, [(I (a0.size : Int)), (I 5), (I 7)], [], (B x1), [], [], [], [], (B x1), []⟩], [⟨38, [(I (a0.size : Int)), (I 5), (I 7)], [], (B x1), [], [], [], [], (B x1), []⟩]⟩ [c_ 13, c_ 7] (alc (cok0 false (a2c (.z .s) (a2c (.z .s) (a2c (.z .s) a2n))) (.z .s) (fun h => absurd h (by decide))) aln) (acal (spec_l01In.J (a0.size : Int) 5 7 _ hx1) nocal) ?_
  by_cases c1 : x1 = true
  · rw [if_pos c1] at h
    refine .cond' (.tmp 8) false [c_ 14, c_ 15] (bF (nF c1)) ?_
    refine .reg' [0, 3] [] ⟨[(0, (S a0)), (3, (I 0))], [], [], []⟩ [c_ 60, c_ 61, c_ 31] aln nocal ?_
    refine .reg' [0, 3, 4] [] ⟨[(0, (S a0)), (3, (I 0)), (4, (I 0))], [], [], []⟩ [l_ 122, b_ 0, c_ 31] aln nocal ?_
    exact ih0 a0 0 0 _ h
  · rw [if_neg c1] at h
    refine .cond' (.tmp 8) true [c_ 52, c_ 53, c_ 7] (bT (nT (vF c1))) ?_
    refine .reg' [2] [] ⟨[(2, (I (-1)))], [], [], []⟩ [c_ 53, c_ 7] aln nocal ?_
    have h := Option.some.inj h
    subst h
    exact .fin0 [] (I (-1)) [] aln (.z .s)
/-! spec_l01Name: function 58 -/
def spec_l01Name.l0 : Nat → ByteArray → Int → Option Bool
 | 0, _, _ => none
 | k + 1, a0, x1 => (if x1 < (a0.size : Int) then (if 0 ≤ x1 then (if (bt a0 x1) ≥ 97 then (if (bt a0 x1) ≤ 122 then (spec_l01Name.l0 k a0 (wrap64 (x1 + 1))) else (if (bt a0 x1) ≥ 48 then (if (bt a0 x1) ≤ 57 then (spec_l01Name.l0 k a0 (wrap64 (x1 + 1))) else (some false)) else (some false))) else (if (bt a0 x1) ≥ 48 then (if (bt a0 x1) ≤ 57 then (spec_l01Name.l0 k a0 (wrap64 (x1 + 1))) else (some false)) else (some false))) else none) else ((spec_l01In.f (a0.size : Int) 1 12).bind fun x2 => (some x2)))
def spec_l01Name.f (k : Nat) (a0 : ByteArray) : Option Bool := (spec_l01Name.l0 k a0 0)
theorem spec_l01Name.lab : ∀ k, (∀ (a0 : ByteArray) (x1 : Int) (r : Bool), spec_l01Name.l0 k a0 x1 = some r → J prog (.run 58 [] [l_ 26, b_ 0, c_ 7] [(0, (S a0)), (3, (I x1))] [] (B r) []))
 | 0 => (by intro a0 x1 r h; unfold spec_l01Name.l0 at h; cases h)
 | k + 1 => by
  have ih0 := spec_l01Name.lab k
  · intro a0 x1 r h
    unfold spec_l01Name.l0 at h
    refine .loop' [c_ 208, c_ 209, c_ 105, l_ 26, b_ 0, c_ 7] ?_
    refine .reg' [0, 3, 8] [] ⟨[(0, (S a0)), (3, (I x1)), (8, (B (decide (x1 < (a0.size : Int)))))], [], [], []⟩ [c_ 209, c_ 105, l_ 26, b_ 0, c_ 7] aln nocal ?_
    by_cases c1 : x1 < (a0.size : Int)
    · rw [if_pos c1] at h
      refine .cond' (.tmp 8) true [c_ 840, c_ 841, b_ 1, c_ 211, l_ 26, b_ 0, c_ 7] (bT (dT c1)) ?_
      by_cases c2 : 0 ≤ x1
      · rw [if_pos c2] at h
        refine .reg' [0, 3, 4] [] ⟨[(0, (S a0)), (3, (I x1)), (4, (U (bt a0 x1)))], [], [(0 : Int) ≤ x1 ∧ x1 < (a0.size : Int)], []⟩ [c_ 1682, c_ 1683, b_ 1, c_ 211, l_ 26, b_ 0, c_ 7] (alc ⟨c2, c1⟩ aln) nocal ?_
        by_cases c3 : (bt a0 x1) ≥ 97
        · rw [if_pos c3] at h
          by_cases c4 : (bt a0 x1) ≤ 122
          · rw [if_pos c4] at h
            refine .reg' [0, 3, 29] [.no, .no, .v (B true), .no, .no, .no, .no, .v (B false)] ⟨[(0, (S a0)), (3, (I x1)), (29, (B false))], [], [(B (decide ((bt a0 x1) ≥ 97)) : V) = B true, (B (!(decide ((bt a0 x1) ≤ 122))) : V) = B false], []⟩ [c_ 1683, b_ 1, c_ 211, l_ 26, b_ 0, c_ 7] (alc (bT (dT c3)) (alc (bF (nF (dT c4))) aln)) nocal ?_
            refine .cond' (.tmp 29) false [c_ 211, l_ 26, b_ 0, c_ 7] (rfl) ?_
            refine .reg' [0, 3] [] ⟨[(0, (S a0)), (3, (I (wrap64 (x1 + 1))))], [], [], []⟩ [l_ 26, b_ 0, c_ 7] aln nocal ?_
            exact ih0 a0 (wrap64 (x1 + 1)) _ h
          · rw [if_neg c4] at h
            by_cases c5 : (bt a0 x1) ≥ 48
            · rw [if_pos c5] at h
              refine .reg' [0, 3, 29] [.no, .no, .v (B true), .no, .no, .no, .no, .v (B true), .no, .no, .v (B true)] ⟨[(0, (S a0)), (3, (I x1)), (29, (B (!(decide ((bt a0 x1) ≤ 57)))))], [], [(B (decide ((bt a0 x1) ≥ 97)) : V) = B true, (B (!(decide ((bt a0 x1) ≤ 122))) : V) = B true, (B (decide ((bt a0 x1) ≥ 48)) : V) = B true], []⟩ [c_ 1683, b_ 1, c_ 211, l_ 26, b_ 0, c_ 7] (alc (bT (dT c3)) (alc (bT (nT (dF c4))) (alc (bT (dT c5)) aln))) nocal ?_
              by_cases c6 : (bt a0 x1) ≤ 57
              · rw [if_pos c6] at h
                refine .cond' (.tmp 29) false [c_ 211, l_ 26, b_ 0, c_ 7] (bF (nF (dT c6))) ?_
                refine .reg' [0, 3] [] ⟨[(0, (S a0)), (3, (I (wrap64 (x1 + 1))))], [], [], []⟩ [l_ 26, b_ 0, c_ 7] aln nocal ?_
                exact ih0 a0 (wrap64 (x1 + 1)) _ h
              · rw [if_neg c6] at h
                refine .cond' (.tmp 29) true [c_ 6732, c_ 6733, b_ 1, c_ 211, l_ 26, b_ 0, c_ 7] (bT (nT (dF c6))) ?_
                refine .reg' [2] [] ⟨[(2, (B false))], [], [], []⟩ [c_ 6733, b_ 1, c_ 211, l_ 26, b_ 0, c_ 7] aln nocal ?_
                have h := Option.some.inj h
                subst h
                exact .fin0 [] (B false) [] aln (.z .s)
            · rw [if_neg c5] at h
              refine .reg' [0, 3, 29] [.no, .no, .v (B true), .no, .no, .no, .no, .v (B true), .no, .no, .v (B false)] ⟨[(0, (S a0)), (3, (I x1)), (29, (B true))], [], [(B (decide ((bt a0 x1) ≥ 97)) : V) = B true, (B (!(decide ((bt a0 x1) ≤ 122))) : V) = B true, (B (decide ((bt a0 x1) ≥ 48)) : V) = B false], []⟩ [c_ 1683, b_ 1, c_ 211, l_ 26, b_ 0, c_ 7] (alc (bT (dT c3)) (alc (bT (nT (dF c4))) (alc (bF (dF c5)) aln))) nocal ?_
              refine .cond' (.tmp 29) true [c_ 6732, c_ 6733, b_ 1, c_ 211, l_ 26, b_ 0, c_ 7] (rfl) ?_
              refine .reg' [2] [] ⟨[(2, (B false))], [], [], []⟩ [c_ 6733, b_ 1, c_ 211, l_ 26, b_ 0, c_ 7] aln nocal ?_
              have h := Option.some.inj h
              subst h
              exact .fin0 [] (B false) [] aln (.z .s)
        · rw [if_neg c3] at h
          by_cases c7 : (bt a0 x1) ≥ 48
          · rw [if_pos c7] at h
            refine .reg' [0, 3, 29] [.no, .no, .v (B false), .no, .no, .no, .no, .no, .no, .no, .v (B true)] ⟨[(0, (S a0)), (3, (I x1)), (29, (B (!(decide ((bt a0 x1) ≤ 57)))))], [], [(B (decide ((bt a0 x1) ≥ 97)) : V) = B false, (B (decide ((bt a0 x1) ≥ 48)) : V) = B true], []⟩ [c_ 1683, b_ 1, c_ 211, l_ 26, b_ 0, c_ 7] (alc (bF (dF c3)) (alc (bT (dT c7)) aln)) nocal ?_
            by_cases c8 : (bt a0 x1) ≤ 57
            · rw [if_pos c8] at h
              refine .cond' (.tmp 29) false [c_ 211, l_ 26, b_ 0, c_ 7] (bF (nF (dT c8))) ?_
              refine .reg' [0, 3] [] ⟨[(0, (S a0)), (3, (I (wrap64 (x1 + 1))))], [], [], []⟩ [l_ 26, b_ 0, c_ 7] aln nocal ?_
              exact ih0 a0 (wrap64 (x1 + 1)) _ h
            · rw [if_neg c8] at h
              refine .cond' (.tmp 29) true [c_ 6732, c_ 6733, b_ 1, c_ 211, l_ 26, b_ 0, c_ 7] (bT (nT (dF c8))) ?_
              refine .reg' [2] [] ⟨[(2, (B false))], [], [], []⟩ [c_ 6733, b_ 1, c_ 211, l_ 26, b_ 0, c_ 7] aln nocal ?_
              have h := Option.some.inj h
              subst h
              exact .fin0 [] (B false) [] aln (.z .s)
          · rw [if_neg c7] at h
            refine .reg' [0, 3, 29] [.no, .no, .v (B false), .no, .no, .no, .no, .no, .no, .no, .v (B false)] ⟨[(0, (S a0)), (3, (I x1)), (29, (B true))], [], [(B (decide ((bt a0 x1) ≥ 97)) : V) = B false, (B (decide ((bt a0 x1) ≥ 48)) : V) = B false], []⟩ [c_ 1683, b_ 1, c_ 211, l_ 26, b_ 0, c_ 7] (alc (bF (dF c3)) (alc (bF (dF c7)) aln)) nocal ?_
            refine .cond' (.tmp 29) true [c_ 6732, c_ 6733, b_ 1, c_ 211, l_ 26, b_ 0, c_ 7] (rfl) ?_
            refine .reg' [2] [] ⟨[(2, (B false))], [], [], []⟩ [c_ 6733, b_ 1, c_ 211, l_ 26, b_ 0, c_ 7] aln nocal ?_
            have h := Option.some.inj h
            subst h
            exact .fin0 [] (B false) [] aln (.z .s)
      · rw [if_neg c2] at h
        cases h
    · rw [if_neg c1] at h
      refine .cond' (.tmp 8) false [c_ 14, c_ 15] (bF (dF c1)) ?_
      obtain ⟨x2, hx2, h⟩ := Option.bind_eq_some_iff.mp h
      refine .reg' [2] [.no, .no, .c ⟨38, [(I (a0.size : Int)), (I 1), (I 12)], [], (B x2), [], [], [], [], (B x2), []⟩] ⟨[(2, (B x2))], [], [COK (hget []) [(I (a0.size : Int)), (I 1), (I 12)] ⟨38, [(I (a0.size : Int)), (I 1), (I 12)], [], (B x2), [], [], [], [], (B x2), []⟩], [⟨38, [(I (a0.size : Int)), (I 1), (I 12)], [], (B x2), [], [], [], [], (B x2), []⟩]⟩ [c_ 15] (alc (cok0 false (a2c (.z .s) (a2c (.z .s) (a2c (.z .s) a2n))) (.z .s) (fun h => absurd h (by decide))) aln) (acal (spec_l01In.J (a0.size : Int) 1 12 _ hx2) nocal) ?_
      have h := Option.some.inj h
      subst h
      exact .fin0 [] (B x2) [] aln (.z .s)
theorem spec_l01Name.J (k : Nat) (a0 : ByteArray) (r : Bool) (h : spec_l01Name.f k a0 = some r) : J prog (.call 58 [(S a0)] [] (B r) []) := by
  unfold spec_l01Name.f at h
  have ih0 := spec_l01Name.lab k
  refine .call' [c_ 2, c_ 3] ?_
  refine .reg' [0] [] ⟨[(0, (S a0))], [], [], []⟩ [c_ 12, c_ 13, c_ 7] aln nocal ?_
  refine .reg' [0, 3] [] ⟨[(0, (S a0)), (3, (I 0))], [], [], []⟩ [l_ 26, b_ 0, c_ 7] aln nocal ?_
  exact ih0 a0 0 _ h
/-! spec_TripOk: function 31 -/
def spec_TripOk.l0 : Nat → S28 → Int → Option Bool
 | 0, _, _ => none
 | k + 1, a0, x3 => (if x3 < (a0.f1.length : Int) then (if 0 ≤ x3 then ((spec_l01In.f ((at_ a0.f1 x3).f0) 0 29).bind fun x4 => (if x4 = true then ((spec_l01In.f ((at_ a0.f1 x3).f2) 0 100000).bind fun x5 => (if x5 = true then ((spec_l01In.f ((at_ a0.f1 x3).f1) 0 ((at_ a0.f1 x3).f2)).bind fun x6 => (if x6 = true then (if x3 > 0 then (if 0 ≤ (wrap64 (x3 - 1)) then (if (wrap64 (x3 - 1)) < (a0.f1.length : Int) then (if (at_ a0.f1 (wrap64 (x3 - 1))).f2 ≥ (at_ a0.f1 x3).f1 then (some false) else (if (at_ a0.f1 (wrap64 (x3 - 1))).f0 = (at_ a0.f1 x3).f0 then (some false) else (spec_TripOk.l0 k a0 (wrap64 (x3 + 1))))) else none) else none) else (spec_TripOk.l0 k a0 (wrap64 (x3 + 1)))) else (some false))) else (some false))) else (some false))) else none) else (some true))
def spec_TripOk.f (k : Nat) (a0 : S28) : Option Bool := ((spec_l01Name.f k a0.f0).bind fun x1 => (if x1 = true then ((spec_l01In.f (a0.f1.length : Int) 2 12).bind fun x2 => (if x2 = true then (spec_TripOk.l0 k a0 0) else (some false))) else (some false)))
theorem spec_TripOk.lab : ∀ k, (∀ (a0 : S28) (x3 : Int) (r : Bool), spec_TripOk.l0 k a0 x3 = some r → J prog (.run 31 [] [l_ 58, b_ 0, c_ 15] [(1, (.pt 256 0 2)), (3, (I x3))] [(256, [(S a0.f0), (.sl true a0.f1.length 3 (a0.f1.flatMap e48))])] (B r) []))
 | 0 => (by intro a0 x3 r h; unfold spec_TripOk.l0 at h; cases h)
 | k + 1 => by
  have ih0 := spec_TripOk.lab k
  · intro a0 x3 r h
    unfold spec_TripOk.l0 at h
    refine .loop' [c_ 464, c_ 465, c_ 233, l_ 58, b_ 0, c_ 15] ?_
    refine .reg' [1, 3, 20] [] ⟨[(1, (.pt 256 0 2)), (3, (I x3)), (20, (B (decide (x3 < (a0.f1.length : Int)))))], [(256, [(S a0.f0), (.sl true a0.f1.length 3 (a0.f1.flatMap e48))])], [2 = 2 ∧ 1 + 1 ≤ 2], []⟩ [c_ 465, c_ 233, l_ 58, b_ 0, c_ 15] (alc ⟨rfl, by decide⟩ aln) nocal ?_
    by_cases c3 : x3 < (a0.f1.length : Int)
    · rw [if_pos c3] at h
      refine .cond' (.tmp 20) true [c_ 1864, c_ 1865, b_ 1, c_ 467, l_ 58, b_ 0, c_ 15] (bT (dT c3)) ?_
      by_cases c4 : 0 ≤ x3
      · rw [if_pos c4] at h
        refine .reg' [1, 3, 4] [.no, .no, .no, .no, .v (.ag [(I (at_ a0.f1 x3).f0), (I (at_ a0.f1 x3).f1), (I (at_ a0.f1 x3).f2)])] ⟨[(1, (.pt 256 0 2)), (3, (I x3)), (4, (.pt 1797 0 3))], [(256, [(S a0.f0), (.sl true a0.f1.length 3 (a0.f1.flatMap e48))]), (1797, [(I (at_ a0.f1 x3).f0), (I (at_ a0.f1 x3).f1), (I (at_ a0.f1 x3).f2)])], [2 = 2 ∧ 1 + 1 ≤ 2, (0 : Int) ≤ x3 ∧ x3 < (a0.f1.length : Int), rdC prog 49 ((a0.f1.flatMap e48).drop (x3.toNat * 3)) = (.ag [(I (at_ a0.f1 x3).f0), (I (at_ a0.f1 x3).f1), (I (at_ a0.f1 x3).f2)]), 3 ≤ ((a0.f1.flatMap e48).drop (x3.toNat * 3)).length, 3 = 3 ∧ 0 + 3 ≤ 3], []⟩ [c_ 7460, c_ 7461, c_ 3731, b_ 1, c_ 467, l_ 58, b_ 0, c_ 15] (alc ⟨rfl, by decide⟩ (alc ⟨c4, c3⟩ (alc (ldA e48_ok rfl rfl c4 c3) (alc (okI e48_ok c4 c3 (by decide)) (alc ⟨rfl, by decide⟩ aln))))) nocal ?_
        obtain ⟨x4, hx4, h⟩ := Option.bind_eq_some_iff.mp h
        by_cases c5 : x4 = true
        · rw [if_pos c5] at h
          obtain ⟨x5, hx5, h⟩ := Option.bind_eq_some_iff.mp h
          by_cases c6 : x5 = true
          · rw [if_pos c6] at h
            obtain ⟨x6, hx6, h⟩ := Option.bind_eq_some_iff.mp h
            refine .reg' [1, 3, 4, 45] [.no, .no, .c ⟨38, [(I (at_ a0.f1 x3).f0), (I 0), (I 29)], [], (B x4), [], [], [], [], (B x4), []⟩, .no, .v (B false), .no, .no, .c ⟨38, [(I (at_ a0.f1 x3).f2), (I 0), (I 100000)], [], (B x5), [], [], [], [], (B x5), []⟩, .no, .no, .v (B false), .no, .no, .no, .no, .c ⟨38, [(I (at_ a0.f1 x3).f1), (I 0), (I (at_ a0.f1 x3).f2)], [], (B x6), [], [], [], [], (B x6), []⟩] ⟨[(1, (.pt 256 0 2)), (3, (I x3)), (4, (.pt 1797 0 3)), (45, (B (!x6)))], [(256, [(S a0.f0), (.sl true a0.f1.length 3 (a0.f1.flatMap e48))]), (1797, [(I (at_ a0.f1 x3).f0), (I (at_ a0.f1 x3).f1), (I (at_ a0.f1 x3).f2)])], [3 = 3 ∧ 0 + 1 ≤ 3, COK (hget [(256, [(S a0.f0), (.sl true a0.f1.length 3 (a0.f1.flatMap e48))]), (1797, [(I (at_ a0.f1 x3).f0), (I (at_ a0.f1 x3).f1), (I (at_ a0.f1 x3).f2)])]) [(I (at_ a0.f1 x3).f0), (I 0), (I 29)] ⟨38, [(I (at_ a0.f1 x3).f0), (I 0), (I 29)], [], (B x4), [], [], [], [], (B x4), []⟩, (B (!x4) : V) = B false, 3 = 3 ∧ 2 + 1 ≤ 3, COK (hget [(256, [(S a0.f0), (.sl true a0.f1.length 3 (a0.f1.flatMap e48))]), (1797, [(I (at_ a0.f1 x3).f0), (I (at_ a0.f1 x3).f1), (I (at_ a0.f1 x3).f2)])]) [(I (at_ a0.f1 x3).f2), (I 0), (I 100000)] ⟨38, [(I (at_ a0.f1 x3).f2), (I 0), (I 100000)], [], (B x5), [], [], [], [], (B x5), []⟩, (B (!x5) : V) = B false, 3 = 3 ∧ 1 + 1 ≤ 3, 3 = 3 ∧ 2 + 1 ≤ 3, COK (hget [(256, [(S a0.f0), (.sl true a0.f1.length 3 (a0.f1.flatMap e48))]), (1797, [(I (at_ a0.f1 x3).f0), (I (at_ a0.f1 x3).f1), (I (at_ a0.f1 x3).f2)])]) [(I (at_ a0.f1 x3).f1), (I 0), (I (at_ a0.f1 x3).f2)] ⟨38, [(I (at_ a0.f1 x3).f1), (I 0), (I (at_ a0.f1 x3).f2)], [], (B x6), [], [], [], [], (B x6), []⟩], [⟨38, [(I (at_ a0.f1 x3).f0), (I 0), (I 29)], [], (B x4), [], [], [], [], (B x4), []⟩, ⟨38, [(I (at_ a0.f1 x3).f2), (I 0), (I 100000)], [], (B x5), [], [], [], [], (B x5), []⟩, ⟨38, [(I (at_ a0.f1 x3).f1), (I 0), (I (at_ a0.f1 x3).f2)], [], (B x6), [], [], [], [], (B x6), []⟩]⟩ [c_ 7461, c_ 3731, b_ 1, c_ 467, l_ 58, b_ 0, c_ 15] (alc ⟨rfl, by decide⟩ (alc (cok0 false (a2c (.z .s) (a2c (.z .s) (a2c (.z .s) a2n))) (.z .s) (fun h => absurd h (by decide))) (alc (bF (nF c5)) (alc ⟨rfl, by decide⟩ (alc (cok0 false (a2c (.z .s) (a2c (.z .s) (a2c (.z .s) a2n))) (.z .s) (fun h => absurd h (by decide))) (alc (bF (nF c6)) (alc ⟨rfl, by decide⟩ (alc ⟨rfl, by decide⟩ (alc (cok0 false (a2c (.z .s) (a2c (.z .s) (a2c (.z .s) a2n))) (.z .s) (fun h => absurd h (by decide))) aln))))))))) (acal (spec_l01In.J ((at_ a0.f1 x3).f0) 0 29 _ hx4) (acal (spec_l01In.J ((at_ a0.f1 x3).f2) 0 100000 _ hx5) (acal (spec_l01In.J ((at_ a0.f1 x3).f1) 0 ((at_ a0.f1 x3).f2) _ hx6) nocal))) ?_
            by_cases c7 : x6 = true
            · rw [if_pos c7] at h
              refine .cond' (.tmp 45) false [c_ 7462, c_ 7463, b_ 1, c_ 467, l_ 58, b_ 0, c_ 15] (bF (nF c7)) ?_
              by_cases c8 : x3 > 0
              · rw [if_pos c8] at h
                by_cases c9 : 0 ≤ (wrap64 (x3 - 1))
                · rw [if_pos c9] at h
                  by_cases c10 : (wrap64 (x3 - 1)) < (a0.f1.length : Int)
                  · rw [if_pos c10] at h
                    by_cases c11 : (at_ a0.f1 (wrap64 (x3 - 1))).f2 ≥ (at_ a0.f1 x3).f1
                    · rw [if_pos c11] at h
                      refine .reg' [1, 3, 71] [.no, .no, .v (B true), .no, .no, .no, .no, .no, .no, .v (I (at_ a0.f1 (wrap64 (x3 - 1))).f2), .no, .no, .no, .v (B true)] ⟨[(1, (.pt 256 0 2)), (3, (I x3)), (71, (B true))], [(256, [(S a0.f0), (.sl true a0.f1.length 3 (a0.f1.flatMap e48))]), (1797, [(I (at_ a0.f1 x3).f0), (I (at_ a0.f1 x3).f1), (I (at_ a0.f1 x3).f2)])], [(B (decide (x3 > 0)) : V) = B true, 2 = 2 ∧ 1 + 1 ≤ 2, (0 : Int) ≤ (wrap64 (x3 - 1)) ∧ (wrap64 (x3 - 1)) < (a0.f1.length : Int), rdC prog 3 (((a0.f1.flatMap e48).drop ((wrap64 (x3 - 1)).toNat * 3)).drop 2) = (I (at_ a0.f1 (wrap64 (x3 - 1))).f2), 1 ≤ (((a0.f1.flatMap e48).drop ((wrap64 (x3 - 1)).toNat * 3)).drop 2).length, 3 = 3 ∧ 1 + 1 ≤ 3, (B (decide ((at_ a0.f1 (wrap64 (x3 - 1))).f2 ≥ (at_ a0.f1 x3).f1)) : V) = B true], []⟩ [c_ 7463, b_ 1, c_ 467, l_ 58, b_ 0, c_ 15] (alc (bT (dT c8)) (alc ⟨rfl, by decide⟩ (alc ⟨c9, c10⟩ (alc (ldC e48_ok 2 (by decide) rfl c9 c10) (alc (okIj e48_ok c9 c10 (by decide)) (alc ⟨rfl, by decide⟩ (alc (bT (dT c11)) aln))))))) nocal ?_
                      refine .cond' (.tmp 71) true [c_ 29852, c_ 29853, b_ 1, c_ 467, l_ 58, b_ 0, c_ 15] (rfl) ?_
                      refine .reg' [2] [] ⟨[(2, (B false))], [(256, [(S a0.f0), (.sl true a0.f1.length 3 (a0.f1.flatMap e48))]), (1797, [(I (at_ a0.f1 x3).f0), (I (at_ a0.f1 x3).f1), (I (at_ a0.f1 x3).f2)])], [], []⟩ [c_ 29853, b_ 1, c_ 467, l_ 58, b_ 0, c_ 15] aln nocal ?_
                      have h := Option.some.inj h
                      subst h
                      exact .fin0 [] (B false) [] aln (.z .s)
                    · rw [if_neg c11] at h
                      refine .reg' [1, 3, 71] [.no, .no, .v (B true), .no, .no, .no, .no, .no, .no, .v (I (at_ a0.f1 (wrap64 (x3 - 1))).f2), .no, .no, .no, .v (B false), .no, .no, .no, .no, .no, .no, .v (I (at_ a0.f1 (wrap64 (x3 - 1))).f0)] ⟨[(1, (.pt 256 0 2)), (3, (I x3)), (71, (B ((at_ a0.f1 (wrap64 (x3 - 1))).f0 == (at_ a0.f1 x3).f0)))], [(256, [(S a0.f0), (.sl true a0.f1.length 3 (a0.f1.flatMap e48))]), (1797, [(I (at_ a0.f1 x3).f0), (I (at_ a0.f1 x3).f1), (I (at_ a0.f1 x3).f2)])], [(B (decide (x3 > 0)) : V) = B true, 2 = 2 ∧ 1 + 1 ≤ 2, (0 : Int) ≤ (wrap64 (x3 - 1)) ∧ (wrap64 (x3 - 1)) < (a0.f1.length : Int), rdC prog 3 (((a0.f1.flatMap e48).drop ((wrap64 (x3 - 1)).toNat * 3)).drop 2) = (I (at_ a0.f1 (wrap64 (x3 - 1))).f2), 1 ≤ (((a0.f1.flatMap e48).drop ((wrap64 (x3 - 1)).toNat * 3)).drop 2).length, 3 = 3 ∧ 1 + 1 ≤ 3, (B (decide ((at_ a0.f1 (wrap64 (x3 - 1))).f2 ≥ (at_ a0.f1 x3).f1)) : V) = B false, 2 = 2 ∧ 1 + 1 ≤ 2, (0 : Int) ≤ (wrap64 (x3 - 1)) ∧ (wrap64 (x3 - 1)) < (a0.f1.length : Int), rdC prog 3 (((a0.f1.flatMap e48).drop ((wrap64 (x3 - 1)).toNat * 3)).drop 0) = (I (at_ a0.f1 (wrap64 (x3 - 1))).f0), 1 ≤ (((a0.f1.flatMap e48).drop ((wrap64 (x3 - 1)).toNat * 3)).drop 0).length, 3 = 3 ∧ 0 + 1 ≤ 3], []⟩ [c_ 7463, b_ 1, c_ 467, l_ 58, b_ 0, c_ 15] (alc (bT (dT c8)) (alc ⟨rfl, by decide⟩ (alc ⟨c9, c10⟩ (alc (ldC e48_ok 2 (by decide) rfl c9 c10) (alc (okIj e48_ok c9 c10 (by decide)) (alc ⟨rfl, by decide⟩ (alc (bF (dF c11)) (alc ⟨rfl, by decide⟩ (alc ⟨c9, c10⟩ (alc (ldC e48_ok 0 (by decide) rfl c9 c10) (alc (okIj e48_ok c9 c10 (by decide)) (alc ⟨rfl, by decide⟩ aln)))))))))))) nocal ?_
                      by_cases c12 : (at_ a0.f1 (wrap64 (x3 - 1))).f0 = (at_ a0.f1 x3).f0
                      · rw [if_pos c12] at h
                        refine .cond' (.tmp 71) true [c_ 29852, c_ 29853, b_ 1, c_ 467, l_ 58, b_ 0, c_ 15] (bT (qT c12)) ?_
                        refine .reg' [2] [] ⟨[(2, (B false))], [(256, [(S a0.f0), (.sl true a0.f1.length 3 (a0.f1.flatMap e48))]), (1797, [(I (at_ a0.f1 x3).f0), (I (at_ a0.f1 x3).f1), (I (at_ a0.f1 x3).f2)])], [], []⟩ [c_ 29853, b_ 1, c_ 467, l_ 58, b_ 0, c_ 15] aln nocal ?_
                        have h := Option.some.inj h
                        subst h
                        exact .fin0 [] (B false) [] aln (.z .s)
                      · rw [if_neg c12] at h
                        refine .cond' (.tmp 71) false [c_ 467, l_ 58, b_ 0, c_ 15] (bF (qF c12)) ?_
                        refine .reg' [1, 3] [] ⟨[(1, (.pt 256 0 2)), (3, (I (wrap64 (x3 + 1))))], [(256, [(S a0.f0), (.sl true a0.f1.length 3 (a0.f1.flatMap e48))]), (1797, [(I (at_ a0.f1 x3).f0), (I (at_ a0.f1 x3).f1), (I (at_ a0.f1 x3).f2)])], [], []⟩ [l_ 58, b_ 0, c_ 15] aln nocal ?_
                        refine .wk' [] [(256, 256)] [(1, (.pt 256 0 2)), (3, (I (wrap64 (x3 + 1))))] [(256, [(S a0.f0), (.sl true a0.f1.length 3 (a0.f1.flatMap e48))])] (shc 256 (a2c (.z .s) (a2c (.z (frz_sl e48_ok (fun h => h))) a2n)) shn) (enc_ (.pt (memP_mem (p := (256, 256)) rfl)) (enc_ (.z .s) enn)) ?_
                        exact ih0 a0 (wrap64 (x3 + 1)) _ h
                  · rw [if_neg c10] at h
                    cases h
                · rw [if_neg c9] at h
                  cases h
              · rw [if_neg c8] at h
                refine .reg' [1, 3, 71] [.no, .no, .v (B false)] ⟨[(1, (.pt 256 0 2)), (3, (I x3)), (71, (B false))], [(256, [(S a0.f0), (.sl true a0.f1.length 3 (a0.f1.flatMap e48))]), (1797, [(I (at_ a0.f1 x3).f0), (I (at_ a0.f1 x3).f1), (I (at_ a0.f1 x3).f2)])], [(B (decide (x3 > 0)) : V) = B false], []⟩ [c_ 7463, b_ 1, c_ 467, l_ 58, b_ 0, c_ 15] (alc (bF (dF c8)) aln) nocal ?_
                refine .cond' (.tmp 71) false [c_ 467, l_ 58, b_ 0, c_ 15] (rfl) ?_
                refine .reg' [1, 3] [] ⟨[(1, (.pt 256 0 2)), (3, (I (wrap64 (x3 + 1))))], [(256, [(S a0.f0), (.sl true a0.f1.length 3 (a0.f1.flatMap e48))]), (1797, [(I (at_ a0.f1 x3).f0), (I (at_ a0.f1 x3).f1), (I (at_ a0.f1 x3).f2)])], [], []⟩ [l_ 58, b_ 0, c_ 15] aln nocal ?_
                refine .wk' [] [(256, 256)] [(1, (.pt 256 0 2)), (3, (I (wrap64 (x3 + 1))))] [(256, [(S a0.f0), (.sl true a0.f1.length 3 (a0.f1.flatMap e48))])] (shc 256 (a2c (.z .s) (a2c (.z (frz_sl e48_ok (fun h => h))) a2n)) shn) (enc_ (.pt (memP_mem (p := (256, 256)) rfl)) (enc_ (.z .s) enn)) ?_
                exact ih0 a0 (wrap64 (x3 + 1)) _ h
            · rw [if_neg c7] at h
              refine .cond' (.tmp 45) true [c_ 29844, c_ 29845, c_ 3731, b_ 1, c_ 467, l_ 58, b_ 0, c_ 15] (bT (nT (vF c7))) ?_
              refine .reg' [2] [] ⟨[(2, (B false))], [(256, [(S a0.f0), (.sl true a0.f1.length 3 (a0.f1.flatMap e48))]), (1797, [(I (at_ a0.f1 x3).f0), (I (at_ a0.f1 x3).f1), (I (at_ a0.f1 x3).f2)])], [], []⟩ [c_ 29845, c_ 3731, b_ 1, c_ 467, l_ 58, b_ 0, c_ 15] aln nocal ?_
              have h := Option.some.inj h
              subst h
              exact .fin0 [] (B false) [] aln (.z .s)
          · rw [if_neg c6] at h
            refine .reg' [1, 3, 4, 45] [.no, .no, .c ⟨38, [(I (at_ a0.f1 x3).f0), (I 0), (I 29)], [], (B x4), [], [], [], [], (B x4), []⟩, .no, .v (B false), .no, .no, .c ⟨38, [(I (at_ a0.f1 x3).f2), (I 0), (I 100000)], [], (B x5), [], [], [], [], (B x5), []⟩, .no, .no, .v (B true)] ⟨[(1, (.pt 256 0 2)), (3, (I x3)), (4, (.pt 1797 0 3)), (45, (B true))], [(256, [(S a0.f0), (.sl true a0.f1.length 3 (a0.f1.flatMap e48))]), (1797, [(I (at_ a0.f1 x3).f0), (I (at_ a0.f1 x3).f1), (I (at_ a0.f1 x3).f2)])], [3 = 3 ∧ 0 + 1 ≤ 3, COK (hget [(256, [(S a0.f0), (.sl true a0.f1.length 3 (a0.f1.flatMap e48))]), (1797, [(I (at_ a0.f1 x3).f0), (I (at_ a0.f1 x3).f1), (I (at_ a0.f1 x3).f2)])]) [(I (at_ a0.f1 x3).f0), (I 0), (I 29)] ⟨38, [(I (at_ a0.f1 x3).f0), (I 0), (I 29)], [], (B x4), [], [], [], [], (B x4), []⟩, (B (!x4) : V) = B false, 3 = 3 ∧ 2 + 1 ≤ 3, COK (hget [(256, [(S a0.f0), (.sl true a0.f1.length 3 (a0.f1.flatMap e48))]), (1797, [(I (at_ a0.f1 x3).f0), (I (at_ a0.f1 x3).f1), (I (at_ a0.f1 x3).f2)])]) [(I (at_ a0.f1 x3).f2), (I 0), (I 100000)] ⟨38, [(I (at_ a0.f1 x3).f2), (I 0), (I 100000)], [], (B x5), [], [], [], [], (B x5), []⟩, (B (!x5) : V) = B true], [⟨38, [(I (at_ a0.f1 x3).f0), (I 0), (I 29)], [], (B x4), [], [], [], [], (B x4), []⟩, ⟨38, [(I (at_ a0.f1 x3).f2), (I 0), (I 100000)], [], (B x5), [], [], [], [], (B x5), []⟩]⟩ [c_ 7461, c_ 3731, b_ 1, c_ 467, l_ 58, b_ 0, c_ 15] (alc ⟨rfl, by decide⟩ (alc (cok0 false (a2c (.z .s) (a2c (.z .s) (a2c (.z .s) a2n))) (.z .s) (fun h => absurd h (by decide))) (alc (bF (nF c5)) (alc ⟨rfl, by decide⟩ (alc (cok0 false (a2c (.z .s) (a2c (.z .s) (a2c (.z .s) a2n))) (.z .s) (fun h => absurd h (by decide))) (alc (bT (nT (vF c6))) aln)))))) (acal (spec_l01In.J ((at_ a0.f1 x3).f0) 0 29 _ hx4) (acal (spec_l01In.J ((at_ a0.f1 x3).f2) 0 100000 _ hx5) nocal)) ?_
            refine .cond' (.tmp 45) true [c_ 29844, c_ 29845, c_ 3731, b_ 1, c_ 467, l_ 58, b_ 0, c_ 15] (rfl) ?_
            refine .reg' [2] [] ⟨[(2, (B false))], [(256, [(S a0.f0), (.sl true a0.f1.length 3 (a0.f1.flatMap e48))]), (1797, [(I (at_ a0.f1 x3).f0), (I (at_ a0.f1 x3).f1), (I (at_ a0.f1 x3).f2)])], [], []⟩ [c_ 29845, c_ 3731, b_ 1, c_ 467, l_ 58, b_ 0, c_ 15] aln nocal ?_
            have h := Option.some.inj h
            subst h
            exact .fin0 [] (B false) [] aln (.z .s)
        · rw [if_neg c5] at h
          refine .reg' [1, 3, 4, 45] [.no, .no, .c ⟨38, [(I (at_ a0.f1 x3).f0), (I 0), (I 29)], [], (B x4), [], [], [], [], (B x4), []⟩, .no, .v (B true)] ⟨[(1, (.pt 256 0 2)), (3, (I x3)), (4, (.pt 1797 0 3)), (45, (B true))], [(256, [(S a0.f0), (.sl true a0.f1.length 3 (a0.f1.flatMap e48))]), (1797, [(I (at_ a0.f1 x3).f0), (I (at_ a0.f1 x3).f1), (I (at_ a0.f1 x3).f2)])], [3 = 3 ∧ 0 + 1 ≤ 3, COK (hget [(256, [(S a0.f0), (.sl true a0.f1.length 3 (a0.f1.flatMap e48))]), (1797, [(I (at_ a0.f1 x3).f0), (I (at_ a0.f1 x3).f1), (I (at_ a0.f1 x3).f2)])]) [(I (at_ a0.f1 x3).f0), (I 0), (I 29)] ⟨38, [(I (at_ a0.f1 x3).f0), (I 0), (I 29)], [], (B x4), [], [], [], [], (B x4), []⟩, (B (!x4) : V) = B true], [⟨38, [(I (at_ a0.f1 x3).f0), (I 0), (I 29)], [], (B x4), [], [], [], [], (B x4), []⟩]⟩ [c_ 7461, c_ 3731, b_ 1, c_ 467, l_ 58, b_ 0, c_ 15] (alc ⟨rfl, by decide⟩ (alc (cok0 false (a2c (.z .s) (a2c (.z .s) (a2c (.z .s) a2n))) (.z .s) (fun h => absurd h (by decide))) (alc (bT (nT (vF c5))) aln))) (acal (spec_l01In.J ((at_ a0.f1 x3).f0) 0 29 _ hx4) nocal) ?_
          refine .cond' (.tmp 45) true [c_ 29844, c_ 29845, c_ 3731, b_ 1, c_ 467, l_ 58, b_ 0, c_ 15] (rfl) ?_
          refine .reg' [2] [] ⟨[(2, (B false))], [(256, [(S a0.f0), (.sl true a0.f1.length 3 (a0.f1.flatMap e48))]), (1797, [(I (at_ a0.f1 x3).f0), (I (at_ a0.f1 x3).f1), (I (at_ a0.f1 x3).f2)])], [], []⟩ [c_ 29845, c_ 3731, b_ 1, c_ 467, l_ 58, b_ 0, c_ 15] aln nocal ?_
          have h := Option.some.inj h
          subst h
          exact .fin0 [] (B false) [] aln (.z .s)
      · rw [if_neg c4] at h
        cases h
    · rw [if_neg c3] at h
      refine .cond' (.tmp 20) false [c_ 30, c_ 31] (bF (dF c3)) ?_
      refine .reg' [2] [] ⟨[(2, (B true))], [(256, [(S a0.f0), (.sl true a0.f1.length 3 (a0.f1.flatMap e48))])], [], []⟩ [c_ 31] aln nocal ?_
      have h := Option.some.inj h
      subst h
      exact .fin0 [] (B true) [] aln (.z .s)
theorem spec_TripOk.J (k : Nat) (a0 : S28) (r : Bool) (h : spec_TripOk.f k a0 = some r) : J prog (.call 31 [(.ag [(S a0.f0), (.sl true a0.f1.length 3 (a0.f1.flatMap e48))])] [] (B r) []) := by
  unfold spec_TripOk.f at h
  have ih0 := spec_TripOk.lab k
  refine .call' [c_ 2, c_ 3] ?_
  refine .reg' [1] [] ⟨[(1, (.pt 256 0 2))], [(256, [(S a0.f0), (.sl true a0.f1.length 3 (a0.f1.flatMap e48))])], [], []⟩ [c_ 12, c_ 13, c_ 7] aln nocal ?_
  obtain ⟨x1, hx1, h⟩ := Option.bind_eq_some_iff.mp h
  by_cases c1 : x1 = true
  · rw [if_pos c1] at h
    obtain ⟨x2, hx2, h⟩ := Option.bind_eq_some_iff.mp h
    refine .reg' [1, 15] [.no, .no, .c ⟨58, [(S a0.f0)], [], (B x1), [], [], [], [], (B x1), []⟩, .no, .v (B false), .no, .no, .no, .c ⟨38, [(I (a0.f1.length : Int)), (I 2), (I 12)], [], (B x2), [], [], [], [], (B x2), []⟩] ⟨[(1, (.pt 256 0 2)), (15, (B (!x2)))], [(256, [(S a0.f0), (.sl true a0.f1.length 3 (a0.f1.flatMap e48))])], [2 = 2 ∧ 0 + 1 ≤ 2, COK (hget [(256, [(S a0.f0), (.sl true a0.f1.length 3 (a0.f1.flatMap e48))])]) [(S a0.f0)] ⟨58, [(S a0.f0)], [], (B x1), [], [], [], [], (B x1), []⟩, (B (!x1) : V) = B false, 2 = 2 ∧ 1 + 1 ≤ 2, COK (hget [(256, [(S a0.f0), (.sl true a0.f1.length 3 (a0.f1.flatMap e48))])]) [(I (a0.f1.length : Int)), (I 2), (I 12)] ⟨38, [(I (a0.f1.length : Int)), (I 2), (I 12)], [], (B x2), [], [], [], [], (B x2), []⟩], [⟨58, [(S a0.f0)], [], (B x1), [], [], [], [], (B x1), []⟩, ⟨38, [(I (a0.f1.length : Int)), (I 2), (I 12)], [], (B x2), [], [], [], [], (B x2), []⟩]⟩ [c_ 13, c_ 7] (alc ⟨rfl, by decide⟩ (alc (cok0 false (a2c (.z .s) a2n) (.z .s) (fun h => absurd h (by decide))) (alc (bF (nF c1)) (alc ⟨rfl, by decide⟩ (alc (cok0 false (a2c (.z .s) (a2c (.z .s) (a2c (.z .s) a2n))) (.z .s) (fun h => absurd h (by decide))) aln))))) (acal (spec_l01Name.J k a0.f0 _ hx1) (acal (spec_l01In.J (a0.f1.length : Int) 2 12 _ hx2) nocal)) ?_
    by_cases c2 : x2 = true
    · rw [if_pos c2] at h
      refine .cond' (.tmp 15) false [c_ 28, c_ 29, c_ 15] (bF (nF c2)) ?_
      refine .reg' [1, 3] [] ⟨[(1, (.pt 256 0 2)), (3, (I 0))], [(256, [(S a0.f0), (.sl true a0.f1.length 3 (a0.f1.flatMap e48))])], [], []⟩ [l_ 58, b_ 0, c_ 15] aln nocal ?_
      exact ih0 a0 0 _ h
    · rw [if_neg c2] at h
      refine .cond' (.tmp 15) true [c_ 52, c_ 53, c_ 7] (bT (nT (vF c2))) ?_
      refine .reg' [2] [] ⟨[(2, (B false))], [(256, [(S a0.f0), (.sl true a0.f1.length 3 (a0.f1.flatMap e48))])], [], []⟩ [c_ 53, c_ 7] aln nocal ?_
      have h := Option.some.inj h
      subst h
      exact .fin0 [] (B false) [] aln (.z .s)
  · rw [if_neg c1] at h
    refine .reg' [1, 15] [.no, .no, .c ⟨58, [(S a0.f0)], [], (B x1), [], [], [], [], (B x1), []⟩, .no, .v (B true)] ⟨[(1, (.pt 256 0 2)), (15, (B true))], [(256, [(S a0.f0), (.sl true a0.f1.length 3 (a0.f1.flatMap e48))])], [2 = 2 ∧ 0 + 1 ≤ 2, COK (hget [(256, [(S a0.f0), (.sl true a0.f1.length 3 (a0.f1.flatMap e48))])]) [(S a0.f0)] ⟨58, [(S a0.f0)], [], (B x1), [], [], [], [], (B x1), []⟩, (B (!x1) : V) = B true], [⟨58, [(S a0.f0)], [], (B x1), [], [], [], [], (B x1), []⟩]⟩ [c_ 13, c_ 7] (alc ⟨rfl, by decide⟩ (alc (cok0 false (a2c (.z .s) a2n) (.z .s) (fun h => absurd h (by decide))) (alc (bT (nT (vF c1))) aln))) (acal (spec_l01Name.J k a0.f0 _ hx1) nocal) ?_
    refine .cond' (.tmp 15) true [c_ 52, c_ 53, c_ 7] (rfl) ?_
    refine .reg' [2] [] ⟨[(2, (B false))], [(256, [(S a0.f0), (.sl true a0.f1.length 3 (a0.f1.flatMap e48))])], [], []⟩ [c_ 53, c_ 7] aln nocal ?_
    have h := Option.some.inj h
    subst h
    exact .fin0 [] (B false) [] aln (.z .s)
/-! spec_TripText: function 9 -/
def spec_TripText.l0 : Nat → S28 → ByteArray → Int → Option ByteArray
 | 0, _, _, _ => none
 | k + 1, a0, x2, x3 => (if x3 < (a0.f1.length : Int) then (if 0 ≤ x3 then (if x2.size + (⟨#[32]⟩ : ByteArray).size ≤ 9223372036854775807 then ((spec_l01Num.f k ((at_ a0.f1 x3).f0)).bind fun x4 => (if (x2 ++ (⟨#[32]⟩ : ByteArray)).size + x4.size ≤ 9223372036854775807 then (if ((x2 ++ (⟨#[32]⟩ : ByteArray)) ++ x4).size + (⟨#[64]⟩ : ByteArray).size ≤ 9223372036854775807 then ((spec_TimeText.f k ((at_ a0.f1 x3).f1)).bind fun x5 => (if (((x2 ++ (⟨#[32]⟩ : ByteArray)) ++ x4) ++ (⟨#[64]⟩ : ByteArray)).size + x5.size ≤ 9223372036854775807 then (if ((((x2 ++ (⟨#[32]⟩ : ByteArray)) ++ x4) ++ (⟨#[64]⟩ : ByteArray)) ++ x5).size + (⟨#[45]⟩ : ByteArray).size ≤ 9223372036854775807 then ((spec_TimeText.f k ((at_ a0.f1 x3).f2)).bind fun x6 => (if (((((x2 ++ (⟨#[32]⟩ : ByteArray)) ++ x4) ++ (⟨#[64]⟩ : ByteArray)) ++ x5) ++ (⟨#[45]⟩ : ByteArray)).size + x6.size ≤ 9223372036854775807 then (spec_TripText.l0 k a0 ((((((x2 ++ (⟨#[32]⟩ : ByteArray)) ++ x4) ++ (⟨#[64]⟩ : ByteArray)) ++ x5) ++ (⟨#[45]⟩ : ByteArray)) ++ x6) (wrap64 (x3 + 1))) else none)) else none) else none)) else none) else none)) else none) else none) else (some x2))
def spec_TripText.f (k : Nat) (a0 : S28) : Option ByteArray := ((spec_TripOk.f k a0).bind fun x1 => (if x1 = true then (spec_TripText.l0 k a0 a0.f0 0) else (some (⟨#[]⟩ : ByteArray))))
end Go.Proofs.YtjlickinmkafbaaDoor.Fns
