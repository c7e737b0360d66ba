/- The functions that the law FnExactReadTrip reaches, by the engine. Printed by a program of this seat. -/
import Derived.Test.YtjlickinmkafbaaDoorE5
import Derived.Test.YtjlickinmkafbaaDoorProg
import Derived.Test.YtjlickinmkafbaaDoorFFnExactReadTripx0
namespace Go.Proofs.YtjlickinmkafbaaDoor.Fns
open Go.Proofs.Tryd Go.Proofs.YtjlickinmkafbaaDoor.Eng Go.RowKit
set_option maxRecDepth 100000
set_option linter.unusedVariables false
set_option linter.unusedSimpArgs false
theorem spec_TripText.lab : ∀ k, (∀ (a0 : S28) (x2 : ByteArray) (x3 : Int) (r : ByteArray), spec_TripText.l0 k a0 x2 x3 = some r → J prog (.run 9 [] [l_ 122, b_ 0, c_ 31] [(1, (.pt 256 0 2)), (3, (S x2)), (4, (I x3))] [(256, [(S a0.f0), (.sl true a0.f1.length 3 (a0.f1.flatMap e48))])] (S r) []))
 | 0 => (by intro a0 x2 x3 r h; unfold spec_TripText.l0 at h; cases h)
 | k + 1 => by
  have ih0 := spec_TripText.lab k
  · intro a0 x2 x3 r h
    unfold spec_TripText.l0 at h
    refine .loop' [c_ 976, c_ 977, c_ 489, l_ 122, b_ 0, c_ 31] ?_
    refine .reg' [1, 3, 4, 15] [] ⟨[(1, (.pt 256 0 2)), (3, (S x2)), (4, (I x3)), (15, (B (decide (x3 < (a0.f1.length : Int)))))], [(256, [(S a0.f0), (.sl true a0.f1.length 3 (a0.f1.flatMap e48))])], [2 = 2 ∧ 1 + 1 ≤ 2], []⟩ [c_ 977, c_ 489, l_ 122, b_ 0, c_ 31] (alc ⟨rfl, by decide⟩ aln) nocal ?_
    by_cases c2 : x3 < (a0.f1.length : Int)
    · rw [if_pos c2] at h
      refine .cond' (.tmp 15) true [c_ 3912, c_ 3913, b_ 1, c_ 979, l_ 122, b_ 0, c_ 31] (bT (dT c2)) ?_
      by_cases c3 : 0 ≤ x3
      · rw [if_pos c3] at h
        refine .reg' [1, 3, 4, 5] [.no, .no, .no, .no, .v (.ag [(I (at_ a0.f1 x3).f0), (I (at_ a0.f1 x3).f1), (I (at_ a0.f1 x3).f2)])] ⟨[(1, (.pt 256 0 2)), (3, (S x2)), (4, (I x3)), (5, (.pt 2053 0 3))], [(256, [(S a0.f0), (.sl true a0.f1.length 3 (a0.f1.flatMap e48))]), (2053, [(I (at_ a0.f1 x3).f0), (I (at_ a0.f1 x3).f1), (I (at_ a0.f1 x3).f2)])], [2 = 2 ∧ 1 + 1 ≤ 2, (0 : Int) ≤ x3 ∧ x3 < (a0.f1.length : Int), rdC prog 49 ((a0.f1.flatMap e48).drop (x3.toNat * 3)) = (.ag [(I (at_ a0.f1 x3).f0), (I (at_ a0.f1 x3).f1), (I (at_ a0.f1 x3).f2)]), 3 ≤ ((a0.f1.flatMap e48).drop (x3.toNat * 3)).length, 3 = 3 ∧ 0 + 3 ≤ 3], []⟩ [c_ 3913, b_ 1, c_ 979, l_ 122, b_ 0, c_ 31] (alc ⟨rfl, by decide⟩ (alc ⟨c3, c2⟩ (alc (ldA e48_ok rfl rfl c3 c2) (alc (okI e48_ok c3 c2 (by decide)) (alc ⟨rfl, by decide⟩ aln))))) nocal ?_
        by_cases c4 : x2.size + (⟨#[32]⟩ : ByteArray).size ≤ 9223372036854775807
        · rw [if_pos c4] at h
          obtain ⟨x4, hx4, h⟩ := Option.bind_eq_some_iff.mp h
          by_cases c5 : (x2 ++ (⟨#[32]⟩ : ByteArray)).size + x4.size ≤ 9223372036854775807
          · rw [if_pos c5] at h
            by_cases c6 : ((x2 ++ (⟨#[32]⟩ : ByteArray)) ++ x4).size + (⟨#[64]⟩ : ByteArray).size ≤ 9223372036854775807
            · rw [if_pos c6] at h
              obtain ⟨x5, hx5, h⟩ := Option.bind_eq_some_iff.mp h
              by_cases c7 : (((x2 ++ (⟨#[32]⟩ : ByteArray)) ++ x4) ++ (⟨#[64]⟩ : ByteArray)).size + x5.size ≤ 9223372036854775807
              · rw [if_pos c7] at h
                by_cases c8 : ((((x2 ++ (⟨#[32]⟩ : ByteArray)) ++ x4) ++ (⟨#[64]⟩ : ByteArray)) ++ x5).size + (⟨#[45]⟩ : ByteArray).size ≤ 9223372036854775807
                · rw [if_pos c8] at h
                  obtain ⟨x6, hx6, h⟩ := Option.bind_eq_some_iff.mp h
                  by_cases c9 : (((((x2 ++ (⟨#[32]⟩ : ByteArray)) ++ x4) ++ (⟨#[64]⟩ : ByteArray)) ++ x5) ++ (⟨#[45]⟩ : ByteArray)).size + x6.size ≤ 9223372036854775807
                  · rw [if_pos c9] at h
                    refine .reg' [1, 3, 4] [.no, .no, .no, .no, .c ⟨32, [(I (at_ a0.f1 x3).f0)], [], (S x4), [], [], [], [], (S x4), []⟩, .no, .no, .no, .no, .c ⟨33, [(I (at_ a0.f1 x3).f1)], [], (S x5), [], [], [], [], (S x5), []⟩, .no, .no, .no, .no, .c ⟨33, [(I (at_ a0.f1 x3).f2)], [], (S x6), [], [], [], [], (S x6), []⟩] ⟨[(1, (.pt 256 0 2)), (3, (S ((((((x2 ++ (⟨#[32]⟩ : ByteArray)) ++ x4) ++ (⟨#[64]⟩ : ByteArray)) ++ x5) ++ (⟨#[45]⟩ : ByteArray)) ++ x6))), (4, (I x3))], [(256, [(S a0.f0), (.sl true a0.f1.length 3 (a0.f1.flatMap e48))]), (2053, [(I (at_ a0.f1 x3).f0), (I (at_ a0.f1 x3).f1), (I (at_ a0.f1 x3).f2)])], [x2.size + (⟨#[32]⟩ : ByteArray).size ≤ 9223372036854775807, 3 = 3 ∧ 0 + 1 ≤ 3, COK (hget [(256, [(S a0.f0), (.sl true a0.f1.length 3 (a0.f1.flatMap e48))]), (2053, [(I (at_ a0.f1 x3).f0), (I (at_ a0.f1 x3).f1), (I (at_ a0.f1 x3).f2)])]) [(I (at_ a0.f1 x3).f0)] ⟨32, [(I (at_ a0.f1 x3).f0)], [], (S x4), [], [], [], [], (S x4), []⟩, (x2 ++ (⟨#[32]⟩ : ByteArray)).size + x4.size ≤ 9223372036854775807, ((x2 ++ (⟨#[32]⟩ : ByteArray)) ++ x4).size + (⟨#[64]⟩ : ByteArray).size ≤ 9223372036854775807, 3 = 3 ∧ 1 + 1 ≤ 3, COK (hget [(256, [(S a0.f0), (.sl true a0.f1.length 3 (a0.f1.flatMap e48))]), (2053, [(I (at_ a0.f1 x3).f0), (I (at_ a0.f1 x3).f1), (I (at_ a0.f1 x3).f2)])]) [(I (at_ a0.f1 x3).f1)] ⟨33, [(I (at_ a0.f1 x3).f1)], [], (S x5), [], [], [], [], (S x5), []⟩, (((x2 ++ (⟨#[32]⟩ : ByteArray)) ++ x4) ++ (⟨#[64]⟩ : ByteArray)).size + x5.size ≤ 9223372036854775807, ((((x2 ++ (⟨#[32]⟩ : ByteArray)) ++ x4) ++ (⟨#[64]⟩ : ByteArray)) ++ x5).size + (⟨#[45]⟩ : ByteArray).size ≤ 9223372036854775807, 3 = 3 ∧ 2 + 1 ≤ 3, COK (hget [(256, [(S a0.f0), (.sl true a0.f1.length 3 (a0.f1.flatMap e48))]), (2053, [(I (at_ a0.f1 x3).f0), (I (at_ a0.f1 x3).f1), (I (at_ a0.f1 x3).f2)])]) [(I (at_ a0.f1 x3).f2)] ⟨33, [(I (at_ a0.f1 x3).f2)], [], (S x6), [], [], [], [], (S x6), []⟩, (((((x2 ++ (⟨#[32]⟩ : ByteArray)) ++ x4) ++ (⟨#[64]⟩ : ByteArray)) ++ x5) ++ (⟨#[45]⟩ : ByteArray)).size + x6.size ≤ 9223372036854775807], [⟨32, [(I (at_ a0.f1 x3).f0)], [], (S x4), [], [], [], [], (S x4), []⟩, ⟨33, [(I (at_ a0.f1 x3).f1)], [], (S x5), [], [], [], [], (S x5), []⟩, ⟨33, [(I (at_ a0.f1 x3).f2)], [], (S x6), [], [], [], [], (S x6), []⟩]⟩ [c_ 979, l_ 122, b_ 0, c_ 31] (alc c4 (alc ⟨rfl, by decide⟩ (alc (cok0 false (a2c (.z .s) a2n) (.z .s) (fun h => absurd h (by decide))) (alc c5 (alc c6 (alc ⟨rfl, by decide⟩ (alc (cok0 false (a2c (.z .s) a2n) (.z .s) (fun h => absurd h (by decide))) (alc c7 (alc c8 (alc ⟨rfl, by decide⟩ (alc (cok0 false (a2c (.z .s) a2n) (.z .s) (fun h => absurd h (by decide))) (alc c9 aln)))))))))))) (acal (spec_l01Num.J k ((at_ a0.f1 x3).f0) _ hx4) (acal (spec_TimeText.J k ((at_ a0.f1 x3).f1) _ hx5) (acal (spec_TimeText.J k ((at_ a0.f1 x3).f2) _ hx6) nocal))) ?_
                    refine .reg' [1, 3, 4] [] ⟨[(1, (.pt 256 0 2)), (3, (S ((((((x2 ++ (⟨#[32]⟩ : ByteArray)) ++ x4) ++ (⟨#[64]⟩ : ByteArray)) ++ x5) ++ (⟨#[45]⟩ : ByteArray)) ++ x6))), (4, (I (wrap64 (x3 + 1))))], [(256, [(S a0.f0), (.sl true a0.f1.length 3 (a0.f1.flatMap e48))]), (2053, [(I (at_ a0.f1 x3).f0), (I (at_ a0.f1 x3).f1), (I (at_ a0.f1 x3).f2)])], [], []⟩ [l_ 122, b_ 0, c_ 31] aln nocal ?_
                    refine .wk' [] [(256, 256)] [(1, (.pt 256 0 2)), (3, (S ((((((x2 ++ (⟨#[32]⟩ : ByteArray)) ++ x4) ++ (⟨#[64]⟩ : ByteArray)) ++ x5) ++ (⟨#[45]⟩ : ByteArray)) ++ x6))), (4, (I (wrap64 (x3 + 1))))] [(256, [(S a0.f0), (.sl true a0.f1.length 3 (a0.f1.flatMap e48))])] (shc 256 (a2c (.z .s) (a2c (.z (frz_sl e48_ok (fun h => h))) a2n)) shn) (enc_ (.pt (memP_mem (p := (256, 256)) rfl)) (enc_ (.z .s) (enc_ (.z .s) enn))) ?_
                    exact ih0 a0 ((((((x2 ++ (⟨#[32]⟩ : ByteArray)) ++ x4) ++ (⟨#[64]⟩ : ByteArray)) ++ x5) ++ (⟨#[45]⟩ : ByteArray)) ++ x6) (wrap64 (x3 + 1)) _ h
                  · rw [if_neg c9] at h
                    cases h
                · rw [if_neg c8] at h
                  cases h
              · rw [if_neg c7] at h
                cases h
            · rw [if_neg c6] at h
              cases h
          · rw [if_neg c5] at h
            cases h
        · rw [if_neg c4] at h
          cases h
      · rw [if_neg c3] at h
        cases h
    · rw [if_neg c2] at h
      refine .cond' (.tmp 15) false [c_ 62, c_ 63] (bF (dF c2)) ?_
      refine .reg' [2] [] ⟨[(2, (S x2))], [(256, [(S a0.f0), (.sl true a0.f1.length 3 (a0.f1.flatMap e48))])], [], []⟩ [c_ 63] aln nocal ?_
      have h := Option.some.inj h
      subst h
      exact .fin0 [] (S x2) [] aln (.z .s)
theorem spec_TripText.J (k : Nat) (a0 : S28) (r : ByteArray) (h : spec_TripText.f k a0 = some r) : J prog (.call 9 [(.ag [(S a0.f0), (.sl true a0.f1.length 3 (a0.f1.flatMap e48))])] [] (S r) []) := by
  unfold spec_TripText.f at h
  have ih0 := spec_TripText.lab k
  refine .call' [c_ 2, c_ 3] ?_
  refine .reg' [1] [] ⟨[(1, (.pt 256 0 2))], [(256, [(S a0.f0), (.sl true a0.f1.length 3 (a0.f1.flatMap e48))])], [], []⟩ [c_ 12, c_ 13, c_ 7] aln nocal ?_
  obtain ⟨x1, hx1, h⟩ := Option.bind_eq_some_iff.mp h
  refine .reg' [1, 8] [.no, .c ⟨31, [(.ag [(S a0.f0), (.sl true a0.f1.length 3 (a0.f1.flatMap e48))])], [], (B x1), [], [], [], [], (B x1), []⟩] ⟨[(1, (.pt 256 0 2)), (8, (B (!x1)))], [(256, [(S a0.f0), (.sl true a0.f1.length 3 (a0.f1.flatMap e48))])], [2 = 2 ∧ 0 + 2 ≤ 2, COK (hget [(256, [(S a0.f0), (.sl true a0.f1.length 3 (a0.f1.flatMap e48))])]) [(.ag [(S a0.f0), (.sl true a0.f1.length 3 (a0.f1.flatMap e48))])] ⟨31, [(.ag [(S a0.f0), (.sl true a0.f1.length 3 (a0.f1.flatMap e48))])], [], (B x1), [], [], [], [], (B x1), []⟩], [⟨31, [(.ag [(S a0.f0), (.sl true a0.f1.length 3 (a0.f1.flatMap e48))])], [], (B x1), [], [], [], [], (B x1), []⟩]⟩ [c_ 13, c_ 7] (alc ⟨rfl, by decide⟩ (alc (cok0 false (a2c (.z (frz_ag (a2c .s (a2c (frz_sl e48_ok (fun h => h)) a2n)))) a2n) (.z .s) (fun h => absurd h (by decide))) aln)) (acal (spec_TripOk.J k a0 _ hx1) nocal) ?_
  by_cases c1 : x1 = true
  · rw [if_pos c1] at h
    refine .cond' (.tmp 8) false [c_ 14, c_ 15] (bF (nF c1)) ?_
    refine .reg' [1, 3] [] ⟨[(1, (.pt 256 0 2)), (3, (S a0.f0))], [(256, [(S a0.f0), (.sl true a0.f1.length 3 (a0.f1.flatMap e48))])], [2 = 2 ∧ 0 + 1 ≤ 2], []⟩ [c_ 60, c_ 61, c_ 31] (alc ⟨rfl, by decide⟩ aln) nocal ?_
    refine .reg' [1, 3, 4] [] ⟨[(1, (.pt 256 0 2)), (3, (S a0.f0)), (4, (I 0))], [(256, [(S a0.f0), (.sl true a0.f1.length 3 (a0.f1.flatMap e48))])], [], []⟩ [l_ 122, b_ 0, c_ 31] aln nocal ?_
    exact ih0 a0 a0.f0 0 _ h
  · rw [if_neg c1] at h
    refine .cond' (.tmp 8) true [c_ 52, c_ 53, c_ 7] (bT (nT (vF c1))) ?_
    refine .reg' [2] [] ⟨[(2, (S (⟨#[]⟩ : ByteArray)))], [(256, [(S a0.f0), (.sl true a0.f1.length 3 (a0.f1.flatMap e48))])], [], []⟩ [c_ 53, c_ 7] aln nocal ?_
    have h := Option.some.inj h
    subst h
    exact .fin0 [] (S (⟨#[]⟩ : ByteArray)) [] aln (.z .s)
/-! spec_ReadTrip: function 19 -/
def spec_ReadTrip.l0 : Nat → ByteArray → (List ByteArray) → (List S48) → Int → Option (S28 × Bool)
 | 0, _, _, _, _ => none
 | k + 1, a0, x1, x2, x3 => (if x3 < (x1.length : Int) then (if 0 ≤ x3 then ((spec_l08Split.f k (at_ x1 x3) 64).bind fun x4 => (if (x4.length : Int) = 2 then (if 1 < (x4.length : Int) then ((spec_l08Split.f k (at_ x4 1) 45).bind fun x5 => (if (x5.length : Int) = 2 then (if 0 < (x4.length : Int) then ((spec_l08Number.f k (at_ x4 0)).bind fun x6 => (if 0 < (x5.length : Int) then ((spec_ReadTime.f k (at_ x5 0)).bind fun x7 => (if 1 < (x5.length : Int) then ((spec_ReadTime.f k (at_ x5 1)).bind fun x8 => (if (x2.length + ([(⟨x6, x7, x8⟩ : S48)] : List S48).length) * 24 ≤ 70368744177664 then (spec_ReadTrip.l0 k a0 x1 (x2 ++ ([(⟨x6, x7, x8⟩ : S48)] : List S48)) (wrap64 (x3 + 1))) else none)) else none)) else none)) else none) else (some ((⟨ByteArray.empty, ([] : List S48)⟩ : S28), false)))) else none) else (some ((⟨ByteArray.empty, ([] : List S48)⟩ : S28), false)))) else none) else ((spec_TripOk.f k (⟨(at_ x1 0), x2⟩ : S28)).bind fun x9 => (if x9 = true then ((spec_TripText.f k (⟨(at_ x1 0), x2⟩ : S28)).bind fun x10 => (if (sEq x10 a0) = true then (some ((⟨(at_ x1 0), x2⟩ : S28), true)) else (some ((⟨ByteArray.empty, ([] : List S48)⟩ : S28), false)))) else (some ((⟨ByteArray.empty, ([] : List S48)⟩ : S28), false)))))
def spec_ReadTrip.f (k : Nat) (a0 : ByteArray) : Option (S28 × Bool) := (if (a0.size : Int) > 300 then (some ((⟨ByteArray.empty, ([] : List S48)⟩ : S28), false)) else ((spec_l08Split.f k a0 32).bind fun x1 => (if 0 < (x1.length : Int) then (spec_ReadTrip.l0 k a0 x1 ([] : List S48) 1) else none)))
theorem spec_ReadTrip.lab : ∀ k, (∀ (a0 : ByteArray) (x1 : (List ByteArray)) (x2 : (List S48)) (x3 : Int) (r : (S28 × Bool)), spec_ReadTrip.l0 k a0 x1 x2 x3 = some r → J prog (.run 19 [] [l_ 250, b_ 0, c_ 63] [(0, (S a0)), (2, (.pt 256 0 2)), (4, (.rf 1001025 0 x1.length 1 (x1.length * 1))), (5, (.pt 1284 0 2)), (6, (I x3))] [(3020545, (x2.flatMap e48)), (256, [(S ByteArray.empty), nilS]), (1001025, (x1.flatMap encS)), (1284, [(S (at_ x1 0)), (.rf 3020545 0 x2.length 3 (x2.length * 3))])] (.tp [(.ag [(S r.1.f0), (.rf 3020545 0 r.1.f1.length 3 (r.1.f1.length * 3))]), (B r.2)]) [(3020545, (r.1.f1.flatMap e48))]))
 | 0 => (by intro a0 x1 x2 x3 r h; unfold spec_ReadTrip.l0 at h; cases h)
 | k + 1 => by
  have ih0 := spec_ReadTrip.lab k
  · intro a0 x1 x2 x3 r h
    unfold spec_ReadTrip.l0 at h
    refine .loop' [c_ 2000, c_ 2001, c_ 1001, l_ 250, b_ 0, c_ 63] ?_
    refine .reg' [0, 2, 4, 5, 6, 22] [] ⟨[(0, (S a0)), (2, (.pt 256 0 2)), (4, (.rf 1001025 0 x1.length 1 (x1.length * 1))), (5, (.pt 1284 0 2)), (6, (I x3)), (22, (B (decide (x3 < (x1.length : Int)))))], [(3020545, (x2.flatMap e48)), (256, [(S ByteArray.empty), nilS]), (1001025, (x1.flatMap encS)), (1284, [(S (at_ x1 0)), (.rf 3020545 0 x2.length 3 (x2.length * 3))])], [], []⟩ [c_ 2001, c_ 1001, l_ 250, b_ 0, c_ 63] aln nocal ?_
    by_cases c3 : x3 < (x1.length : Int)
    · rw [if_pos c3] at h
      refine .cond' (.tmp 22) true [c_ 8008, c_ 8009, b_ 1, c_ 2003, l_ 250, b_ 0, c_ 63] (bT (dT c3)) ?_
      by_cases c4 : 0 ≤ x3
      · rw [if_pos c4] at h
        obtain ⟨x4, hx4, h⟩ := Option.bind_eq_some_iff.mp h
        refine .reg' [0, 2, 4, 5, 6, 7] [.no, .no, .no, .v (S (at_ x1 x3)), .c ⟨45, [(S (at_ x1 x3)), (U 64)], [], (.rf 512 0 x4.length 1 (x4.length * 1)), [(512, (x4.flatMap encS))], [], [], [(1002308, 512)], (.rf 1002308 0 x4.length 1 (x4.length * 1)), [(1002308, (x4.flatMap encS))]⟩] ⟨[(0, (S a0)), (2, (.pt 256 0 2)), (4, (.rf 1001025 0 x1.length 1 (x1.length * 1))), (5, (.pt 1284 0 2)), (6, (I x3)), (7, (.rf 1002308 0 x4.length 1 (x4.length * 1)))], [(3020545, (x2.flatMap e48)), (256, [(S ByteArray.empty), nilS]), (1001025, (x1.flatMap encS)), (1284, [(S (at_ x1 0)), (.rf 3020545 0 x2.length 3 (x2.length * 3))]), (1002308, (x4.flatMap encS))], [(0 : Int) ≤ x3 ∧ x3 < (x1.length : Int), rdC prog 9 ((x1.flatMap encS).drop (0 + x3.toNat * 1)) = (S (at_ x1 x3)), x1.length * 1 = (x1.flatMap encS).length ∧ 0 + x3.toNat * 1 + 1 ≤ (x1.flatMap encS).length, COK (hget [(3020545, (x2.flatMap e48)), (256, [(S ByteArray.empty), nilS]), (1001025, (x1.flatMap encS)), (1284, [(S (at_ x1 0)), (.rf 3020545 0 x2.length 3 (x2.length * 3))])]) [(S (at_ x1 x3)), (U 64)] ⟨45, [(S (at_ x1 x3)), (U 64)], [], (.rf 512 0 x4.length 1 (x4.length * 1)), [(512, (x4.flatMap encS))], [], [], [(1002308, 512)], (.rf 1002308 0 x4.length 1 (x4.length * 1)), [(1002308, (x4.flatMap encS))]⟩], [⟨45, [(S (at_ x1 x3)), (U 64)], [], (.rf 512 0 x4.length 1 (x4.length * 1)), [(512, (x4.flatMap encS))], [], [], [(1002308, 512)], (.rf 1002308 0 x4.length 1 (x4.length * 1)), [(1002308, (x4.flatMap encS))]⟩]⟩ [c_ 32036, c_ 32037, c_ 16019, b_ 1, c_ 2003, l_ 250, b_ 0, c_ 63] (alc ⟨c4, c3⟩ (alc (ldC01 encS_ok rfl c4 c3) (alc (okA0 encS_ok c4 c3 (by decide)) (alc (cokW false (a2c (.z .s) (a2c (.z .s) a2n)) akn (akc (.inr rfl) akn) (.rf (memP_mem (p := (1002308, 512)) rfl)) (akc ⟨_, _, rfl, rfl, rowB encS_c _⟩ akn) (fun h => absurd h (by decide))) aln)))) (acal (spec_l08Split.J k (at_ x1 x3) 64 _ hx4) nocal) ?_
        refine .reg' [0, 2, 4, 5, 6, 7, 32] [] ⟨[(0, (S a0)), (2, (.pt 256 0 2)), (4, (.rf 1001025 0 x1.length 1 (x1.length * 1))), (5, (.pt 1284 0 2)), (6, (I x3)), (7, (.rf 1002308 0 x4.length 1 (x4.length * 1))), (32, (B (!((x4.length : Int) == 2))))], [(3020545, (x2.flatMap e48)), (256, [(S ByteArray.empty), nilS]), (1001025, (x1.flatMap encS)), (1284, [(S (at_ x1 0)), (.rf 3020545 0 x2.length 3 (x2.length * 3))]), (1002308, (x4.flatMap encS))], [], []⟩ [c_ 32037, c_ 16019, b_ 1, c_ 2003, l_ 250, b_ 0, c_ 63] aln nocal ?_
        by_cases c5 : (x4.length : Int) = 2
        · rw [if_pos c5] at h
          refine .cond' (.tmp 32) false [c_ 32038, c_ 32039, b_ 1, c_ 2003, l_ 250, b_ 0, c_ 63] (bF (nF (qT c5))) ?_
          by_cases c6 : 1 < (x4.length : Int)
          · rw [if_pos c6] at h
            obtain ⟨x5, hx5, h⟩ := Option.bind_eq_some_iff.mp h
            refine .reg' [0, 2, 4, 5, 6, 7, 8] [.no, .no, .v (S (at_ x4 1)), .c ⟨45, [(S (at_ x4 1)), (U 45)], [], (.rf 512 0 x5.length 1 (x5.length * 1)), [(512, (x5.flatMap encS))], [], [], [(1003075, 512)], (.rf 1003075 0 x5.length 1 (x5.length * 1)), [(1003075, (x5.flatMap encS))]⟩] ⟨[(0, (S a0)), (2, (.pt 256 0 2)), (4, (.rf 1001025 0 x1.length 1 (x1.length * 1))), (5, (.pt 1284 0 2)), (6, (I x3)), (7, (.rf 1002308 0 x4.length 1 (x4.length * 1))), (8, (.rf 1003075 0 x5.length 1 (x5.length * 1)))], [(3020545, (x2.flatMap e48)), (256, [(S ByteArray.empty), nilS]), (1001025, (x1.flatMap encS)), (1284, [(S (at_ x1 0)), (.rf 3020545 0 x2.length 3 (x2.length * 3))]), (1002308, (x4.flatMap encS)), (1003075, (x5.flatMap encS))], [(0 : Int) ≤ 1 ∧ 1 < (x4.length : Int), rdC prog 9 ((x4.flatMap encS).drop (0 + (1 : Int).toNat * 1)) = (S (at_ x4 1)), x4.length * 1 = (x4.flatMap encS).length ∧ 0 + (1 : Int).toNat * 1 + 1 ≤ (x4.flatMap encS).length, COK (hget [(3020545, (x2.flatMap e48)), (256, [(S ByteArray.empty), nilS]), (1001025, (x1.flatMap encS)), (1284, [(S (at_ x1 0)), (.rf 3020545 0 x2.length 3 (x2.length * 3))]), (1002308, (x4.flatMap encS))]) [(S (at_ x4 1)), (U 45)] ⟨45, [(S (at_ x4 1)), (U 45)], [], (.rf 512 0 x5.length 1 (x5.length * 1)), [(512, (x5.flatMap encS))], [], [], [(1003075, 512)], (.rf 1003075 0 x5.length 1 (x5.length * 1)), [(1003075, (x5.flatMap encS))]⟩], [⟨45, [(S (at_ x4 1)), (U 45)], [], (.rf 512 0 x5.length 1 (x5.length * 1)), [(512, (x5.flatMap encS))], [], [], [(1003075, 512)], (.rf 1003075 0 x5.length 1 (x5.length * 1)), [(1003075, (x5.flatMap encS))]⟩]⟩ [c_ 128156, c_ 128157, c_ 64079, b_ 1, c_ 2003, l_ 250, b_ 0, c_ 63] (alc ⟨(by decide), c6⟩ (alc (ldC01 encS_ok rfl (by decide) c6) (alc (okA0 encS_ok (by decide) c6 (by decide)) (alc (cokW false (a2c (.z .s) (a2c (.z .s) a2n)) akn (akc (.inr rfl) akn) (.rf (memP_mem (p := (1003075, 512)) rfl)) (akc ⟨_, _, rfl, rfl, rowB encS_c _⟩ akn) (fun h => absurd h (by decide))) aln)))) (acal (spec_l08Split.J k (at_ x4 1) 45 _ hx5) nocal) ?_
            refine .reg' [0, 2, 4, 5, 6, 7, 8, 40] [] ⟨[(0, (S a0)), (2, (.pt 256 0 2)), (4, (.rf 1001025 0 x1.length 1 (x1.length * 1))), (5, (.pt 1284 0 2)), (6, (I x3)), (7, (.rf 1002308 0 x4.length 1 (x4.length * 1))), (8, (.rf 1003075 0 x5.length 1 (x5.length * 1))), (40, (B (!((x5.length : Int) == 2))))], [(3020545, (x2.flatMap e48)), (256, [(S ByteArray.empty), nilS]), (1001025, (x1.flatMap encS)), (1284, [(S (at_ x1 0)), (.rf 3020545 0 x2.length 3 (x2.length * 3))]), (1002308, (x4.flatMap encS)), (1003075, (x5.flatMap encS))], [], []⟩ [c_ 128157, c_ 64079, b_ 1, c_ 2003, l_ 250, b_ 0, c_ 63] aln nocal ?_
            by_cases c7 : (x5.length : Int) = 2
            · rw [if_pos c7] at h
              refine .cond' (.tmp 40) false [c_ 64079, b_ 1, c_ 2003, l_ 250, b_ 0, c_ 63] (bF (nF (qT c7))) ?_
              by_cases c8 : 0 < (x4.length : Int)
              · rw [if_pos c8] at h
                obtain ⟨x6, hx6, h⟩ := Option.bind_eq_some_iff.mp h
                by_cases c9 : 0 < (x5.length : Int)
                · rw [if_pos c9] at h
                  obtain ⟨x7, hx7, h⟩ := Option.bind_eq_some_iff.mp h
                  by_cases c10 : 1 < (x5.length : Int)
                  · rw [if_pos c10] at h
                    obtain ⟨x8, hx8, h⟩ := Option.bind_eq_some_iff.mp h
                    by_cases c11 : (x2.length + ([(⟨x6, x7, x8⟩ : S48)] : List S48).length) * 24 ≤ 70368744177664
                    · rw [if_pos c11] at h
                      refine .reg' [0, 2, 4, 5, 6] [.no, .no, .no, .no, .v (S (at_ x4 0)), .c ⟨46, [(S (at_ x4 0))], [], (I x6), [], [], [], [], (I x6), []⟩, .no, .no, .v (S (at_ x5 0)), .c ⟨47, [(S (at_ x5 0))], [], (I x7), [], [], [], [], (I x7), []⟩, .no, .no, .v (S (at_ x5 1)), .c ⟨47, [(S (at_ x5 1))], [], (I x8), [], [], [], [], (I x8), []⟩, .no, .no, .w (.rf 3020545 0 ((x2 ++ ([(⟨x6, x7, x8⟩ : S48)] : List S48)).length) 3 ((x2 ++ ([(⟨x6, x7, x8⟩ : S48)] : List S48)).length * 3)) ((x2 ++ ([(⟨x6, x7, x8⟩ : S48)] : List S48)).flatMap e48)] ⟨[(0, (S a0)), (2, (.pt 256 0 2)), (4, (.rf 1001025 0 x1.length 1 (x1.length * 1))), (5, (.pt 1284 0 2)), (6, (I x3))], [(3020545, ((x2 ++ ([(⟨x6, x7, x8⟩ : S48)] : List S48)).flatMap e48)), (256, [(S ByteArray.empty), nilS]), (1001025, (x1.flatMap encS)), (1284, [(S (at_ x1 0)), (.rf 3020545 0 ((x2 ++ ([(⟨x6, x7, x8⟩ : S48)] : List S48)).length) 3 ((x2 ++ ([(⟨x6, x7, x8⟩ : S48)] : List S48)).length * 3))]), (1002308, (x4.flatMap encS)), (1003075, (x5.flatMap encS)), (3855, (([(⟨x6, x7, x8⟩ : S48)] : List S48).flatMap e48))], [2 = 2 ∧ 1 + 1 ≤ 2, (0 : Int) ≤ 0 ∧ 0 < (x4.length : Int), rdC prog 9 ((x4.flatMap encS).drop (0 + (0 : Int).toNat * 1)) = (S (at_ x4 0)), x4.length * 1 = (x4.flatMap encS).length ∧ 0 + (0 : Int).toNat * 1 + 1 ≤ (x4.flatMap encS).length, COK (hget [(3020545, (x2.flatMap e48)), (256, [(S ByteArray.empty), nilS]), (1001025, (x1.flatMap encS)), (1284, [(S (at_ x1 0)), (.rf 3020545 0 x2.length 3 (x2.length * 3))]), (1002308, (x4.flatMap encS)), (1003075, (x5.flatMap encS))]) [(S (at_ x4 0))] ⟨46, [(S (at_ x4 0))], [], (I x6), [], [], [], [], (I x6), []⟩, (0 : Int) ≤ 0 ∧ 0 < (x5.length : Int), rdC prog 9 ((x5.flatMap encS).drop (0 + (0 : Int).toNat * 1)) = (S (at_ x5 0)), x5.length * 1 = (x5.flatMap encS).length ∧ 0 + (0 : Int).toNat * 1 + 1 ≤ (x5.flatMap encS).length, COK (hget [(3020545, (x2.flatMap e48)), (256, [(S ByteArray.empty), nilS]), (1001025, (x1.flatMap encS)), (1284, [(S (at_ x1 0)), (.rf 3020545 0 x2.length 3 (x2.length * 3))]), (1002308, (x4.flatMap encS)), (1003075, (x5.flatMap encS))]) [(S (at_ x5 0))] ⟨47, [(S (at_ x5 0))], [], (I x7), [], [], [], [], (I x7), []⟩, (0 : Int) ≤ 1 ∧ 1 < (x5.length : Int), rdC prog 9 ((x5.flatMap encS).drop (0 + (1 : Int).toNat * 1)) = (S (at_ x5 1)), x5.length * 1 = (x5.flatMap encS).length ∧ 0 + (1 : Int).toNat * 1 + 1 ≤ (x5.flatMap encS).length, COK (hget [(3020545, (x2.flatMap e48)), (256, [(S ByteArray.empty), nilS]), (1001025, (x1.flatMap encS)), (1284, [(S (at_ x1 0)), (.rf 3020545 0 x2.length 3 (x2.length * 3))]), (1002308, (x4.flatMap encS)), (1003075, (x5.flatMap encS))]) [(S (at_ x5 1))] ⟨47, [(S (at_ x5 1))], [], (I x8), [], [], [], [], (I x8), []⟩, V.rf 3020545 0 (x2.length + ([(⟨x6, x7, x8⟩ : S48)] : List S48).length) 3 (x2.length * 3 + ([(⟨x6, x7, x8⟩ : S48)] : List S48).length * 3) = (.rf 3020545 0 ((x2 ++ ([(⟨x6, x7, x8⟩ : S48)] : List S48)).length) 3 ((x2 ++ ([(⟨x6, x7, x8⟩ : S48)] : List S48)).length * 3)), x2.flatMap e48 ++ (((([(⟨x6, x7, x8⟩ : S48)] : List S48).flatMap e48).drop 0).take (([(⟨x6, x7, x8⟩ : S48)] : List S48).length * 3)) = ((x2 ++ ([(⟨x6, x7, x8⟩ : S48)] : List S48)).flatMap e48), (([(⟨x6, x7, x8⟩ : S48)] : List S48).length * 3 = (([(⟨x6, x7, x8⟩ : S48)] : List S48).flatMap e48).length ∧ 0 + ([(⟨x6, x7, x8⟩ : S48)] : List S48).length * 3 ≤ (([(⟨x6, x7, x8⟩ : S48)] : List S48).flatMap e48).length) ∧ x2.length * 3 = (x2.flatMap e48).length ∧ x2.length * 3 = (x2.flatMap e48).length ∧ (x2.length + ([(⟨x6, x7, x8⟩ : S48)] : List S48).length) * 24 ≤ 70368744177664, 2 = 2 ∧ 1 + 1 ≤ 2], [⟨46, [(S (at_ x4 0))], [], (I x6), [], [], [], [], (I x6), []⟩, ⟨47, [(S (at_ x5 0))], [], (I x7), [], [], [], [], (I x7), []⟩, ⟨47, [(S (at_ x5 1))], [], (I x8), [], [], [], [], (I x8), []⟩]⟩ [c_ 2003, l_ 250, b_ 0, c_ 63] (alc ⟨rfl, by decide⟩ (alc ⟨(by decide), c8⟩ (alc (ldC01 encS_ok rfl (by decide) c8) (alc (okA0 encS_ok (by decide) c8 (by decide)) (alc (cok0 false (a2c (.z .s) a2n) (.z .s) (fun h => absurd h (by decide))) (alc ⟨(by decide), c9⟩ (alc (ldC01 encS_ok rfl (by decide) c9) (alc (okA0 encS_ok (by decide) c9 (by decide)) (alc (cok0 false (a2c (.z .s) a2n) (.z .s) (fun h => absurd h (by decide))) (alc ⟨(by decide), c10⟩ (alc (ldC01 encS_ok rfl (by decide) c10) (alc (okA0 encS_ok (by decide) c10 (by decide)) (alc (cok0 false (a2c (.z .s) a2n) (.z .s) (fun h => absurd h (by decide))) (alc (apV rfl) (alc (apR e48_ok rfl) (alc (apO e48_ok rfl c11 rfl) (alc ⟨rfl, by decide⟩ aln))))))))))))))))) (acal (spec_l08Number.J k (at_ x4 0) _ hx6) (acal (spec_ReadTime.J k (at_ x5 0) _ hx7) (acal (spec_ReadTime.J k (at_ x5 1) _ hx8) nocal))) ?_
                      refine .reg' [0, 2, 4, 5, 6] [] ⟨[(0, (S a0)), (2, (.pt 256 0 2)), (4, (.rf 1001025 0 x1.length 1 (x1.length * 1))), (5, (.pt 1284 0 2)), (6, (I (wrap64 (x3 + 1))))], [(3020545, ((x2 ++ ([(⟨x6, x7, x8⟩ : S48)] : List S48)).flatMap e48)), (256, [(S ByteArray.empty), nilS]), (1001025, (x1.flatMap encS)), (1284, [(S (at_ x1 0)), (.rf 3020545 0 ((x2 ++ ([(⟨x6, x7, x8⟩ : S48)] : List S48)).length) 3 ((x2 ++ ([(⟨x6, x7, x8⟩ : S48)] : List S48)).length * 3))]), (1002308, (x4.flatMap encS)), (1003075, (x5.flatMap encS)), (3855, (([(⟨x6, x7, x8⟩ : S48)] : List S48).flatMap e48))], [], []⟩ [l_ 250, b_ 0, c_ 63] aln nocal ?_
                      refine .wk' [] [(3020545, 3020545), (256, 256), (1001025, 1001025), (1284, 1284)] [(0, (S a0)), (2, (.pt 256 0 2)), (4, (.rf 1001025 0 x1.length 1 (x1.length * 1))), (5, (.pt 1284 0 2)), (6, (I (wrap64 (x3 + 1))))] [(3020545, ((x2 ++ ([(⟨x6, x7, x8⟩ : S48)] : List S48)).flatMap e48)), (256, [(S ByteArray.empty), nilS]), (1001025, (x1.flatMap encS)), (1284, [(S (at_ x1 0)), (.rf 3020545 0 ((x2 ++ ([(⟨x6, x7, x8⟩ : S48)] : List S48)).length) 3 ((x2 ++ ([(⟨x6, x7, x8⟩ : S48)] : List S48)).length * 3))])] (shc 3020545 (rowF e48_ok _) (shc 256 (a2c (.z .s) (a2c (.z .s) a2n)) (shc 1001025 (rowF encS_ok _) (shc 1284 (a2c (.z .s) (a2c (.rf (memP_mem (p := (3020545, 3020545)) rfl)) a2n)) shn)))) (enc_ (.z .s) (enc_ (.pt (memP_mem (p := (256, 256)) rfl)) (enc_ (.rf (memP_mem (p := (1001025, 1001025)) rfl)) (enc_ (.pt (memP_mem (p := (1284, 1284)) rfl)) (enc_ (.z .s) enn))))) ?_
                      exact ih0 a0 x1 (x2 ++ ([(⟨x6, x7, x8⟩ : S48)] : List S48)) (wrap64 (x3 + 1)) _ h
                    · rw [if_neg c11] at h
                      cases h
                  · rw [if_neg c10] at h
                    cases h
                · rw [if_neg c9] at h
                  cases h
              · rw [if_neg c8] at h
                cases h
            · rw [if_neg c7] at h
              refine .cond' (.tmp 40) true [c_ 512628, c_ 512629, c_ 64079, b_ 1, c_ 2003, l_ 250, b_ 0, c_ 63] (bT (nT (qF c7))) ?_
              refine .reg' [2, 3] [] ⟨[(2, (.pt 256 0 2)), (3, (B false))], [(3020545, (x2.flatMap e48)), (256, [(S ByteArray.empty), nilS]), (1001025, (x1.flatMap encS)), (1284, [(S (at_ x1 0)), (.rf 3020545 0 x2.length 3 (x2.length * 3))]), (1002308, (x4.flatMap encS)), (1003075, (x5.flatMap encS))], [2 = 2 ∧ 0 + 2 ≤ 2], []⟩ [c_ 512629, c_ 64079, b_ 1, c_ 2003, l_ 250, b_ 0, c_ 63] (alc ⟨rfl, by decide⟩ aln) nocal ?_
              have h := Option.some.inj h
              subst h
              refine .nl' 3020546 ?_
              exact .fin' [] [(3020546, 3020545)] (.tp [(.ag [(S ByteArray.empty), nilS]), (B false)]) [2 = 2 ∧ 0 + 2 ≤ 2] (alc ⟨rfl, by decide⟩ aln) (shc 3020546 (rowF e48_ok _) shn) (cnv_tp (a2c (cnv_ag (a2c (.z .s) (a2c (.nl (memP_mem (p := (3020546, 3020545)) rfl) rfl) a2n))) (a2c (.z .s) a2n)))
          · rw [if_neg c6] at h
            cases h
        · rw [if_neg c5] at h
          refine .cond' (.tmp 32) true [c_ 128148, c_ 128149, c_ 16019, b_ 1, c_ 2003, l_ 250, b_ 0, c_ 63] (bT (nT (qF c5))) ?_
          refine .reg' [2, 3] [] ⟨[(2, (.pt 256 0 2)), (3, (B false))], [(3020545, (x2.flatMap e48)), (256, [(S ByteArray.empty), nilS]), (1001025, (x1.flatMap encS)), (1284, [(S (at_ x1 0)), (.rf 3020545 0 x2.length 3 (x2.length * 3))]), (1002308, (x4.flatMap encS))], [2 = 2 ∧ 0 + 2 ≤ 2], []⟩ [c_ 128149, c_ 16019, b_ 1, c_ 2003, l_ 250, b_ 0, c_ 63] (alc ⟨rfl, by decide⟩ aln) nocal ?_
          have h := Option.some.inj h
          subst h
          refine .nl' 3020546 ?_
          exact .fin' [] [(3020546, 3020545)] (.tp [(.ag [(S ByteArray.empty), nilS]), (B false)]) [2 = 2 ∧ 0 + 2 ≤ 2] (alc ⟨rfl, by decide⟩ aln) (shc 3020546 (rowF e48_ok _) shn) (cnv_tp (a2c (cnv_ag (a2c (.z .s) (a2c (.nl (memP_mem (p := (3020546, 3020545)) rfl) rfl) a2n))) (a2c (.z .s) a2n)))
      · rw [if_neg c4] at h
        cases h
    · rw [if_neg c3] at h
      refine .cond' (.tmp 22) false [c_ 252, c_ 253, c_ 127] (bF (dF c3)) ?_
      obtain ⟨x9, hx9, h⟩ := Option.bind_eq_some_iff.mp h
      by_cases c12 : x9 = true
      · rw [if_pos c12] at h
        obtain ⟨x10, hx10, h⟩ := Option.bind_eq_some_iff.mp h
        refine .reg' [2, 5, 68] [.no, .c ⟨31, [(.ag [(S (at_ x1 0)), (.sl true x2.length 3 (x2.flatMap e48))])], [], (B x9), [], [3020545], [], [], (B x9), []⟩, .no, .v (B false), .no, .c ⟨9, [(.ag [(S (at_ x1 0)), (.sl true x2.length 3 (x2.flatMap e48))])], [], (S x10), [], [3020545], [], [], (S x10), []⟩] ⟨[(2, (.pt 256 0 2)), (5, (.pt 1284 0 2)), (68, (B (!(sEq x10 a0))))], [(3020545, (x2.flatMap e48)), (256, [(S ByteArray.empty), nilS]), (1001025, (x1.flatMap encS)), (1284, [(S (at_ x1 0)), (.rf 3020545 0 x2.length 3 (x2.length * 3))])], [2 = 2 ∧ 0 + 2 ≤ 2, COK (hget [(3020545, (x2.flatMap e48)), (256, [(S ByteArray.empty), nilS]), (1001025, (x1.flatMap encS)), (1284, [(S (at_ x1 0)), (.rf 3020545 0 x2.length 3 (x2.length * 3))])]) [(.ag [(S (at_ x1 0)), (.rf 3020545 0 x2.length 3 (x2.length * 3))])] ⟨31, [(.ag [(S (at_ x1 0)), (.sl true x2.length 3 (x2.flatMap e48))])], [], (B x9), [], [3020545], [], [], (B x9), []⟩, (B (!x9) : V) = B false, 2 = 2 ∧ 0 + 2 ≤ 2, COK (hget [(3020545, (x2.flatMap e48)), (256, [(S ByteArray.empty), nilS]), (1001025, (x1.flatMap encS)), (1284, [(S (at_ x1 0)), (.rf 3020545 0 x2.length 3 (x2.length * 3))])]) [(.ag [(S (at_ x1 0)), (.rf 3020545 0 x2.length 3 (x2.length * 3))])] ⟨9, [(.ag [(S (at_ x1 0)), (.sl true x2.length 3 (x2.flatMap e48))])], [], (S x10), [], [3020545], [], [], (S x10), []⟩], [⟨31, [(.ag [(S (at_ x1 0)), (.sl true x2.length 3 (x2.flatMap e48))])], [], (B x9), [], [3020545], [], [], (B x9), []⟩, ⟨9, [(.ag [(S (at_ x1 0)), (.sl true x2.length 3 (x2.flatMap e48))])], [], (S x10), [], [3020545], [], [], (S x10), []⟩]⟩ [c_ 253, c_ 127] (alc ⟨rfl, by decide⟩ (alc (cok0 false (a2c (cnv_ag (a2c (.z .s) (a2c (.z (frz_rf (k := 3020545) e48_ok (by simp) rfl rfl (row_len e48_ok _).symm)) a2n))) a2n) (.z .s) (fun h => absurd h (by decide))) (alc (bF (nF c12)) (alc ⟨rfl, by decide⟩ (alc (cok0 false (a2c (cnv_ag (a2c (.z .s) (a2c (.z (frz_rf (k := 3020545) e48_ok (by simp) rfl rfl (row_len e48_ok _).symm)) a2n))) a2n) (.z .s) (fun h => absurd h (by decide))) aln))))) (acal (spec_TripOk.J k (⟨(at_ x1 0), x2⟩ : S28) _ hx9) (acal (spec_TripText.J k (⟨(at_ x1 0), x2⟩ : S28) _ hx10) nocal)) ?_
        by_cases c13 : (sEq x10 a0) = true
        · rw [if_pos c13] at h
          refine .cond' (.tmp 68) false [c_ 254, c_ 255] (bF (nF c13)) ?_
          refine .reg' [2, 3] [] ⟨[(2, (.pt 256 0 2)), (3, (B true))], [(3020545, (x2.flatMap e48)), (256, [(S (at_ x1 0)), (.rf 3020545 0 x2.length 3 (x2.length * 3))]), (1001025, (x1.flatMap encS)), (1284, [(S (at_ x1 0)), (.rf 3020545 0 x2.length 3 (x2.length * 3))])], [2 = 2 ∧ 0 + 2 ≤ 2, 2 = 2 ∧ 0 + 2 ≤ 2], []⟩ [c_ 255] (alc ⟨rfl, by decide⟩ (alc ⟨rfl, by decide⟩ aln)) nocal ?_
          have h := Option.some.inj h
          subst h
          exact .fin' [] [(3020545, 3020545)] (.tp [(.ag [(S (at_ x1 0)), (.rf 3020545 0 x2.length 3 (x2.length * 3))]), (B true)]) [2 = 2 ∧ 0 + 2 ≤ 2] (alc ⟨rfl, by decide⟩ aln) (shc 3020545 (rowF e48_ok _) shn) (cnv_tp (a2c (cnv_ag (a2c (.z .s) (a2c (.rf (memP_mem (p := (3020545, 3020545)) rfl)) a2n))) (a2c (.z .s) a2n)))
        · rw [if_neg c13] at h
          refine .cond' (.tmp 68) true [c_ 1012, c_ 1013, c_ 127] (bT (nT (vF c13))) ?_
          refine .reg' [2, 3] [] ⟨[(2, (.pt 256 0 2)), (3, (B false))], [(3020545, (x2.flatMap e48)), (256, [(S ByteArray.empty), nilS]), (1001025, (x1.flatMap encS)), (1284, [(S (at_ x1 0)), (.rf 3020545 0 x2.length 3 (x2.length * 3))])], [2 = 2 ∧ 0 + 2 ≤ 2], []⟩ [c_ 1013, c_ 127] (alc ⟨rfl, by decide⟩ aln) nocal ?_
          have h := Option.some.inj h
          subst h
          refine .nl' 3020546 ?_
          exact .fin' [] [(3020546, 3020545)] (.tp [(.ag [(S ByteArray.empty), nilS]), (B false)]) [2 = 2 ∧ 0 + 2 ≤ 2] (alc ⟨rfl, by decide⟩ aln) (shc 3020546 (rowF e48_ok _) shn) (cnv_tp (a2c (cnv_ag (a2c (.z .s) (a2c (.nl (memP_mem (p := (3020546, 3020545)) rfl) rfl) a2n))) (a2c (.z .s) a2n)))
      · rw [if_neg c12] at h
        refine .reg' [2, 5, 68] [.no, .c ⟨31, [(.ag [(S (at_ x1 0)), (.sl true x2.length 3 (x2.flatMap e48))])], [], (B x9), [], [3020545], [], [], (B x9), []⟩, .no, .v (B true)] ⟨[(2, (.pt 256 0 2)), (5, (.pt 1284 0 2)), (68, (B true))], [(3020545, (x2.flatMap e48)), (256, [(S ByteArray.empty), nilS]), (1001025, (x1.flatMap encS)), (1284, [(S (at_ x1 0)), (.rf 3020545 0 x2.length 3 (x2.length * 3))])], [2 = 2 ∧ 0 + 2 ≤ 2, COK (hget [(3020545, (x2.flatMap e48)), (256, [(S ByteArray.empty), nilS]), (1001025, (x1.flatMap encS)), (1284, [(S (at_ x1 0)), (.rf 3020545 0 x2.length 3 (x2.length * 3))])]) [(.ag [(S (at_ x1 0)), (.rf 3020545 0 x2.length 3 (x2.length * 3))])] ⟨31, [(.ag [(S (at_ x1 0)), (.sl true x2.length 3 (x2.flatMap e48))])], [], (B x9), [], [3020545], [], [], (B x9), []⟩, (B (!x9) : V) = B true], [⟨31, [(.ag [(S (at_ x1 0)), (.sl true x2.length 3 (x2.flatMap e48))])], [], (B x9), [], [3020545], [], [], (B x9), []⟩]⟩ [c_ 253, c_ 127] (alc ⟨rfl, by decide⟩ (alc (cok0 false (a2c (cnv_ag (a2c (.z .s) (a2c (.z (frz_rf (k := 3020545) e48_ok (by simp) rfl rfl (row_len e48_ok _).symm)) a2n))) a2n) (.z .s) (fun h => absurd h (by decide))) (alc (bT (nT (vF c12))) aln))) (acal (spec_TripOk.J k (⟨(at_ x1 0), x2⟩ : S28) _ hx9) nocal) ?_
        refine .cond' (.tmp 68) true [c_ 1012, c_ 1013, c_ 127] (rfl) ?_
        refine .reg' [2, 3] [] ⟨[(2, (.pt 256 0 2)), (3, (B false))], [(3020545, (x2.flatMap e48)), (256, [(S ByteArray.empty), nilS]), (1001025, (x1.flatMap encS)), (1284, [(S (at_ x1 0)), (.rf 3020545 0 x2.length 3 (x2.length * 3))])], [2 = 2 ∧ 0 + 2 ≤ 2], []⟩ [c_ 1013, c_ 127] (alc ⟨rfl, by decide⟩ aln) nocal ?_
        have h := Option.some.inj h
        subst h
        refine .nl' 3020546 ?_
        exact .fin' [] [(3020546, 3020545)] (.tp [(.ag [(S ByteArray.empty), nilS]), (B false)]) [2 = 2 ∧ 0 + 2 ≤ 2] (alc ⟨rfl, by decide⟩ aln) (shc 3020546 (rowF e48_ok _) shn) (cnv_tp (a2c (cnv_ag (a2c (.z .s) (a2c (.nl (memP_mem (p := (3020546, 3020545)) rfl) rfl) a2n))) (a2c (.z .s) a2n)))
theorem spec_ReadTrip.J (k : Nat) (a0 : ByteArray) (r : (S28 × Bool)) (h : spec_ReadTrip.f k a0 = some r) : J prog (.call 19 [(S a0)] [] (.tp [(.ag [(S r.1.f0), (.rf 3020545 0 r.1.f1.length 3 (r.1.f1.length * 3))]), (B r.2)]) [(3020545, (r.1.f1.flatMap e48))]) := by
  unfold spec_ReadTrip.f at h
  have ih0 := spec_ReadTrip.lab k
  refine .call' [c_ 2, c_ 3] ?_
  refine .reg' [0, 2] [] ⟨[(0, (S a0)), (2, (.pt 256 0 2))], [(256, [(S ByteArray.empty), nilS])], [], []⟩ [c_ 12, c_ 13, c_ 7] aln nocal ?_
  refine .reg' [0, 2, 11] [] ⟨[(0, (S a0)), (2, (.pt 256 0 2)), (11, (B (decide ((a0.size : Int) > 300))))], [(256, [(S ByteArray.empty), nilS])], [], []⟩ [c_ 13, c_ 7] aln nocal ?_
  by_cases c1 : (a0.size : Int) > 300
  · rw [if_pos c1] at h
    refine .cond' (.tmp 11) true [c_ 52, c_ 53, c_ 7] (bT (dT c1)) ?_
    refine .reg' [2, 3] [] ⟨[(2, (.pt 256 0 2)), (3, (B false))], [(256, [(S ByteArray.empty), nilS])], [2 = 2 ∧ 0 + 2 ≤ 2], []⟩ [c_ 53, c_ 7] (alc ⟨rfl, by decide⟩ aln) nocal ?_
    have h := Option.some.inj h
    subst h
    refine .nl' 3020545 ?_
    exact .fin' [] [(3020545, 3020545)] (.tp [(.ag [(S ByteArray.empty), nilS]), (B false)]) [2 = 2 ∧ 0 + 2 ≤ 2] (alc ⟨rfl, by decide⟩ aln) (shc 3020545 (rowF e48_ok _) shn) (cnv_tp (a2c (cnv_ag (a2c (.z .s) (a2c (.nl (memP_mem (p := (3020545, 3020545)) rfl) rfl) a2n))) (a2c (.z .s) a2n)))
  · rw [if_neg c1] at h
    refine .cond' (.tmp 11) false [c_ 14, c_ 15] (bF (dF c1)) ?_
    obtain ⟨x1, hx1, h⟩ := Option.bind_eq_some_iff.mp h
    refine .reg' [0, 2, 4] [.no, .c ⟨45, [(S a0), (U 32)], [], (.rf 512 0 x1.length 1 (x1.length * 1)), [(512, (x1.flatMap encS))], [], [], [(1001025, 512)], (.rf 1001025 0 x1.length 1 (x1.length * 1)), [(1001025, (x1.flatMap encS))]⟩] ⟨[(0, (S a0)), (2, (.pt 256 0 2)), (4, (.rf 1001025 0 x1.length 1 (x1.length * 1)))], [(256, [(S ByteArray.empty), nilS]), (1001025, (x1.flatMap encS))], [COK (hget [(256, [(S ByteArray.empty), nilS])]) [(S a0), (U 32)] ⟨45, [(S a0), (U 32)], [], (.rf 512 0 x1.length 1 (x1.length * 1)), [(512, (x1.flatMap encS))], [], [], [(1001025, 512)], (.rf 1001025 0 x1.length 1 (x1.length * 1)), [(1001025, (x1.flatMap encS))]⟩], [⟨45, [(S a0), (U 32)], [], (.rf 512 0 x1.length 1 (x1.length * 1)), [(512, (x1.flatMap encS))], [], [], [(1001025, 512)], (.rf 1001025 0 x1.length 1 (x1.length * 1)), [(1001025, (x1.flatMap encS))]⟩]⟩ [c_ 30, c_ 31] (alc (cokW false (a2c (.z .s) (a2c (.z .s) a2n)) akn (akc (.inr rfl) akn) (.rf (memP_mem (p := (1001025, 512)) rfl)) (akc ⟨_, _, rfl, rfl, rowB encS_c _⟩ akn) (fun h => absurd h (by decide))) aln) (acal (spec_l08Split.J k a0 32 _ hx1) nocal) ?_
    by_cases c2 : 0 < (x1.length : Int)
    · rw [if_pos c2] at h
      refine .reg' [0, 2, 4, 5] [.no, .no, .v (S (at_ x1 0))] ⟨[(0, (S a0)), (2, (.pt 256 0 2)), (4, (.rf 1001025 0 x1.length 1 (x1.length * 1))), (5, (.pt 1284 0 2))], [(256, [(S ByteArray.empty), nilS]), (1001025, (x1.flatMap encS)), (1284, [(S (at_ x1 0)), nilS])], [(0 : Int) ≤ 0 ∧ 0 < (x1.length : Int), rdC prog 9 ((x1.flatMap encS).drop (0 + (0 : Int).toNat * 1)) = (S (at_ x1 0)), x1.length * 1 = (x1.flatMap encS).length ∧ 0 + (0 : Int).toNat * 1 + 1 ≤ (x1.flatMap encS).length, 2 = 2 ∧ 0 + 2 ≤ 2], []⟩ [c_ 124, c_ 125, c_ 63] (alc ⟨(by decide), c2⟩ (alc (ldC01 encS_ok rfl (by decide) c2) (alc (okA0 encS_ok (by decide) c2 (by decide)) (alc ⟨rfl, by decide⟩ aln)))) nocal ?_
      refine .reg' [0, 2, 4, 5, 6] [] ⟨[(0, (S a0)), (2, (.pt 256 0 2)), (4, (.rf 1001025 0 x1.length 1 (x1.length * 1))), (5, (.pt 1284 0 2)), (6, (I 1))], [(256, [(S ByteArray.empty), nilS]), (1001025, (x1.flatMap encS)), (1284, [(S (at_ x1 0)), nilS])], [], []⟩ [l_ 250, b_ 0, c_ 63] aln nocal ?_
      refine .nl' 3020545 ?_
      refine .wk' [] [(3020545, 3020545), (256, 256), (1001025, 1001025), (1284, 1284)] [(0, (S a0)), (2, (.pt 256 0 2)), (4, (.rf 1001025 0 x1.length 1 (x1.length * 1))), (5, (.pt 1284 0 2)), (6, (I 1))] [(3020545, (([] : List S48).flatMap e48)), (256, [(S ByteArray.empty), nilS]), (1001025, (x1.flatMap encS)), (1284, [(S (at_ x1 0)), (.rf 3020545 0 (([] : List S48).length) 3 (([] : List S48).length * 3))])] (shc 3020545 (rowF e48_ok _) (shc 256 (a2c (.z .s) (a2c (.z .s) a2n)) (shc 1001025 (rowF encS_ok _) (shc 1284 (a2c (.z .s) (a2c (.nl (memP_mem (p := (3020545, 3020545)) rfl) rfl) a2n)) shn)))) (enc_ (.z .s) (enc_ (.pt (memP_mem (p := (256, 256)) rfl)) (enc_ (.rf (memP_mem (p := (1001025, 1001025)) rfl)) (enc_ (.pt (memP_mem (p := (1284, 1284)) rfl)) (enc_ (.z .s) enn))))) ?_
      exact ih0 a0 x1 ([] : List S48) 1 _ h
    · rw [if_neg c2] at h
      cases h
def lays146_ren : Go.Shelf.Ren := ⟨fun | 146 => 48 | 221 => 63 | 268 => 72 | 138 => 73 | 143 => 74 | 195 => 82 | 197 => 83 | 218 => 84 | 219 => 75 | 260 => 94 | 217 => 85 | 225 => 86 | 224 => 87 | 267 => 88 | 266 => 95 | 314 => 96 | n => n, fun | 9 => 9 | 31 => 57 | 3 => 3 | 4 => 4 | 0 => 0 | 105 => 98 | 21 => 21 | 5 => 5 | 46 => 102 | 119 => 111 | 139 => 114 | 138 => 113 | 146 => 108 | 51 => 105 | n => n, fun | 1 => 0 | 3 => 2 | 4 => 3 | n => n⟩
theorem lays146 : Go.Proofs.LaysM.n146 Tryd.prog lays146_ren where
  mixed := by kernel_rfl
  f138 := Tryd.func73.trans (congrArg some (by kernel_rfl))
  f143 := Tryd.func74.trans (congrArg some (by kernel_rfl))
  f146 := Tryd.func48.trans (congrArg some (by kernel_rfl))
  f195 := Tryd.func82.trans (congrArg some (by kernel_rfl))
  f197 := Tryd.func83.trans (congrArg some (by kernel_rfl))
  f217 := Tryd.func85.trans (congrArg some (by kernel_rfl))
  f218 := Tryd.func84.trans (congrArg some (by kernel_rfl))
  f219 := Tryd.func75.trans (congrArg some (by kernel_rfl))
  f221 := Tryd.func63.trans (congrArg some (by kernel_rfl))
  f224 := Tryd.func87.trans (congrArg some (by kernel_rfl))
  f225 := Tryd.func86.trans (congrArg some (by kernel_rfl))
  f260 := Tryd.func94.trans (congrArg some (by kernel_rfl))
  f266 := Tryd.func95.trans (congrArg some (by kernel_rfl))
  f267 := Tryd.func88.trans (congrArg some (by kernel_rfl))
  f268 := Tryd.func72.trans (congrArg some (by kernel_rfl))
  f314 := Tryd.func96.trans (congrArg some (by kernel_rfl))
  t0 := Tryd.underlying0
  a0 := Tryd.isAgg0
  z0 := Tryd.sizeOf0
  v0 := Tryd.zeroValue0
  t3 := Tryd.underlying3
  a3 := Tryd.isAgg3
  z3 := Tryd.sizeOf3
  v3 := Tryd.zeroValue3
  t4 := Tryd.underlying4
  a4 := Tryd.isAgg4
  z4 := Tryd.sizeOf4
  v4 := Tryd.zeroValue4
  t5 := Tryd.underlying5
  a5 := Tryd.isAgg5
  z5 := Tryd.sizeOf5
  v5 := Tryd.zeroValue5
  t9 := Tryd.underlying9
  a9 := Tryd.isAgg9
  z9 := Tryd.sizeOf9
  v9 := Tryd.zeroValue9
  t21 := Tryd.underlying21
  a21 := Tryd.isAgg21
  z21 := Tryd.sizeOf21
  v21 := Tryd.zeroValue21
  t31 := Tryd.underlying57
  a31 := Tryd.isAgg57
  z31 := Tryd.sizeOf57
  v31 := Tryd.zeroValue57
  t46 := Tryd.underlying102
  a46 := Tryd.isAgg102
  z46 := Tryd.sizeOf102
  v46 := Tryd.zeroValue102
  t51 := Tryd.underlying105
  a51 := Tryd.isAgg105
  z51 := Tryd.sizeOf105
  v51 := Tryd.zeroValue105
  t105 := Tryd.underlying98
  a105 := Tryd.isAgg98
  z105 := Tryd.sizeOf98
  v105 := Tryd.zeroValue98
  t119 := Tryd.underlying111
  a119 := Tryd.isAgg111
  z119 := Tryd.sizeOf111
  t138 := Tryd.underlying113
  a138 := Tryd.isAgg113
  z138 := Tryd.sizeOf113
  v138 := Tryd.zeroValue113
  t139 := Tryd.underlying114
  a139 := Tryd.isAgg114
  z139 := Tryd.sizeOf114
  v139 := Tryd.zeroValue114
  t146 := Tryd.underlying108
  a146 := Tryd.isAgg108
  z146 := Tryd.sizeOf108
  v146 := Tryd.zeroValue108
  g1 := by kernel_rfl
  g3 := by kernel_rfl
  g4 := by kernel_rfl
  i0 := by kernel_rfl
  i3 := by kernel_rfl
  i4 := by kernel_rfl
  i5 := by kernel_rfl
  i9 := by kernel_rfl
  i21 := by kernel_rfl
  i31 := by kernel_rfl
  i46 := by kernel_rfl
  i51 := by kernel_rfl
  i105 := by kernel_rfl
  i138 := by kernel_rfl
  i139 := by kernel_rfl
  i146 := by kernel_rfl
  m1 := by kernel_rfl
  s1_3 := fun w h => Go.Proofs.cell_of_shapedOpen_int (zero := #[.int .i64 0]) (t := 3) h (of_decide_eq_true (by kernel_rfl)) (by kernel_rfl) rfl (by kernel_rfl) (by kernel_rfl) Tryd.underlying3
  m3 := by kernel_rfl
  m4 := by kernel_rfl
/-! strings_Split: function 48 (the shelf's contract) -/
def strings_Split.f (a0 a1 : ByteArray) : Option (List ByteArray) := (if a0.size < 4294967281 then (if 1 ≤ a1.size then (some (Go.Lib.splitB a1 0 (Go.Lib.countB a0 a1) a0)) else none) else none)
theorem strings_Split.J (a0 a1 : ByteArray) (r : List ByteArray) (h : strings_Split.f a0 a1 = some r) : J prog (.call 48 [(S a0), (S a1)] [] (.sl false r.length 1 (r.flatMap encS)) []) := by
  unfold strings_Split.f at h
  by_cases h0 : a0.size < 4294967281
  · rw [if_pos h0] at h
    by_cases h1 : 1 ≤ a1.size
    · rw [if_pos h1] at h
      have h := Option.some.inj h
      subst h
      refine lib_strs2 (ty := lays146_ren.t 9) fun w hg => ?_
      obtain ⟨m, hm⟩ := hg.2 _ lays146.m1
      refine (Go.Proofs.Any.strings_Split { lays146 with } lays146.i9 a0 a1 m w h0 hm h1).mono ?_
      rintro e w2 ⟨rfl, rfl⟩
      exact ⟨by rw [Go.Lib.splitB_all a1 h1 0 _ a0 rfl], rfl⟩
    · rw [if_neg h1] at h
      cases h
  · rw [if_neg h0] at h
    cases h
def lays145_ren : Go.Shelf.Ren := ⟨fun | 145 => 49 | 220 => 64 | 219 => 75 | 217 => 85 | 225 => 86 | 224 => 87 | 267 => 88 | 266 => 95 | 314 => 96 | n => n, fun | 9 => 9 | 4 => 4 | 59 => 61 | 3 => 3 | 5 => 5 | 46 => 102 | 146 => 108 | 51 => 105 | n => n, fun | 1 => 0 | n => n⟩
theorem lays145 : Go.Proofs.LaysM.n145 Tryd.prog lays145_ren where
  mixed := by kernel_rfl
  f145 := Tryd.func49.trans (congrArg some (by kernel_rfl))
  f217 := Tryd.func85.trans (congrArg some (by kernel_rfl))
  f219 := Tryd.func75.trans (congrArg some (by kernel_rfl))
  f220 := Tryd.func64.trans (congrArg some (by kernel_rfl))
  f224 := Tryd.func87.trans (congrArg some (by kernel_rfl))
  f225 := Tryd.func86.trans (congrArg some (by kernel_rfl))
  f266 := Tryd.func95.trans (congrArg some (by kernel_rfl))
  f267 := Tryd.func88.trans (congrArg some (by kernel_rfl))
  f314 := Tryd.func96.trans (congrArg some (by kernel_rfl))
  t3 := Tryd.underlying3
  a3 := Tryd.isAgg3
  z3 := Tryd.sizeOf3
  v3 := Tryd.zeroValue3
  t4 := Tryd.underlying4
  a4 := Tryd.isAgg4
  z4 := Tryd.sizeOf4
  v4 := Tryd.zeroValue4
  t5 := Tryd.underlying5
  a5 := Tryd.isAgg5
  z5 := Tryd.sizeOf5
  v5 := Tryd.zeroValue5
  t9 := Tryd.underlying9
  a9 := Tryd.isAgg9
  z9 := Tryd.sizeOf9
  v9 := Tryd.zeroValue9
  t46 := Tryd.underlying102
  a46 := Tryd.isAgg102
  z46 := Tryd.sizeOf102
  v46 := Tryd.zeroValue102
  t51 := Tryd.underlying105
  a51 := Tryd.isAgg105
  z51 := Tryd.sizeOf105
  v51 := Tryd.zeroValue105
  t59 := Tryd.underlying61
  a59 := Tryd.isAgg61
  z59 := Tryd.sizeOf61
  v59 := Tryd.zeroValue61
  t146 := Tryd.underlying108
  a146 := Tryd.isAgg108
  z146 := Tryd.sizeOf108
  v146 := Tryd.zeroValue108
  g1 := by kernel_rfl
  i3 := by kernel_rfl
  i4 := by kernel_rfl
  i5 := by kernel_rfl
  i9 := by kernel_rfl
  i46 := by kernel_rfl
  i51 := by kernel_rfl
  i59 := by kernel_rfl
  i146 := by kernel_rfl
  m1 := by kernel_rfl
  s1_3 := fun w h => Go.Proofs.cell_of_shapedOpen_int (zero := #[.int .i64 0]) (t := 3) h (of_decide_eq_true (by kernel_rfl)) (by kernel_rfl) rfl (by kernel_rfl) (by kernel_rfl) Tryd.underlying3
/-! strings_Cut: function 49 (the shelf's contract) -/
def strings_Cut.f (a0 a1 : ByteArray) : Option (ByteArray × ByteArray × Bool) := (if a0.size < 4294967281 then (some ((⟨(Go.Lib.cut a0.data.toList a1.data.toList).1.toArray⟩ : ByteArray), (⟨(Go.Lib.cut a0.data.toList a1.data.toList).2.1.toArray⟩ : ByteArray), (Go.Lib.cut a0.data.toList a1.data.toList).2.2)) else none)
theorem strings_Cut.J (a0 a1 : ByteArray) (r : ByteArray × ByteArray × Bool) (h : strings_Cut.f a0 a1 = some r) : J prog (.call 49 [(S a0), (S a1)] [] (.tp [(S r.1), (S r.2.1), (B r.2.2)]) []) := by
  unfold strings_Cut.f at h
  by_cases h0 : a0.size < 4294967281
  · rw [if_pos h0] at h
    have h := Option.some.inj h
    subst h
    refine lib_cut2 fun w hg => ?_
    obtain ⟨m, hm⟩ := hg.2 _ lays145.m1
    exact Go.Proofs.Any.strings_Cut { lays145 with } a0 a1 m w h0 hm
  · rw [if_neg h0] at h
    cases h
/-! impl_digits: function 50 -/
def impl_digits.l0 : Nat → ByteArray → Int → Int → Option Int
 | 0, _, _, _ => none
 | k + 1, a0, x1, x2 => (if x2 < (a0.size : Int) then (if 0 ≤ x2 then (if (bt a0 x2) < 48 then (some (-1)) else (if (bt a0 x2) > 57 then (some (-1)) else (impl_digits.l0 k a0 (wrap64 ((wrap64 (10 * x1)) + (IntKind.i64.wrap (IntKind.u8.wrap ((bt a0 x2) - (48 : Int)))))) (wrap64 (x2 + 1))))) else none) else (some x1))
def impl_digits.f (k : Nat) (a0 : ByteArray) (a1 : Int) : Option Int := (if (a0.size : Int) < 1 then (some (-1)) else (if (a0.size : Int) > a1 then (some (-1)) else (impl_digits.l0 k a0 0 0)))
theorem impl_digits.lab : ∀ k, (∀ (a0 : ByteArray) (x1 : Int) (x2 : Int) (r : Int), impl_digits.l0 k a0 x1 x2 = some r → J prog (.run 50 [] [l_ 122, b_ 0, c_ 31] [(0, (S a0)), (5, (I x1)), (6, (I x2))] [] (I r) []))
 | 0 => (by intro a0 x1 x2 r h; unfold impl_digits.l0 at h; cases h)
 | k + 1 => by
  have ih0 := impl_digits.lab k
  · intro a0 x1 x2 r h
    unfold impl_digits.l0 at h
    refine .loop' [c_ 976, c_ 977, c_ 489, l_ 122, b_ 0, c_ 31] ?_
    refine .reg' [0, 5, 6, 19] [] ⟨[(0, (S a0)), (5, (I x1)), (6, (I x2)), (19, (B (decide (x2 < (a0.size : Int)))))], [], [], []⟩ [c_ 977, c_ 489, l_ 122, b_ 0, c_ 31] aln nocal ?_
    by_cases c3 : x2 < (a0.size : Int)
    · rw [if_pos c3] at h
      refine .cond' (.tmp 19) true [c_ 7824, c_ 7825, c_ 3913, b_ 1, c_ 979, l_ 122, b_ 0, c_ 31] (bT (dT c3)) ?_
      by_cases c4 : 0 ≤ x2
      · rw [if_pos c4] at h
        by_cases c5 : (bt a0 x2) < 48
        · rw [if_pos c5] at h
          refine .reg' [0, 5, 6, 31] [.no, .no, .no, .no, .v (B true)] ⟨[(0, (S a0)), (5, (I x1)), (6, (I x2)), (31, (B true))], [], [(0 : Int) ≤ x2 ∧ x2 < (a0.size : Int), (B (decide ((bt a0 x2) < 48)) : V) = B true], []⟩ [c_ 7825, c_ 3913, b_ 1, c_ 979, l_ 122, b_ 0, c_ 31] (alc ⟨c4, c3⟩ (alc (bT (dT c5)) aln)) nocal ?_
          refine .cond' (.tmp 31) true [c_ 31300, c_ 31301, c_ 3913, b_ 1, c_ 979, l_ 122, b_ 0, c_ 31] (rfl) ?_
          refine .reg' [4] [] ⟨[(4, (I (-1)))], [], [], []⟩ [c_ 31301, c_ 3913, b_ 1, c_ 979, l_ 122, b_ 0, c_ 31] aln nocal ?_
          have h := Option.some.inj h
          subst h
          exact .fin0 [] (I (-1)) [] aln (.z .s)
        · rw [if_neg c5] at h
          refine .reg' [0, 5, 6, 31] [.no, .no, .no, .no, .v (B false)] ⟨[(0, (S a0)), (5, (I x1)), (6, (I x2)), (31, (B (decide ((bt a0 x2) > 57))))], [], [(0 : Int) ≤ x2 ∧ x2 < (a0.size : Int), (B (decide ((bt a0 x2) < 48)) : V) = B false, (0 : Int) ≤ x2 ∧ x2 < (a0.size : Int)], []⟩ [c_ 7825, c_ 3913, b_ 1, c_ 979, l_ 122, b_ 0, c_ 31] (alc ⟨c4, c3⟩ (alc (bF (dF c5)) (alc ⟨c4, c3⟩ aln))) nocal ?_
          by_cases c6 : (bt a0 x2) > 57
          · rw [if_pos c6] at h
            refine .cond' (.tmp 31) true [c_ 31300, c_ 31301, c_ 3913, b_ 1, c_ 979, l_ 122, b_ 0, c_ 31] (bT (dT c6)) ?_
            refine .reg' [4] [] ⟨[(4, (I (-1)))], [], [], []⟩ [c_ 31301, c_ 3913, b_ 1, c_ 979, l_ 122, b_ 0, c_ 31] aln nocal ?_
            have h := Option.some.inj h
            subst h
            exact .fin0 [] (I (-1)) [] aln (.z .s)
          · rw [if_neg c6] at h
            refine .cond' (.tmp 31) false [c_ 3913, b_ 1, c_ 979, l_ 122, b_ 0, c_ 31] (bF (dF c6)) ?_
            refine .reg' [0, 5, 6] [] ⟨[(0, (S a0)), (5, (I (wrap64 ((wrap64 (10 * x1)) + (IntKind.i64.wrap (IntKind.u8.wrap ((bt a0 x2) - (48 : Int)))))))), (6, (I x2))], [], [(0 : Int) ≤ x2 ∧ x2 < (a0.size : Int)], []⟩ [c_ 979, l_ 122, b_ 0, c_ 31] (alc ⟨c4, c3⟩ aln) nocal ?_
            refine .reg' [0, 5, 6] [] ⟨[(0, (S a0)), (5, (I (wrap64 ((wrap64 (10 * x1)) + (IntKind.i64.wrap (IntKind.u8.wrap ((bt a0 x2) - (48 : Int)))))))), (6, (I (wrap64 (x2 + 1))))], [], [], []⟩ [l_ 122, b_ 0, c_ 31] aln nocal ?_
            exact ih0 a0 (wrap64 ((wrap64 (10 * x1)) + (IntKind.i64.wrap (IntKind.u8.wrap ((bt a0 x2) - (48 : Int)))))) (wrap64 (x2 + 1)) _ h
      · rw [if_neg c4] at h
        cases h
    · rw [if_neg c3] at h
      refine .cond' (.tmp 19) false [c_ 62, c_ 63] (bF (dF c3)) ?_
      refine .reg' [4] [] ⟨[(4, (I x1))], [], [], []⟩ [c_ 63] aln nocal ?_
      have h := Option.some.inj h
      subst h
      exact .fin0 [] (I x1) [] aln (.z .s)
theorem impl_digits.J (k : Nat) (a0 : ByteArray) (a1 : Int) (r : Int) (h : impl_digits.f k a0 a1 = some r) : J prog (.call 50 [(S a0), (I a1)] [] (I r) []) := by
  unfold impl_digits.f at h
  have ih0 := impl_digits.lab k
  refine .call' [c_ 2, c_ 3] ?_
  refine .reg' [0, 1] [] ⟨[(0, (S a0)), (1, (I a1))], [], [], []⟩ [c_ 12, c_ 13, c_ 7] aln nocal ?_
  by_cases c1 : (a0.size : Int) < 1
  · rw [if_pos c1] at h
    refine .reg' [0, 15] [.no, .no, .no, .v (B true)] ⟨[(0, (S a0)), (15, (B true))], [], [(B (decide ((a0.size : Int) < 1)) : V) = B true], []⟩ [c_ 13, c_ 7] (alc (bT (dT c1)) aln) nocal ?_
    refine .cond' (.tmp 15) true [c_ 52, c_ 53, c_ 7] (rfl) ?_
    refine .reg' [4] [] ⟨[(4, (I (-1)))], [], [], []⟩ [c_ 53, c_ 7] aln nocal ?_
    have h := Option.some.inj h
    subst h
    exact .fin0 [] (I (-1)) [] aln (.z .s)
  · rw [if_neg c1] at h
    refine .reg' [0, 15] [.no, .no, .no, .v (B false)] ⟨[(0, (S a0)), (15, (B (decide ((a0.size : Int) > a1))))], [], [(B (decide ((a0.size : Int) < 1)) : V) = B false], []⟩ [c_ 13, c_ 7] (alc (bF (dF c1)) aln) nocal ?_
    by_cases c2 : (a0.size : Int) > a1
    · rw [if_pos c2] at h
      refine .cond' (.tmp 15) true [c_ 52, c_ 53, c_ 7] (bT (dT c2)) ?_
      refine .reg' [4] [] ⟨[(4, (I (-1)))], [], [], []⟩ [c_ 53, c_ 7] aln nocal ?_
      have h := Option.some.inj h
      subst h
      exact .fin0 [] (I (-1)) [] aln (.z .s)
    · rw [if_neg c2] at h
      refine .cond' (.tmp 15) false [c_ 14, c_ 15] (bF (dF c2)) ?_
      refine .reg' [0, 5] [] ⟨[(0, (S a0)), (5, (I 0))], [], [], []⟩ [c_ 60, c_ 61, c_ 31] aln nocal ?_
      refine .reg' [0, 5, 6] [] ⟨[(0, (S a0)), (5, (I 0)), (6, (I 0))], [], [], []⟩ [l_ 122, b_ 0, c_ 31] aln nocal ?_
      exact ih0 a0 0 0 _ h
/-! impl_between: function 41 -/
def impl_between.f (a0 : Int) (a1 : Int) (a2 : Int) : Option Bool := (if a0 ≥ a1 then (some (decide (a0 ≤ a2))) else (some false))
theorem impl_between.J (a0 : Int) (a1 : Int) (a2 : Int) (r : Bool) (h : impl_between.f a0 a1 a2 = some r) : J prog (.call 41 [(I a0), (I a1), (I a2)] [] (B r) []) := by
  unfold impl_between.f at h
  refine .call' [c_ 2, c_ 3] ?_
  refine .reg' [0, 1, 2] [] ⟨[(0, (I a0)), (1, (I a1)), (2, (I a2))], [], [], []⟩ [c_ 6, c_ 7] aln nocal ?_
  by_cases c1 : a0 ≥ a1
  · rw [if_pos c1] at h
    refine .reg' [6] [.no, .no, .no, .v (B true)] ⟨[(6, (B (decide (a0 ≤ a2))))], [], [(B (decide (a0 ≥ a1)) : V) = B true], []⟩ [c_ 7] (alc (bT (dT c1)) aln) nocal ?_
    have h := Option.some.inj h
    subst h
    exact .fin0 [] (B (decide (a0 ≤ a2))) [] aln (.z .s)
  · rw [if_neg c1] at h
    refine .reg' [6] [.no, .no, .no, .v (B false)] ⟨[(6, (B false))], [], [(B (decide (a0 ≥ a1)) : V) = B false], []⟩ [c_ 7] (alc (bF (dF c1)) aln) nocal ?_
    have h := Option.some.inj h
    subst h
    exact .fin0 [] (B false) [] aln (.z .s)
/-! impl_isMinute: function 55 -/
def impl_isMinute.f (a0 : Int) : Option Bool := ((impl_between.f a0 0 100000).bind fun x1 => (some x1))
theorem impl_isMinute.J (a0 : Int) (r : Bool) (h : impl_isMinute.f a0 = some r) : J prog (.call 55 [(I a0)] [] (B r) []) := by
  unfold impl_isMinute.f at h
  refine .call' [c_ 2, c_ 3] ?_
  refine .reg' [0] [] ⟨[(0, (I a0))], [], [], []⟩ [c_ 6, c_ 7] aln nocal ?_
  obtain ⟨x1, hx1, h⟩ := Option.bind_eq_some_iff.mp h
  refine .reg' [2] [.no, .c ⟨41, [(I a0), (I 0), (I 100000)], [], (B x1), [], [], [], [], (B x1), []⟩] ⟨[(2, (B x1))], [], [COK (hget []) [(I a0), (I 0), (I 100000)] ⟨41, [(I a0), (I 0), (I 100000)], [], (B x1), [], [], [], [], (B x1), []⟩], [⟨41, [(I a0), (I 0), (I 100000)], [], (B x1), [], [], [], [], (B x1), []⟩]⟩ [c_ 7] (alc (cok0 false (a2c (.z .s) (a2c (.z .s) (a2c (.z .s) a2n))) (.z .s) (fun h => absurd h (by decide))) aln) (acal (impl_between.J a0 0 100000 _ hx1) nocal) ?_
  have h := Option.some.inj h
  subst h
  exact .fin0 [] (B x1) [] aln (.z .s)
def lays171_ren : Go.Shelf.Ren := ⟨fun | 171 => 35 | 243 => 60 | 246 => 71 | 283 => 78 | 284 => 79 | 285 => 80 | 286 => 81 | 129 => 90 | 317 => 89 | 318 => 91 | 319 => 92 | 320 => 93 | 337 => 97 | 338 => 98 | n => n, fun | 3 => 3 | 9 => 9 | 2 => 2 | 4 => 4 | 171 => 92 | 0 => 0 | 53 => 93 | 37 => 42 | 5 => 5 | 173 => 96 | 212 => 104 | 51 => 105 | 20 => 20 | 213 => 106 | 46 => 102 | 232 => 115 | 233 => 116 | n => n, fun | 17 => 1 | 18 => 4 | 19 => 5 | n => n⟩
theorem lays171 : Go.Proofs.LaysM.n171 Tryd.prog lays171_ren where
  mixed := by kernel_rfl
  f129 := Tryd.func90.trans (congrArg some (by kernel_rfl))
  f171 := Tryd.func35.trans (congrArg some (by kernel_rfl))
  f243 := Tryd.func60.trans (congrArg some (by kernel_rfl))
  f246 := Tryd.func71.trans (congrArg some (by kernel_rfl))
  f283 := Tryd.func78.trans (congrArg some (by kernel_rfl))
  f284 := Tryd.func79.trans (congrArg some (by kernel_rfl))
  f285 := Tryd.func80.trans (congrArg some (by kernel_rfl))
  f286 := Tryd.func81.trans (congrArg some (by kernel_rfl))
  f317 := Tryd.func89.trans (congrArg some (by kernel_rfl))
  f318 := Tryd.func91.trans (congrArg some (by kernel_rfl))
  f319 := Tryd.func92.trans (congrArg some (by kernel_rfl))
  f320 := Tryd.func93.trans (congrArg some (by kernel_rfl))
  f337 := Tryd.func97.trans (congrArg some (by kernel_rfl))
  f338 := Tryd.func98.trans (congrArg some (by kernel_rfl))
  t0 := Tryd.underlying0
  a0 := Tryd.isAgg0
  z0 := Tryd.sizeOf0
  v0 := Tryd.zeroValue0
  t2 := Tryd.underlying2
  a2 := Tryd.isAgg2
  z2 := Tryd.sizeOf2
  v2 := Tryd.zeroValue2
  t3 := Tryd.underlying3
  a3 := Tryd.isAgg3
  z3 := Tryd.sizeOf3
  v3 := Tryd.zeroValue3
  t4 := Tryd.underlying4
  a4 := Tryd.isAgg4
  z4 := Tryd.sizeOf4
  v4 := Tryd.zeroValue4
  t5 := Tryd.underlying5
  a5 := Tryd.isAgg5
  z5 := Tryd.sizeOf5
  v5 := Tryd.zeroValue5
  t9 := Tryd.underlying9
  a9 := Tryd.isAgg9
  z9 := Tryd.sizeOf9
  v9 := Tryd.zeroValue9
  t20 := Tryd.underlying20
  a20 := Tryd.isAgg20
  z20 := Tryd.sizeOf20
  v20 := Tryd.zeroValue20
  t37 := Tryd.underlying42
  a37 := Tryd.isAgg42
  z37 := Tryd.sizeOf42
  v37 := Tryd.zeroValue42
  t46 := Tryd.underlying102
  a46 := Tryd.isAgg102
  z46 := Tryd.sizeOf102
  v46 := Tryd.zeroValue102
  t51 := Tryd.underlying105
  a51 := Tryd.isAgg105
  z51 := Tryd.sizeOf105
  v51 := Tryd.zeroValue105
  t53 := Tryd.underlying93
  a53 := Tryd.isAgg93
  z53 := Tryd.sizeOf93
  v53 := Tryd.zeroValue93
  t171 := Tryd.underlying92
  a171 := Tryd.isAgg92
  z171 := Tryd.sizeOf92
  v171 := Tryd.zeroValue92
  t173 := Tryd.underlying96
  a173 := Tryd.isAgg96
  z173 := Tryd.sizeOf96
  v173 := Tryd.zeroValue96
  t212 := Tryd.underlying104
  a212 := Tryd.isAgg104
  z212 := Tryd.sizeOf104
  v212 := Tryd.zeroValue104
  t213 := Tryd.underlying106
  a213 := Tryd.isAgg106
  z213 := Tryd.sizeOf106
  t232 := Tryd.underlying115
  a232 := Tryd.isAgg115
  z232 := Tryd.sizeOf115
  v232 := Tryd.zeroValue115
  t233 := Tryd.underlying116
  a233 := Tryd.isAgg116
  z233 := Tryd.sizeOf116
  v233 := Tryd.zeroValue116
  g17 := by kernel_rfl
  g18 := by kernel_rfl
  g19 := by kernel_rfl
  i0 := by kernel_rfl
  i2 := by kernel_rfl
  i3 := by kernel_rfl
  i4 := by kernel_rfl
  i5 := by kernel_rfl
  i9 := by kernel_rfl
  i20 := by kernel_rfl
  i37 := by kernel_rfl
  i46 := by kernel_rfl
  i51 := by kernel_rfl
  i53 := by kernel_rfl
  i171 := by kernel_rfl
  i173 := by kernel_rfl
  i212 := by kernel_rfl
  i232 := by kernel_rfl
  i233 := by kernel_rfl
  m17 := by kernel_rfl
  m18 := by kernel_rfl
  m19 := by kernel_rfl
/-! strconv_Itoa: function 35 (the shelf's contract) -/
def strconv_Itoa.f (a0 : Int) : Option ByteArray := (if -9223372036854775808 ≤ a0 then (if a0 ≤ 9223372036854775807 then (some (⟨(Go.Lib.itoa a0).toArray⟩ : ByteArray)) else none) else none)
theorem strconv_Itoa.J (a0 : Int) (r : ByteArray) (h : strconv_Itoa.f a0 = some r) : J prog (.call 35 [(I a0)] [] (S r) []) := by
  unfold strconv_Itoa.f at h
  by_cases h0 : -9223372036854775808 ≤ a0
  · rw [if_pos h0] at h
    by_cases h1 : a0 ≤ 9223372036854775807
    · rw [if_pos h1] at h
      have h := Option.some.inj h
      subst h
      refine lib_below1 rfl fun w hg => (Go.Proofs.Any.strconv_Itoa lays171 a0 h0 h1 w hg.1).mono ?_
      rintro e w2 ⟨rfl, k, os, rfl⟩
      exact ⟨rfl, Go.Lib.below_grow _ _ (Nat.le_refl _) _ _⟩
    · rw [if_neg h1] at h
      cases h
  · rw [if_neg h0] at h
    cases h
/-! impl_twoDigits: function 61 -/
def impl_twoDigits.f (a0 : Int) : Option ByteArray := (if a0 < 10 then ((strconv_Itoa.f a0).bind fun x1 => (if (⟨#[48]⟩ : ByteArray).size + x1.size ≤ 9223372036854775807 then (some ((⟨#[48]⟩ : ByteArray) ++ x1)) else none)) else ((strconv_Itoa.f a0).bind fun x2 => (some x2)))
theorem impl_twoDigits.J (a0 : Int) (r : ByteArray) (h : impl_twoDigits.f a0 = some r) : J prog (.call 61 [(I a0)] [] (S r) []) := by
  unfold impl_twoDigits.f at h
  refine .call' [c_ 2, c_ 3] ?_
  refine .reg' [0] [] ⟨[(0, (I a0))], [], [], []⟩ [c_ 12, c_ 13, c_ 7] aln nocal ?_
  refine .reg' [0, 4] [] ⟨[(0, (I a0)), (4, (B (decide (a0 < 10))))], [], [], []⟩ [c_ 13, c_ 7] aln nocal ?_
  by_cases c1 : a0 < 10
  · rw [if_pos c1] at h
    refine .cond' (.tmp 4) true [c_ 52, c_ 53, c_ 7] (bT (dT c1)) ?_
    obtain ⟨x1, hx1, h⟩ := Option.bind_eq_some_iff.mp h
    by_cases c2 : (⟨#[48]⟩ : ByteArray).size + x1.size ≤ 9223372036854775807
    · rw [if_pos c2] at h
      refine .reg' [2] [.no, .c ⟨35, [(I a0)], [], (S x1), [], [], [], [], (S x1), []⟩] ⟨[(2, (S ((⟨#[48]⟩ : ByteArray) ++ x1)))], [], [COK (hget []) [(I a0)] ⟨35, [(I a0)], [], (S x1), [], [], [], [], (S x1), []⟩, (⟨#[48]⟩ : ByteArray).size + x1.size ≤ 9223372036854775807], [⟨35, [(I a0)], [], (S x1), [], [], [], [], (S x1), []⟩]⟩ [c_ 53, c_ 7] (alc (cok0 false (a2c (.z .s) a2n) (.z .s) (fun h => absurd h (by decide))) (alc c2 aln)) (acal (strconv_Itoa.J a0 _ hx1) nocal) ?_
      have h := Option.some.inj h
      subst h
      exact .fin0 [] (S ((⟨#[48]⟩ : ByteArray) ++ x1)) [] aln (.z .s)
    · rw [if_neg c2] at h
      cases h
  · rw [if_neg c1] at h
    refine .cond' (.tmp 4) false [c_ 14, c_ 15] (bF (dF c1)) ?_
    obtain ⟨x2, hx2, h⟩ := Option.bind_eq_some_iff.mp h
    refine .reg' [2] [.no, .c ⟨35, [(I a0)], [], (S x2), [], [], [], [], (S x2), []⟩] ⟨[(2, (S x2))], [], [COK (hget []) [(I a0)] ⟨35, [(I a0)], [], (S x2), [], [], [], [], (S x2), []⟩], [⟨35, [(I a0)], [], (S x2), [], [], [], [], (S x2), []⟩]⟩ [c_ 15] (alc (cok0 false (a2c (.z .s) a2n) (.z .s) (fun h => absurd h (by decide))) aln) (acal (strconv_Itoa.J a0 _ hx2) nocal) ?_
    have h := Option.some.inj h
    subst h
    exact .fin0 [] (S x2) [] aln (.z .s)
/-! impl_TimeText: function 36 -/
def impl_TimeText.f (a0 : Int) : Option ByteArray := ((impl_isMinute.f a0).bind fun x1 => (if x1 = true then ((impl_twoDigits.f (wrap64 (a0.tdiv (60 : Int)))).bind fun x2 => (if x2.size + (⟨#[58]⟩ : ByteArray).size ≤ 9223372036854775807 then ((impl_twoDigits.f (a0.tmod (60 : Int))).bind fun x3 => (if (x2 ++ (⟨#[58]⟩ : ByteArray)).size + x3.size ≤ 9223372036854775807 then (some ((x2 ++ (⟨#[58]⟩ : ByteArray)) ++ x3)) else none)) else none)) else (some (⟨#[]⟩ : ByteArray))))
theorem impl_TimeText.J (a0 : Int) (r : ByteArray) (h : impl_TimeText.f a0 = some r) : J prog (.call 36 [(I a0)] [] (S r) []) := by
  unfold impl_TimeText.f at h
  refine .call' [c_ 2, c_ 3] ?_
  refine .reg' [0] [] ⟨[(0, (I a0))], [], [], []⟩ [c_ 12, c_ 13, c_ 7] aln nocal ?_
  obtain ⟨x1, hx1, h⟩ := Option.bind_eq_some_iff.mp h
  refine .reg' [0, 5] [.no, .c ⟨55, [(I a0)], [], (B x1), [], [], [], [], (B x1), []⟩] ⟨[(0, (I a0)), (5, (B (!x1)))], [], [COK (hget []) [(I a0)] ⟨55, [(I a0)], [], (B x1), [], [], [], [], (B x1), []⟩], [⟨55, [(I a0)], [], (B x1), [], [], [], [], (B x1), []⟩]⟩ [c_ 13, c_ 7] (alc (cok0 false (a2c (.z .s) a2n) (.z .s) (fun h => absurd h (by decide))) aln) (acal (impl_isMinute.J a0 _ hx1) nocal) ?_
  by_cases c1 : x1 = true
  · rw [if_pos c1] at h
    refine .cond' (.tmp 5) false [c_ 14, c_ 15] (bF (nF c1)) ?_
    obtain ⟨x2, hx2, h⟩ := Option.bind_eq_some_iff.mp h
    by_cases c2 : x2.size + (⟨#[58]⟩ : ByteArray).size ≤ 9223372036854775807
    · rw [if_pos c2] at h
      obtain ⟨x3, hx3, h⟩ := Option.bind_eq_some_iff.mp h
      by_cases c3 : (x2 ++ (⟨#[58]⟩ : ByteArray)).size + x3.size ≤ 9223372036854775807
      · rw [if_pos c3] at h
        refine .reg' [2] [.no, .no, .c ⟨61, [(I (wrap64 (a0.tdiv (60 : Int))))], [], (S x2), [], [], [], [], (S x2), []⟩, .no, .no, .no, .c ⟨61, [(I (a0.tmod (60 : Int)))], [], (S x3), [], [], [], [], (S x3), []⟩] ⟨[(2, (S ((x2 ++ (⟨#[58]⟩ : ByteArray)) ++ x3)))], [], [(60 : Int) ≠ 0, COK (hget []) [(I (wrap64 (a0.tdiv (60 : Int))))] ⟨61, [(I (wrap64 (a0.tdiv (60 : Int))))], [], (S x2), [], [], [], [], (S x2), []⟩, x2.size + (⟨#[58]⟩ : ByteArray).size ≤ 9223372036854775807, (60 : Int) ≠ 0, COK (hget []) [(I (a0.tmod (60 : Int)))] ⟨61, [(I (a0.tmod (60 : Int)))], [], (S x3), [], [], [], [], (S x3), []⟩, (x2 ++ (⟨#[58]⟩ : ByteArray)).size + x3.size ≤ 9223372036854775807], [⟨61, [(I (wrap64 (a0.tdiv (60 : Int))))], [], (S x2), [], [], [], [], (S x2), []⟩, ⟨61, [(I (a0.tmod (60 : Int)))], [], (S x3), [], [], [], [], (S x3), []⟩]⟩ [c_ 15] (alc (by decide) (alc (cok0 false (a2c (.z .s) a2n) (.z .s) (fun h => absurd h (by decide))) (alc c2 (alc (by decide) (alc (cok0 false (a2c (.z .s) a2n) (.z .s) (fun h => absurd h (by decide))) (alc c3 aln)))))) (acal (impl_twoDigits.J (wrap64 (a0.tdiv (60 : Int))) _ hx2) (acal (impl_twoDigits.J (a0.tmod (60 : Int)) _ hx3) nocal)) ?_
        have h := Option.some.inj h
        subst h
        exact .fin0 [] (S ((x2 ++ (⟨#[58]⟩ : ByteArray)) ++ x3)) [] aln (.z .s)
      · rw [if_neg c3] at h
        cases h
    · rw [if_neg c2] at h
      cases h
  · rw [if_neg c1] at h
    refine .cond' (.tmp 5) true [c_ 52, c_ 53, c_ 7] (bT (nT (vF c1))) ?_
    refine .reg' [2] [] ⟨[(2, (S (⟨#[]⟩ : ByteArray)))], [], [], []⟩ [c_ 53, c_ 7] aln nocal ?_
    have h := Option.some.inj h
    subst h
    exact .fin0 [] (S (⟨#[]⟩ : ByteArray)) [] aln (.z .s)
/-! impl_ReadTime: function 51 -/
def impl_ReadTime.f (k : Nat) (a0 : ByteArray) : Option Int := (if (a0.size : Int) < 5 then (some (-1)) else (if 0 ≤ (wrap64 ((a0.size : Int) - 3)) then (if (wrap64 ((a0.size : Int) - 3)) < (a0.size : Int) then (if (bt a0 (wrap64 ((a0.size : Int) - 3))) = 58 then (if (wrap64 ((a0.size : Int) - 3)) ≤ (a0.size : Int) then ((impl_digits.f k (a0.extract (0 : Int).toNat (wrap64 ((a0.size : Int) - 3)).toNat) 4).bind fun x1 => (if 0 ≤ (wrap64 ((a0.size : Int) - 2)) then (if (wrap64 ((a0.size : Int) - 2)) ≤ (a0.size : Int) then ((impl_digits.f k (a0.extract (wrap64 ((a0.size : Int) - 2)).toNat (a0.size : Int).toNat) 2).bind fun x2 => (if x1 < 0 then (some (-1)) else (if x2 < 0 then (some (-1)) else ((impl_TimeText.f (wrap64 ((wrap64 (60 * x1)) + x2))).bind fun x3 => (if (sEq x3 a0) = true then (some (wrap64 ((wrap64 (60 * x1)) + x2))) else (some (-1))))))) else none) else none)) else none) else (some (-1))) else none) else none))
theorem impl_ReadTime.J (k : Nat) (a0 : ByteArray) (r : Int) (h : impl_ReadTime.f k a0 = some r) : J prog (.call 51 [(S a0)] [] (I r) []) := by
  unfold impl_ReadTime.f at h
  refine .call' [c_ 2, c_ 3] ?_
  refine .reg' [0] [] ⟨[(0, (S a0))], [], [], []⟩ [c_ 12, c_ 13, c_ 7] aln nocal ?_
  by_cases c1 : (a0.size : Int) < 5
  · rw [if_pos c1] at h
    refine .reg' [0, 15] [.no, .no, .no, .v (B true)] ⟨[(0, (S a0)), (15, (B true))], [], [(B (decide ((a0.size : Int) < 5)) : V) = B true], []⟩ [c_ 13, c_ 7] (alc (bT (dT c1)) aln) nocal ?_
    refine .cond' (.tmp 15) true [c_ 52, c_ 53, c_ 7] (rfl) ?_
    refine .reg' [2] [] ⟨[(2, (I (-1)))], [], [], []⟩ [c_ 53, c_ 7] aln nocal ?_
    have h := Option.some.inj h
    subst h
    exact .fin0 [] (I (-1)) [] aln (.z .s)
  · rw [if_neg c1] at h
    by_cases c2 : 0 ≤ (wrap64 ((a0.size : Int) - 3))
    · rw [if_pos c2] at h
      by_cases c3 : (wrap64 ((a0.size : Int) - 3)) < (a0.size : Int)
      · rw [if_pos c3] at h
        refine .reg' [0, 15] [.no, .no, .no, .v (B false)] ⟨[(0, (S a0)), (15, (B (!((bt a0 (wrap64 ((a0.size : Int) - 3))) == 58))))], [], [(B (decide ((a0.size : Int) < 5)) : V) = B false, (0 : Int) ≤ (wrap64 ((a0.size : Int) - 3)) ∧ (wrap64 ((a0.size : Int) - 3)) < (a0.size : Int)], []⟩ [c_ 13, c_ 7] (alc (bF (dF c1)) (alc ⟨c2, c3⟩ aln)) nocal ?_
        by_cases c4 : (bt a0 (wrap64 ((a0.size : Int) - 3))) = 58
        · rw [if_pos c4] at h
          refine .cond' (.tmp 15) false [c_ 14, c_ 15] (bF (nF (qT c4))) ?_
          by_cases c5 : (wrap64 ((a0.size : Int) - 3)) ≤ (a0.size : Int)
          · rw [if_pos c5] at h
            obtain ⟨x1, hx1, h⟩ := Option.bind_eq_some_iff.mp h
            by_cases c6 : 0 ≤ (wrap64 ((a0.size : Int) - 2))
            · rw [if_pos c6] at h
              by_cases c7 : (wrap64 ((a0.size : Int) - 2)) ≤ (a0.size : Int)
              · rw [if_pos c7] at h
                obtain ⟨x2, hx2, h⟩ := Option.bind_eq_some_iff.mp h
                refine .reg' [0, 3, 4] [.no, .no, .no, .no, .no, .c ⟨50, [(S (a0.extract (0 : Int).toNat (wrap64 ((a0.size : Int) - 3)).toNat)), (I 4)], [], (I x1), [], [], [], [], (I x1), []⟩, .no, .no, .no, .no, .no, .c ⟨50, [(S (a0.extract (wrap64 ((a0.size : Int) - 2)).toNat (a0.size : Int).toNat)), (I 2)], [], (I x2), [], [], [], [], (I x2), []⟩] ⟨[(0, (S a0)), (3, (I x1)), (4, (I x2))], [], [0 ≤ (0 : Int) ∧ 0 ≤ (wrap64 ((a0.size : Int) - 3)) ∧ (wrap64 ((a0.size : Int) - 3)) ≤ (a0.size : Int), COK (hget []) [(S (a0.extract (0 : Int).toNat (wrap64 ((a0.size : Int) - 3)).toNat)), (I 4)] ⟨50, [(S (a0.extract (0 : Int).toNat (wrap64 ((a0.size : Int) - 3)).toNat)), (I 4)], [], (I x1), [], [], [], [], (I x1), []⟩, 0 ≤ (wrap64 ((a0.size : Int) - 2)) ∧ (wrap64 ((a0.size : Int) - 2)) ≤ (a0.size : Int) ∧ (a0.size : Int) ≤ (a0.size : Int), COK (hget []) [(S (a0.extract (wrap64 ((a0.size : Int) - 2)).toNat (a0.size : Int).toNat)), (I 2)] ⟨50, [(S (a0.extract (wrap64 ((a0.size : Int) - 2)).toNat (a0.size : Int).toNat)), (I 2)], [], (I x2), [], [], [], [], (I x2), []⟩], [⟨50, [(S (a0.extract (0 : Int).toNat (wrap64 ((a0.size : Int) - 3)).toNat)), (I 4)], [], (I x1), [], [], [], [], (I x1), []⟩, ⟨50, [(S (a0.extract (wrap64 ((a0.size : Int) - 2)).toNat (a0.size : Int).toNat)), (I 2)], [], (I x2), [], [], [], [], (I x2), []⟩]⟩ [c_ 60, c_ 61, c_ 31] (alc ⟨(by decide), c2, c5⟩ (alc (cok0 false (a2c (.z .s) (a2c (.z .s) a2n)) (.z .s) (fun h => absurd h (by decide))) (alc ⟨c6, c7, (Int.le_refl _)⟩ (alc (cok0 false (a2c (.z .s) (a2c (.z .s) a2n)) (.z .s) (fun h => absurd h (by decide))) aln)))) (acal (impl_digits.J k (a0.extract (0 : Int).toNat (wrap64 ((a0.size : Int) - 3)).toNat) 4 _ hx1) (acal (impl_digits.J k (a0.extract (wrap64 ((a0.size : Int) - 2)).toNat (a0.size : Int).toNat) 2 _ hx2) nocal)) ?_
                by_cases c8 : x1 < 0
                · rw [if_pos c8] at h
                  refine .reg' [3, 4, 42] [.no, .no, .v (B true)] ⟨[(3, (I x1)), (4, (I x2)), (42, (B true))], [], [(B (decide (x1 < 0)) : V) = B true], []⟩ [c_ 61, c_ 31] (alc (bT (dT c8)) aln) nocal ?_
                  refine .cond' (.tmp 42) true [c_ 244, c_ 245, c_ 31] (rfl) ?_
                  refine .reg' [2] [] ⟨[(2, (I (-1)))], [], [], []⟩ [c_ 245, c_ 31] aln nocal ?_
                  have h := Option.some.inj h
                  subst h
                  exact .fin0 [] (I (-1)) [] aln (.z .s)
                · rw [if_neg c8] at h
                  by_cases c9 : x2 < 0
                  · rw [if_pos c9] at h
                    refine .reg' [3, 4, 42] [.no, .no, .v (B false), .no, .no, .no, .v (B true)] ⟨[(3, (I x1)), (4, (I x2)), (42, (B true))], [], [(B (decide (x1 < 0)) : V) = B false, (B (decide (x2 < 0)) : V) = B true], []⟩ [c_ 61, c_ 31] (alc (bF (dF c8)) (alc (bT (dT c9)) aln)) nocal ?_
                    refine .cond' (.tmp 42) true [c_ 244, c_ 245, c_ 31] (rfl) ?_
                    refine .reg' [2] [] ⟨[(2, (I (-1)))], [], [], []⟩ [c_ 245, c_ 31] aln nocal ?_
                    have h := Option.some.inj h
                    subst h
                    exact .fin0 [] (I (-1)) [] aln (.z .s)
                  · rw [if_neg c9] at h
                    obtain ⟨x3, hx3, h⟩ := Option.bind_eq_some_iff.mp h
                    refine .reg' [3, 4, 42] [.no, .no, .v (B false), .no, .no, .no, .v (B false), .no, .no, .no, .no, .c ⟨36, [(I (wrap64 ((wrap64 (60 * x1)) + x2)))], [], (S x3), [], [], [], [], (S x3), []⟩] ⟨[(3, (I x1)), (4, (I x2)), (42, (B (!(sEq x3 a0))))], [], [(B (decide (x1 < 0)) : V) = B false, (B (decide (x2 < 0)) : V) = B false, COK (hget []) [(I (wrap64 ((wrap64 (60 * x1)) + x2)))] ⟨36, [(I (wrap64 ((wrap64 (60 * x1)) + x2)))], [], (S x3), [], [], [], [], (S x3), []⟩], [⟨36, [(I (wrap64 ((wrap64 (60 * x1)) + x2)))], [], (S x3), [], [], [], [], (S x3), []⟩]⟩ [c_ 61, c_ 31] (alc (bF (dF c8)) (alc (bF (dF c9)) (alc (cok0 false (a2c (.z .s) a2n) (.z .s) (fun h => absurd h (by decide))) aln))) (acal (impl_TimeText.J (wrap64 ((wrap64 (60 * x1)) + x2)) _ hx3) nocal) ?_
                    by_cases c10 : (sEq x3 a0) = true
                    · rw [if_pos c10] at h
                      refine .cond' (.tmp 42) false [c_ 62, c_ 63] (bF (nF c10)) ?_
                      refine .reg' [2] [] ⟨[(2, (I (wrap64 ((wrap64 (60 * x1)) + x2))))], [], [], []⟩ [c_ 63] aln nocal ?_
                      have h := Option.some.inj h
                      subst h
                      exact .fin0 [] (I (wrap64 ((wrap64 (60 * x1)) + x2))) [] aln (.z .s)
                    · rw [if_neg c10] at h
                      refine .cond' (.tmp 42) true [c_ 244, c_ 245, c_ 31] (bT (nT (vF c10))) ?_
                      refine .reg' [2] [] ⟨[(2, (I (-1)))], [], [], []⟩ [c_ 245, c_ 31] aln nocal ?_
                      have h := Option.some.inj h
                      subst h
                      exact .fin0 [] (I (-1)) [] aln (.z .s)
              · rw [if_neg c7] at h
                cases h
            · rw [if_neg c6] at h
              cases h
          · rw [if_neg c5] at h
            cases h
        · rw [if_neg c4] at h
          refine .cond' (.tmp 15) true [c_ 52, c_ 53, c_ 7] (bT (nT (qF c4))) ?_
          refine .reg' [2] [] ⟨[(2, (I (-1)))], [], [], []⟩ [c_ 53, c_ 7] aln nocal ?_
          have h := Option.some.inj h
          subst h
          exact .fin0 [] (I (-1)) [] aln (.z .s)
      · rw [if_neg c3] at h
        cases h
    · rw [if_neg c2] at h
      cases h
/-! impl_nameOk: function 54 -/
def impl_nameOk.l0 : Nat → ByteArray → Int → Option Bool
 | 0, _, _ => none
 | k + 1, a0, x1 => (if x1 < (a0.size : Int) then (if 0 ≤ x1 then (if (bt a0 x1) < 97 then (if (bt a0 x1) < 48 then (some false) else (if (bt a0 x1) > 57 then (some false) else (impl_nameOk.l0 k a0 (wrap64 (x1 + 1))))) else (if (bt a0 x1) > 122 then (if (bt a0 x1) < 48 then (some false) else (if (bt a0 x1) > 57 then (some false) else (impl_nameOk.l0 k a0 (wrap64 (x1 + 1))))) else (impl_nameOk.l0 k a0 (wrap64 (x1 + 1))))) else none) else (some true))
def impl_nameOk.f (k : Nat) (a0 : ByteArray) : Option Bool := (if (a0.size : Int) < 1 then (some false) else (if (a0.size : Int) > 12 then (some false) else (impl_nameOk.l0 k a0 0)))
theorem impl_nameOk.lab : ∀ k, (∀ (a0 : ByteArray) (x1 : Int) (r : Bool), impl_nameOk.l0 k a0 x1 = some r → J prog (.run 54 [] [l_ 58, b_ 0, c_ 15] [(0, (S a0)), (3, (I x1))] [] (B r) []))
 | 0 => (by intro a0 x1 r h; unfold impl_nameOk.l0 at h; cases h)
 | k + 1 => by
  have ih0 := impl_nameOk.lab k
  · intro a0 x1 r h
    unfold impl_nameOk.l0 at h
    refine .loop' [c_ 464, c_ 465, c_ 233, l_ 58, b_ 0, c_ 15] ?_
    refine .reg' [0, 3, 15] [] ⟨[(0, (S a0)), (3, (I x1)), (15, (B (decide (x1 < (a0.size : Int)))))], [], [], []⟩ [c_ 465, c_ 233, l_ 58, b_ 0, c_ 15] aln nocal ?_
    by_cases c3 : x1 < (a0.size : Int)
    · rw [if_pos c3] at h
      refine .cond' (.tmp 15) true [c_ 1864, c_ 1865, b_ 1, c_ 467, l_ 58, b_ 0, c_ 15] (bT (dT c3)) ?_
      by_cases c4 : 0 ≤ x1
      · rw [if_pos c4] at h
        by_cases c5 : (bt a0 x1) < 97
        · rw [if_pos c5] at h
          by_cases c6 : (bt a0 x1) < 48
          · rw [if_pos c6] at h
            refine .reg' [0, 3, 39] [.no, .no, .no, .no, .v (B true), .no, .no, .no, .no, .no, .no, .no, .no, .no, .no, .v (B true)] ⟨[(0, (S a0)), (3, (I x1)), (39, (B true))], [], [(0 : Int) ≤ x1 ∧ x1 < (a0.size : Int), (B (decide ((bt a0 x1) < 97)) : V) = B true, (0 : Int) ≤ x1 ∧ x1 < (a0.size : Int), (B (decide ((bt a0 x1) < 48)) : V) = B true], []⟩ [c_ 1865, b_ 1, c_ 467, l_ 58, b_ 0, c_ 15] (alc ⟨c4, c3⟩ (alc (bT (dT c5)) (alc ⟨c4, c3⟩ (alc (bT (dT c6)) aln)))) nocal ?_
            refine .cond' (.tmp 39) true [c_ 7460, c_ 7461, b_ 1, c_ 467, l_ 58, b_ 0, c_ 15] (rfl) ?_
            refine .reg' [2] [] ⟨[(2, (B false))], [], [], []⟩ [c_ 7461, b_ 1, c_ 467, l_ 58, b_ 0, c_ 15] aln nocal ?_
            have h := Option.some.inj h
            subst h
            exact .fin0 [] (B false) [] aln (.z .s)
          · rw [if_neg c6] at h
            refine .reg' [0, 3, 39] [.no, .no, .no, .no, .v (B true), .no, .no, .no, .no, .no, .no, .no, .no, .no, .no, .v (B false)] ⟨[(0, (S a0)), (3, (I x1)), (39, (B (decide ((bt a0 x1) > 57))))], [], [(0 : Int) ≤ x1 ∧ x1 < (a0.size : Int), (B (decide ((bt a0 x1) < 97)) : V) = B true, (0 : Int) ≤ x1 ∧ x1 < (a0.size : Int), (B (decide ((bt a0 x1) < 48)) : V) = B false, (0 : Int) ≤ x1 ∧ x1 < (a0.size : Int)], []⟩ [c_ 1865, b_ 1, c_ 467, l_ 58, b_ 0, c_ 15] (alc ⟨c4, c3⟩ (alc (bT (dT c5)) (alc ⟨c4, c3⟩ (alc (bF (dF c6)) (alc ⟨c4, c3⟩ aln))))) nocal ?_
            by_cases c7 : (bt a0 x1) > 57
            · rw [if_pos c7] at h
              refine .cond' (.tmp 39) true [c_ 7460, c_ 7461, b_ 1, c_ 467, l_ 58, b_ 0, c_ 15] (bT (dT c7)) ?_
              refine .reg' [2] [] ⟨[(2, (B false))], [], [], []⟩ [c_ 7461, b_ 1, c_ 467, l_ 58, b_ 0, c_ 15] aln nocal ?_
              have h := Option.some.inj h
              subst h
              exact .fin0 [] (B false) [] aln (.z .s)
            · rw [if_neg c7] at h
              refine .cond' (.tmp 39) false [c_ 467, l_ 58, b_ 0, c_ 15] (bF (dF c7)) ?_
              refine .reg' [0, 3] [] ⟨[(0, (S a0)), (3, (I (wrap64 (x1 + 1))))], [], [], []⟩ [l_ 58, b_ 0, c_ 15] aln nocal ?_
              exact ih0 a0 (wrap64 (x1 + 1)) _ h
        · rw [if_neg c5] at h
          by_cases c8 : (bt a0 x1) > 122
          · rw [if_pos c8] at h
            by_cases c9 : (bt a0 x1) < 48
            · rw [if_pos c9] at h
              refine .reg' [0, 3, 39] [.no, .no, .no, .no, .v (B false), .no, .no, .no, .no, .no, .v (B true), .no, .no, .no, .no, .v (B true)] ⟨[(0, (S a0)), (3, (I x1)), (39, (B true))], [], [(0 : Int) ≤ x1 ∧ x1 < (a0.size : Int), (B (decide ((bt a0 x1) < 97)) : V) = B false, (0 : Int) ≤ x1 ∧ x1 < (a0.size : Int), (B (decide ((bt a0 x1) > 122)) : V) = B true, (0 : Int) ≤ x1 ∧ x1 < (a0.size : Int), (B (decide ((bt a0 x1) < 48)) : V) = B true], []⟩ [c_ 1865, b_ 1, c_ 467, l_ 58, b_ 0, c_ 15] (alc ⟨c4, c3⟩ (alc (bF (dF c5)) (alc ⟨c4, c3⟩ (alc (bT (dT c8)) (alc ⟨c4, c3⟩ (alc (bT (dT c9)) aln)))))) nocal ?_
              refine .cond' (.tmp 39) true [c_ 7460, c_ 7461, b_ 1, c_ 467, l_ 58, b_ 0, c_ 15] (rfl) ?_
              refine .reg' [2] [] ⟨[(2, (B false))], [], [], []⟩ [c_ 7461, b_ 1, c_ 467, l_ 58, b_ 0, c_ 15] aln nocal ?_
              have h := Option.some.inj h
              subst h
              exact .fin0 [] (B false) [] aln (.z .s)
            · rw [if_neg c9] at h
              refine .reg' [0, 3, 39] [.no, .no, .no, .no, .v (B false), .no, .no, .no, .no, .no, .v (B true), .no, .no, .no, .no, .v (B false)] ⟨[(0, (S a0)), (3, (I x1)), (39, (B (decide ((bt a0 x1) > 57))))], [], [(0 : Int) ≤ x1 ∧ x1 < (a0.size : Int), (B (decide ((bt a0 x1) < 97)) : V) = B false, (0 : Int) ≤ x1 ∧ x1 < (a0.size : Int), (B (decide ((bt a0 x1) > 122)) : V) = B true, (0 : Int) ≤ x1 ∧ x1 < (a0.size : Int), (B (decide ((bt a0 x1) < 48)) : V) = B false, (0 : Int) ≤ x1 ∧ x1 < (a0.size : Int)], []⟩ [c_ 1865, b_ 1, c_ 467, l_ 58, b_ 0, c_ 15] (alc ⟨c4, c3⟩ (alc (bF (dF c5)) (alc ⟨c4, c3⟩ (alc (bT (dT c8)) (alc ⟨c4, c3⟩ (alc (bF (dF c9)) (alc ⟨c4, c3⟩ aln))))))) nocal ?_
              by_cases c10 : (bt a0 x1) > 57
              · rw [if_pos c10] at h
                refine .cond' (.tmp 39) true [c_ 7460, c_ 7461, b_ 1, c_ 467, l_ 58, b_ 0, c_ 15] (bT (dT c10)) ?_
                refine .reg' [2] [] ⟨[(2, (B false))], [], [], []⟩ [c_ 7461, b_ 1, c_ 467, l_ 58, b_ 0, c_ 15] aln nocal ?_
                have h := Option.some.inj h
                subst h
                exact .fin0 [] (B false) [] aln (.z .s)
              · rw [if_neg c10] at h
                refine .cond' (.tmp 39) false [c_ 467, l_ 58, b_ 0, c_ 15] (bF (dF c10)) ?_
                refine .reg' [0, 3] [] ⟨[(0, (S a0)), (3, (I (wrap64 (x1 + 1))))], [], [], []⟩ [l_ 58, b_ 0, c_ 15] aln nocal ?_
                exact ih0 a0 (wrap64 (x1 + 1)) _ h
          · rw [if_neg c8] at h
            refine .reg' [0, 3, 39] [.no, .no, .no, .no, .v (B false), .no, .no, .no, .no, .no, .v (B false)] ⟨[(0, (S a0)), (3, (I x1)), (39, (B false))], [], [(0 : Int) ≤ x1 ∧ x1 < (a0.size : Int), (B (decide ((bt a0 x1) < 97)) : V) = B false, (0 : Int) ≤ x1 ∧ x1 < (a0.size : Int), (B (decide ((bt a0 x1) > 122)) : V) = B false], []⟩ [c_ 1865, b_ 1, c_ 467, l_ 58, b_ 0, c_ 15] (alc ⟨c4, c3⟩ (alc (bF (dF c5)) (alc ⟨c4, c3⟩ (alc (bF (dF c8)) aln)))) nocal ?_
            refine .cond' (.tmp 39) false [c_ 467, l_ 58, b_ 0, c_ 15] (rfl) ?_
            refine .reg' [0, 3] [] ⟨[(0, (S a0)), (3, (I (wrap64 (x1 + 1))))], [], [], []⟩ [l_ 58, b_ 0, c_ 15] aln nocal ?_
            exact ih0 a0 (wrap64 (x1 + 1)) _ h
      · rw [if_neg c4] at h
        cases h
    · rw [if_neg c3] at h
      refine .cond' (.tmp 15) false [c_ 30, c_ 31] (bF (dF c3)) ?_
      refine .reg' [2] [] ⟨[(2, (B true))], [], [], []⟩ [c_ 31] aln nocal ?_
      have h := Option.some.inj h
      subst h
      exact .fin0 [] (B true) [] aln (.z .s)
theorem impl_nameOk.J (k : Nat) (a0 : ByteArray) (r : Bool) (h : impl_nameOk.f k a0 = some r) : J prog (.call 54 [(S a0)] [] (B r) []) := by
  unfold impl_nameOk.f at h
  have ih0 := impl_nameOk.lab k
  refine .call' [c_ 2, c_ 3] ?_
  refine .reg' [0] [] ⟨[(0, (S a0))], [], [], []⟩ [c_ 12, c_ 13, c_ 7] aln nocal ?_
  by_cases c1 : (a0.size : Int) < 1
  · rw [if_pos c1] at h
    refine .reg' [0, 11] [.no, .no, .no, .v (B true)] ⟨[(0, (S a0)), (11, (B true))], [], [(B (decide ((a0.size : Int) < 1)) : V) = B true], []⟩ [c_ 13, c_ 7] (alc (bT (dT c1)) aln) nocal ?_
    refine .cond' (.tmp 11) true [c_ 52, c_ 53, c_ 7] (rfl) ?_
    refine .reg' [2] [] ⟨[(2, (B false))], [], [], []⟩ [c_ 53, c_ 7] aln nocal ?_
    have h := Option.some.inj h
    subst h
    exact .fin0 [] (B false) [] aln (.z .s)
  · rw [if_neg c1] at h
    refine .reg' [0, 11] [.no, .no, .no, .v (B false)] ⟨[(0, (S a0)), (11, (B (decide ((a0.size : Int) > 12))))], [], [(B (decide ((a0.size : Int) < 1)) : V) = B false], []⟩ [c_ 13, c_ 7] (alc (bF (dF c1)) aln) nocal ?_
    by_cases c2 : (a0.size : Int) > 12
    · rw [if_pos c2] at h
      refine .cond' (.tmp 11) true [c_ 52, c_ 53, c_ 7] (bT (dT c2)) ?_
      refine .reg' [2] [] ⟨[(2, (B false))], [], [], []⟩ [c_ 53, c_ 7] aln nocal ?_
      have h := Option.some.inj h
      subst h
      exact .fin0 [] (B false) [] aln (.z .s)
    · rw [if_neg c2] at h
      refine .cond' (.tmp 11) false [c_ 28, c_ 29, c_ 15] (bF (dF c2)) ?_
      refine .reg' [0, 3] [] ⟨[(0, (S a0)), (3, (I 0))], [], [], []⟩ [l_ 58, b_ 0, c_ 15] aln nocal ?_
      exact ih0 a0 0 _ h
/-! impl_TripOk: function 24 -/
def impl_TripOk.l0 : Nat → S28 → Int → Option Bool
 | 0, _, _ => none
 | k + 1, a0, x3 => (if x3 < (a0.f1.length : Int) then (if 0 ≤ x3 then ((impl_between.f ((at_ a0.f1 x3).f0) 0 29).bind fun x4 => (if x4 = true then ((impl_isMinute.f ((at_ a0.f1 x3).f1)).bind fun x5 => (if x5 = true then ((impl_isMinute.f ((at_ a0.f1 x3).f2)).bind fun x6 => (if x6 = true then (if (at_ a0.f1 x3).f1 > (at_ a0.f1 x3).f2 then (some false) else (if x3 > 0 then (if 0 ≤ (wrap64 (x3 - 1)) then (if (wrap64 (x3 - 1)) < (a0.f1.length : Int) then (if (at_ a0.f1 x3).f1 ≤ (at_ a0.f1 (wrap64 (x3 - 1))).f2 then (some false) else (if (at_ a0.f1 x3).f0 = (at_ a0.f1 (wrap64 (x3 - 1))).f0 then (some false) else (impl_TripOk.l0 k a0 (wrap64 (x3 + 1))))) else none) else none) else (impl_TripOk.l0 k a0 (wrap64 (x3 + 1))))) else (some false))) else (some false))) else (some false))) else none) else (some true))
def impl_TripOk.f (k : Nat) (a0 : S28) : Option Bool := ((impl_nameOk.f k a0.f0).bind fun x1 => (if x1 = true then ((impl_between.f (a0.f1.length : Int) 2 12).bind fun x2 => (if x2 = true then (impl_TripOk.l0 k a0 0) else (some false))) else (some false)))
end Go.Proofs.YtjlickinmkafbaaDoor.Fns
