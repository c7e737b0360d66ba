/- The functions that the law FnTripText reaches, by the engine. Printed by a program of this seat. -/
import Derived.Test.YtjlickinmkafbaaDoorE5
import Derived.Test.YtjlickinmkafbaaDoorProg
import Derived.Test.YtjlickinmkafbaaDoorFFnTripTextx1
namespace Go.Proofs.YtjlickinmkafbaaDoor.Fns
open Go.Proofs.Tryd Go.Proofs.YtjlickinmkafbaaDoor.Eng Go.RowKit
set_option maxRecDepth 100000
set_option linter.unusedVariables false
set_option linter.unusedSimpArgs false
theorem impl_twoDigits.J (a0 : Int) (r : ByteArray) (h : impl_twoDigits.f a0 = some r) : J prog (.call 61 [(I a0)] [] (S r) []) := by
  unfold impl_twoDigits.f at h
  refine .call' [c_ 2, c_ 3] ?_
  refine .reg' [0] [] ⟨[(0, (I a0))], [], [], []⟩ [c_ 12, c_ 13, c_ 7] aln nocal ?_
  refine .reg' [0, 4] [] ⟨[(0, (I a0)), (4, (B (decide (a0 < 10))))], [], [], []⟩ [c_ 13, c_ 7] aln nocal ?_
  by_cases c1 : a0 < 10
  · rw [if_pos c1] at h
    refine .cond' (.tmp 4) true [c_ 52, c_ 53, c_ 7] (bT (dT c1)) ?_
    obtain ⟨x1, hx1, h⟩ := Option.bind_eq_some_iff.mp h
    by_cases c2 : (⟨#[48]⟩ : ByteArray).size + x1.size ≤ 9223372036854775807
    · rw [if_pos c2] at h
      refine .reg' [2] [.no, .c ⟨35, [(I a0)], [], (S x1), [], [], [], [], (S x1), []⟩] ⟨[(2, (S ((⟨#[48]⟩ : ByteArray) ++ x1)))], [], [COK (hget []) [(I a0)] ⟨35, [(I a0)], [], (S x1), [], [], [], [], (S x1), []⟩, (⟨#[48]⟩ : ByteArray).size + x1.size ≤ 9223372036854775807], [⟨35, [(I a0)], [], (S x1), [], [], [], [], (S x1), []⟩]⟩ [c_ 53, c_ 7] (alc (cok0 false (a2c (.z .s) a2n) (.z .s) (fun h => absurd h (by decide))) (alc c2 aln)) (acal (strconv_Itoa.J a0 _ hx1) nocal) ?_
      have h := Option.some.inj h
      subst h
      exact .fin0 [] (S ((⟨#[48]⟩ : ByteArray) ++ x1)) [] aln (.z .s)
    · rw [if_neg c2] at h
      cases h
  · rw [if_neg c1] at h
    refine .cond' (.tmp 4) false [c_ 14, c_ 15] (bF (dF c1)) ?_
    obtain ⟨x2, hx2, h⟩ := Option.bind_eq_some_iff.mp h
    refine .reg' [2] [.no, .c ⟨35, [(I a0)], [], (S x2), [], [], [], [], (S x2), []⟩] ⟨[(2, (S x2))], [], [COK (hget []) [(I a0)] ⟨35, [(I a0)], [], (S x2), [], [], [], [], (S x2), []⟩], [⟨35, [(I a0)], [], (S x2), [], [], [], [], (S x2), []⟩]⟩ [c_ 15] (alc (cok0 false (a2c (.z .s) a2n) (.z .s) (fun h => absurd h (by decide))) aln) (acal (strconv_Itoa.J a0 _ hx2) nocal) ?_
    have h := Option.some.inj h
    subst h
    exact .fin0 [] (S x2) [] aln (.z .s)
/-! impl_TimeText: function 36 -/
def impl_TimeText.f (a0 : Int) : Option ByteArray := ((impl_isMinute.f a0).bind fun x1 => (if x1 = true then ((impl_twoDigits.f (wrap64 (a0.tdiv (60 : Int)))).bind fun x2 => (if x2.size + (⟨#[58]⟩ : ByteArray).size ≤ 9223372036854775807 then ((impl_twoDigits.f (a0.tmod (60 : Int))).bind fun x3 => (if (x2 ++ (⟨#[58]⟩ : ByteArray)).size + x3.size ≤ 9223372036854775807 then (some ((x2 ++ (⟨#[58]⟩ : ByteArray)) ++ x3)) else none)) else none)) else (some (⟨#[]⟩ : ByteArray))))
theorem impl_TimeText.J (a0 : Int) (r : ByteArray) (h : impl_TimeText.f a0 = some r) : J prog (.call 36 [(I a0)] [] (S r) []) := by
  unfold impl_TimeText.f at h
  refine .call' [c_ 2, c_ 3] ?_
  refine .reg' [0] [] ⟨[(0, (I a0))], [], [], []⟩ [c_ 12, c_ 13, c_ 7] aln nocal ?_
  obtain ⟨x1, hx1, h⟩ := Option.bind_eq_some_iff.mp h
  refine .reg' [0, 5] [.no, .c ⟨55, [(I a0)], [], (B x1), [], [], [], [], (B x1), []⟩] ⟨[(0, (I a0)), (5, (B (!x1)))], [], [COK (hget []) [(I a0)] ⟨55, [(I a0)], [], (B x1), [], [], [], [], (B x1), []⟩], [⟨55, [(I a0)], [], (B x1), [], [], [], [], (B x1), []⟩]⟩ [c_ 13, c_ 7] (alc (cok0 false (a2c (.z .s) a2n) (.z .s) (fun h => absurd h (by decide))) aln) (acal (impl_isMinute.J a0 _ hx1) nocal) ?_
  by_cases c1 : x1 = true
  · rw [if_pos c1] at h
    refine .cond' (.tmp 5) false [c_ 14, c_ 15] (bF (nF c1)) ?_
    obtain ⟨x2, hx2, h⟩ := Option.bind_eq_some_iff.mp h
    by_cases c2 : x2.size + (⟨#[58]⟩ : ByteArray).size ≤ 9223372036854775807
    · rw [if_pos c2] at h
      obtain ⟨x3, hx3, h⟩ := Option.bind_eq_some_iff.mp h
      by_cases c3 : (x2 ++ (⟨#[58]⟩ : ByteArray)).size + x3.size ≤ 9223372036854775807
      · rw [if_pos c3] at h
        refine .reg' [2] [.no, .no, .c ⟨61, [(I (wrap64 (a0.tdiv (60 : Int))))], [], (S x2), [], [], [], [], (S x2), []⟩, .no, .no, .no, .c ⟨61, [(I (a0.tmod (60 : Int)))], [], (S x3), [], [], [], [], (S x3), []⟩] ⟨[(2, (S ((x2 ++ (⟨#[58]⟩ : ByteArray)) ++ x3)))], [], [(60 : Int) ≠ 0, COK (hget []) [(I (wrap64 (a0.tdiv (60 : Int))))] ⟨61, [(I (wrap64 (a0.tdiv (60 : Int))))], [], (S x2), [], [], [], [], (S x2), []⟩, x2.size + (⟨#[58]⟩ : ByteArray).size ≤ 9223372036854775807, (60 : Int) ≠ 0, COK (hget []) [(I (a0.tmod (60 : Int)))] ⟨61, [(I (a0.tmod (60 : Int)))], [], (S x3), [], [], [], [], (S x3), []⟩, (x2 ++ (⟨#[58]⟩ : ByteArray)).size + x3.size ≤ 9223372036854775807], [⟨61, [(I (wrap64 (a0.tdiv (60 : Int))))], [], (S x2), [], [], [], [], (S x2), []⟩, ⟨61, [(I (a0.tmod (60 : Int)))], [], (S x3), [], [], [], [], (S x3), []⟩]⟩ [c_ 15] (alc (by decide) (alc (cok0 false (a2c (.z .s) a2n) (.z .s) (fun h => absurd h (by decide))) (alc c2 (alc (by decide) (alc (cok0 false (a2c (.z .s) a2n) (.z .s) (fun h => absurd h (by decide))) (alc c3 aln)))))) (acal (impl_twoDigits.J (wrap64 (a0.tdiv (60 : Int))) _ hx2) (acal (impl_twoDigits.J (a0.tmod (60 : Int)) _ hx3) nocal)) ?_
        have h := Option.some.inj h
        subst h
        exact .fin0 [] (S ((x2 ++ (⟨#[58]⟩ : ByteArray)) ++ x3)) [] aln (.z .s)
      · rw [if_neg c3] at h
        cases h
    · rw [if_neg c2] at h
      cases h
  · rw [if_neg c1] at h
    refine .cond' (.tmp 5) true [c_ 52, c_ 53, c_ 7] (bT (nT (vF c1))) ?_
    refine .reg' [2] [] ⟨[(2, (S (⟨#[]⟩ : ByteArray)))], [], [], []⟩ [c_ 53, c_ 7] aln nocal ?_
    have h := Option.some.inj h
    subst h
    exact .fin0 [] (S (⟨#[]⟩ : ByteArray)) [] aln (.z .s)
/-! impl_TripText: function 11 -/
def impl_TripText.l0 : Nat → S28 → ByteArray → Int → Option ByteArray
 | 0, _, _, _ => none
 | k + 1, a0, x2, x3 => (if x3 < (a0.f1.length : Int) then (if 0 ≤ x3 then ((strconv_Itoa.f ((at_ a0.f1 x3).f0)).bind fun x4 => (if (⟨#[32]⟩ : ByteArray).size + x4.size ≤ 9223372036854775807 then (if ((⟨#[32]⟩ : ByteArray) ++ x4).size + (⟨#[64]⟩ : ByteArray).size ≤ 9223372036854775807 then ((impl_TimeText.f ((at_ a0.f1 x3).f1)).bind fun x5 => (if (((⟨#[32]⟩ : ByteArray) ++ x4) ++ (⟨#[64]⟩ : ByteArray)).size + x5.size ≤ 9223372036854775807 then (if ((((⟨#[32]⟩ : ByteArray) ++ x4) ++ (⟨#[64]⟩ : ByteArray)) ++ x5).size + (⟨#[45]⟩ : ByteArray).size ≤ 9223372036854775807 then ((impl_TimeText.f ((at_ a0.f1 x3).f2)).bind fun x6 => (if (((((⟨#[32]⟩ : ByteArray) ++ x4) ++ (⟨#[64]⟩ : ByteArray)) ++ x5) ++ (⟨#[45]⟩ : ByteArray)).size + x6.size ≤ 9223372036854775807 then (if x2.size + ((((((⟨#[32]⟩ : ByteArray) ++ x4) ++ (⟨#[64]⟩ : ByteArray)) ++ x5) ++ (⟨#[45]⟩ : ByteArray)) ++ x6).size ≤ 9223372036854775807 then (impl_TripText.l0 k a0 (x2 ++ ((((((⟨#[32]⟩ : ByteArray) ++ x4) ++ (⟨#[64]⟩ : ByteArray)) ++ x5) ++ (⟨#[45]⟩ : ByteArray)) ++ x6)) (wrap64 (x3 + 1))) else none) else none)) else none) else none)) else none) else none)) else none) else (some x2))
def impl_TripText.f (k : Nat) (a0 : S28) : Option ByteArray := ((impl_TripOk.f k a0).bind fun x1 => (if x1 = true then (impl_TripText.l0 k a0 a0.f0 0) else (some (⟨#[]⟩ : ByteArray))))
theorem impl_TripText.lab : ∀ k, (∀ (a0 : S28) (x2 : ByteArray) (x3 : Int) (r : ByteArray), impl_TripText.l0 k a0 x2 x3 = some r → J prog (.run 11 [] [l_ 122, b_ 0, c_ 31] [(3, (S x2)), (12, (.sl true a0.f1.length 3 (a0.f1.flatMap e48))), (13, (I (a0.f1.length : Int))), (14, (I x3))] [] (S r) []))
 | 0 => (by intro a0 x2 x3 r h; unfold impl_TripText.l0 at h; cases h)
 | k + 1 => by
  have ih0 := impl_TripText.lab k
  · intro a0 x2 x3 r h
    unfold impl_TripText.l0 at h
    refine .loop' [c_ 488, c_ 489, l_ 122, b_ 0, c_ 31] ?_
    refine .reg' [3, 12, 13, 14, 15] [] ⟨[(3, (S x2)), (12, (.sl true a0.f1.length 3 (a0.f1.flatMap e48))), (13, (I (a0.f1.length : Int))), (14, (I x3)), (15, (B (decide (x3 < (a0.f1.length : Int)))))], [], [], []⟩ [c_ 978, c_ 979, l_ 122, b_ 0, c_ 31] aln nocal ?_
    by_cases c2 : x3 < (a0.f1.length : Int)
    · rw [if_pos c2] at h
      refine .cond' (.tmp 15) true [c_ 7832, c_ 7833, b_ 1, c_ 1959, l_ 122, b_ 0, c_ 31] (bT (dT c2)) ?_
      by_cases c3 : 0 ≤ x3
      · rw [if_pos c3] at h
        refine .reg' [3, 5, 12, 13, 14] [.no, .v (.ag [(I (at_ a0.f1 x3).f0), (I (at_ a0.f1 x3).f1), (I (at_ a0.f1 x3).f2)])] ⟨[(3, (S x2)), (5, (.pt 1794 0 3)), (12, (.sl true a0.f1.length 3 (a0.f1.flatMap e48))), (13, (I (a0.f1.length : Int))), (14, (I x3))], [(1794, [(I (at_ a0.f1 x3).f0), (I (at_ a0.f1 x3).f1), (I (at_ a0.f1 x3).f2)])], [(0 : Int) ≤ x3 ∧ x3 < (a0.f1.length : Int), rdC prog 49 ((a0.f1.flatMap e48).drop (x3.toNat * 3)) = (.ag [(I (at_ a0.f1 x3).f0), (I (at_ a0.f1 x3).f1), (I (at_ a0.f1 x3).f2)]), 3 ≤ ((a0.f1.flatMap e48).drop (x3.toNat * 3)).length, 3 = 3 ∧ 0 + 3 ≤ 3], []⟩ [c_ 7833, b_ 1, c_ 1959, l_ 122, b_ 0, c_ 31] (alc ⟨c3, c2⟩ (alc (ldA e48_ok rfl rfl c3 c2) (alc (okI e48_ok c3 c2 (by decide)) (alc ⟨rfl, by decide⟩ aln)))) nocal ?_
        obtain ⟨x4, hx4, h⟩ := Option.bind_eq_some_iff.mp h
        by_cases c4 : (⟨#[32]⟩ : ByteArray).size + x4.size ≤ 9223372036854775807
        · rw [if_pos c4] at h
          by_cases c5 : ((⟨#[32]⟩ : ByteArray) ++ x4).size + (⟨#[64]⟩ : ByteArray).size ≤ 9223372036854775807
          · rw [if_pos c5] at h
            obtain ⟨x5, hx5, h⟩ := Option.bind_eq_some_iff.mp h
            by_cases c6 : (((⟨#[32]⟩ : ByteArray) ++ x4) ++ (⟨#[64]⟩ : ByteArray)).size + x5.size ≤ 9223372036854775807
            · rw [if_pos c6] at h
              by_cases c7 : ((((⟨#[32]⟩ : ByteArray) ++ x4) ++ (⟨#[64]⟩ : ByteArray)) ++ x5).size + (⟨#[45]⟩ : ByteArray).size ≤ 9223372036854775807
              · rw [if_pos c7] at h
                obtain ⟨x6, hx6, h⟩ := Option.bind_eq_some_iff.mp h
                by_cases c8 : (((((⟨#[32]⟩ : ByteArray) ++ x4) ++ (⟨#[64]⟩ : ByteArray)) ++ x5) ++ (⟨#[45]⟩ : ByteArray)).size + x6.size ≤ 9223372036854775807
                · rw [if_pos c8] at h
                  by_cases c9 : x2.size + ((((((⟨#[32]⟩ : ByteArray) ++ x4) ++ (⟨#[64]⟩ : ByteArray)) ++ x5) ++ (⟨#[45]⟩ : ByteArray)) ++ x6).size ≤ 9223372036854775807
                  · rw [if_pos c9] at h
                    refine .reg' [3, 12, 13, 14] [.no, .no, .no, .c ⟨35, [(I (at_ a0.f1 x3).f0)], [], (S x4), [], [], [], [], (S x4), []⟩, .no, .no, .no, .no, .c ⟨36, [(I (at_ a0.f1 x3).f1)], [], (S x5), [], [], [], [], (S x5), []⟩, .no, .no, .no, .no, .c ⟨36, [(I (at_ a0.f1 x3).f2)], [], (S x6), [], [], [], [], (S x6), []⟩] ⟨[(3, (S (x2 ++ ((((((⟨#[32]⟩ : ByteArray) ++ x4) ++ (⟨#[64]⟩ : ByteArray)) ++ x5) ++ (⟨#[45]⟩ : ByteArray)) ++ x6)))), (12, (.sl true a0.f1.length 3 (a0.f1.flatMap e48))), (13, (I (a0.f1.length : Int))), (14, (I x3))], [(1794, [(I (at_ a0.f1 x3).f0), (I (at_ a0.f1 x3).f1), (I (at_ a0.f1 x3).f2)])], [3 = 3 ∧ 0 + 1 ≤ 3, COK (hget [(1794, [(I (at_ a0.f1 x3).f0), (I (at_ a0.f1 x3).f1), (I (at_ a0.f1 x3).f2)])]) [(I (at_ a0.f1 x3).f0)] ⟨35, [(I (at_ a0.f1 x3).f0)], [], (S x4), [], [], [], [], (S x4), []⟩, (⟨#[32]⟩ : ByteArray).size + x4.size ≤ 9223372036854775807, ((⟨#[32]⟩ : ByteArray) ++ x4).size + (⟨#[64]⟩ : ByteArray).size ≤ 9223372036854775807, 3 = 3 ∧ 1 + 1 ≤ 3, COK (hget [(1794, [(I (at_ a0.f1 x3).f0), (I (at_ a0.f1 x3).f1), (I (at_ a0.f1 x3).f2)])]) [(I (at_ a0.f1 x3).f1)] ⟨36, [(I (at_ a0.f1 x3).f1)], [], (S x5), [], [], [], [], (S x5), []⟩, (((⟨#[32]⟩ : ByteArray) ++ x4) ++ (⟨#[64]⟩ : ByteArray)).size + x5.size ≤ 9223372036854775807, ((((⟨#[32]⟩ : ByteArray) ++ x4) ++ (⟨#[64]⟩ : ByteArray)) ++ x5).size + (⟨#[45]⟩ : ByteArray).size ≤ 9223372036854775807, 3 = 3 ∧ 2 + 1 ≤ 3, COK (hget [(1794, [(I (at_ a0.f1 x3).f0), (I (at_ a0.f1 x3).f1), (I (at_ a0.f1 x3).f2)])]) [(I (at_ a0.f1 x3).f2)] ⟨36, [(I (at_ a0.f1 x3).f2)], [], (S x6), [], [], [], [], (S x6), []⟩, (((((⟨#[32]⟩ : ByteArray) ++ x4) ++ (⟨#[64]⟩ : ByteArray)) ++ x5) ++ (⟨#[45]⟩ : ByteArray)).size + x6.size ≤ 9223372036854775807, x2.size + ((((((⟨#[32]⟩ : ByteArray) ++ x4) ++ (⟨#[64]⟩ : ByteArray)) ++ x5) ++ (⟨#[45]⟩ : ByteArray)) ++ x6).size ≤ 9223372036854775807], [⟨35, [(I (at_ a0.f1 x3).f0)], [], (S x4), [], [], [], [], (S x4), []⟩, ⟨36, [(I (at_ a0.f1 x3).f1)], [], (S x5), [], [], [], [], (S x5), []⟩, ⟨36, [(I (at_ a0.f1 x3).f2)], [], (S x6), [], [], [], [], (S x6), []⟩]⟩ [c_ 1959, l_ 122, b_ 0, c_ 31] (alc ⟨rfl, by decide⟩ (alc (cok0 false (a2c (.z .s) a2n) (.z .s) (fun h => absurd h (by decide))) (alc c4 (alc c5 (alc ⟨rfl, by decide⟩ (alc (cok0 false (a2c (.z .s) a2n) (.z .s) (fun h => absurd h (by decide))) (alc c6 (alc c7 (alc ⟨rfl, by decide⟩ (alc (cok0 false (a2c (.z .s) a2n) (.z .s) (fun h => absurd h (by decide))) (alc c8 (alc c9 aln)))))))))))) (acal (strconv_Itoa.J ((at_ a0.f1 x3).f0) _ hx4) (acal (impl_TimeText.J ((at_ a0.f1 x3).f1) _ hx5) (acal (impl_TimeText.J ((at_ a0.f1 x3).f2) _ hx6) nocal))) ?_
                    refine .reg' [3, 12, 13, 14] [] ⟨[(3, (S (x2 ++ ((((((⟨#[32]⟩ : ByteArray) ++ x4) ++ (⟨#[64]⟩ : ByteArray)) ++ x5) ++ (⟨#[45]⟩ : ByteArray)) ++ x6)))), (12, (.sl true a0.f1.length 3 (a0.f1.flatMap e48))), (13, (I (a0.f1.length : Int))), (14, (I (wrap64 (x3 + 1))))], [(1794, [(I (at_ a0.f1 x3).f0), (I (at_ a0.f1 x3).f1), (I (at_ a0.f1 x3).f2)])], [], []⟩ [l_ 122, b_ 0, c_ 31] aln nocal ?_
                    refine .wk' [] [] [(3, (S (x2 ++ ((((((⟨#[32]⟩ : ByteArray) ++ x4) ++ (⟨#[64]⟩ : ByteArray)) ++ x5) ++ (⟨#[45]⟩ : ByteArray)) ++ x6)))), (12, (.sl true a0.f1.length 3 (a0.f1.flatMap e48))), (13, (I (a0.f1.length : Int))), (14, (I (wrap64 (x3 + 1))))] [] shn (enc_ (.z .s) (enc_ (.z (frz_sl e48_ok (fun h => h))) (enc_ (.z .s) (enc_ (.z .s) enn)))) ?_
                    exact ih0 a0 (x2 ++ ((((((⟨#[32]⟩ : ByteArray) ++ x4) ++ (⟨#[64]⟩ : ByteArray)) ++ x5) ++ (⟨#[45]⟩ : ByteArray)) ++ x6)) (wrap64 (x3 + 1)) _ h
                  · rw [if_neg c9] at h
                    cases h
                · rw [if_neg c8] at h
                  cases h
              · rw [if_neg c7] at h
                cases h
            · rw [if_neg c6] at h
              cases h
          · rw [if_neg c5] at h
            cases h
        · rw [if_neg c4] at h
          cases h
      · rw [if_neg c3] at h
        cases h
    · rw [if_neg c2] at h
      refine .cond' (.tmp 15) false [c_ 62, c_ 63] (bF (dF c2)) ?_
      refine .reg' [2] [] ⟨[(2, (S x2))], [], [], []⟩ [c_ 63] aln nocal ?_
      have h := Option.some.inj h
      subst h
      exact .fin0 [] (S x2) [] aln (.z .s)
theorem impl_TripText.J (k : Nat) (a0 : S28) (r : ByteArray) (h : impl_TripText.f k a0 = some r) : J prog (.call 11 [(.ag [(S a0.f0), (.sl true a0.f1.length 3 (a0.f1.flatMap e48))])] [] (S r) []) := by
  unfold impl_TripText.f at h
  have ih0 := impl_TripText.lab k
  refine .call' [c_ 2, c_ 3] ?_
  refine .reg' [1] [] ⟨[(1, (.pt 256 0 2))], [(256, [(S a0.f0), (.sl true a0.f1.length 3 (a0.f1.flatMap e48))])], [], []⟩ [c_ 12, c_ 13, c_ 7] aln nocal ?_
  obtain ⟨x1, hx1, h⟩ := Option.bind_eq_some_iff.mp h
  refine .reg' [1, 8] [.no, .c ⟨24, [(.ag [(S a0.f0), (.sl true a0.f1.length 3 (a0.f1.flatMap e48))])], [], (B x1), [], [], [], [], (B x1), []⟩] ⟨[(1, (.pt 256 0 2)), (8, (B (!x1)))], [(256, [(S a0.f0), (.sl true a0.f1.length 3 (a0.f1.flatMap e48))])], [2 = 2 ∧ 0 + 2 ≤ 2, COK (hget [(256, [(S a0.f0), (.sl true a0.f1.length 3 (a0.f1.flatMap e48))])]) [(.ag [(S a0.f0), (.sl true a0.f1.length 3 (a0.f1.flatMap e48))])] ⟨24, [(.ag [(S a0.f0), (.sl true a0.f1.length 3 (a0.f1.flatMap e48))])], [], (B x1), [], [], [], [], (B x1), []⟩], [⟨24, [(.ag [(S a0.f0), (.sl true a0.f1.length 3 (a0.f1.flatMap e48))])], [], (B x1), [], [], [], [], (B x1), []⟩]⟩ [c_ 13, c_ 7] (alc ⟨rfl, by decide⟩ (alc (cok0 false (a2c (.z (frz_ag (a2c .s (a2c (frz_sl e48_ok (fun h => h)) a2n)))) a2n) (.z .s) (fun h => absurd h (by decide))) aln)) (acal (impl_TripOk.J k a0 _ hx1) nocal) ?_
  by_cases c1 : x1 = true
  · rw [if_pos c1] at h
    refine .cond' (.tmp 8) false [c_ 14, c_ 15] (bF (nF c1)) ?_
    refine .reg' [1, 3] [] ⟨[(1, (.pt 256 0 2)), (3, (S a0.f0))], [(256, [(S a0.f0), (.sl true a0.f1.length 3 (a0.f1.flatMap e48))])], [2 = 2 ∧ 0 + 1 ≤ 2], []⟩ [c_ 60, c_ 61, c_ 31] (alc ⟨rfl, by decide⟩ aln) nocal ?_
    refine .reg' [3, 12, 13, 14] [] ⟨[(3, (S a0.f0)), (12, (.sl true a0.f1.length 3 (a0.f1.flatMap e48))), (13, (I (a0.f1.length : Int))), (14, (I 0))], [(256, [(S a0.f0), (.sl true a0.f1.length 3 (a0.f1.flatMap e48))])], [2 = 2 ∧ 1 + 1 ≤ 2], []⟩ [l_ 122, b_ 0, c_ 31] (alc ⟨rfl, by decide⟩ aln) nocal ?_
    refine .wk' [] [] [(3, (S a0.f0)), (12, (.sl true a0.f1.length 3 (a0.f1.flatMap e48))), (13, (I (a0.f1.length : Int))), (14, (I 0))] [] shn (enc_ (.z .s) (enc_ (.z (frz_sl e48_ok (fun h => h))) (enc_ (.z .s) (enc_ (.z .s) enn)))) ?_
    exact ih0 a0 a0.f0 0 _ h
  · rw [if_neg c1] at h
    refine .cond' (.tmp 8) true [c_ 52, c_ 53, c_ 7] (bT (nT (vF c1))) ?_
    refine .reg' [2] [] ⟨[(2, (S (⟨#[]⟩ : ByteArray)))], [(256, [(S a0.f0), (.sl true a0.f1.length 3 (a0.f1.flatMap e48))])], [], []⟩ [c_ 53, c_ 7] aln nocal ?_
    have h := Option.some.inj h
    subst h
    exact .fin0 [] (S (⟨#[]⟩ : ByteArray)) [] aln (.z .s)
def lays146_ren : Go.Shelf.Ren := ⟨fun | 146 => 48 | 221 => 63 | 268 => 72 | 138 => 73 | 143 => 74 | 195 => 82 | 197 => 83 | 218 => 84 | 219 => 75 | 260 => 94 | 217 => 85 | 225 => 86 | 224 => 87 | 267 => 88 | 266 => 95 | 314 => 96 | n => n, fun | 9 => 9 | 31 => 57 | 3 => 3 | 4 => 4 | 0 => 0 | 105 => 98 | 21 => 21 | 5 => 5 | 46 => 102 | 119 => 111 | 139 => 114 | 138 => 113 | 146 => 108 | 51 => 105 | n => n, fun | 1 => 0 | 3 => 2 | 4 => 3 | n => n⟩
theorem lays146 : Go.Proofs.LaysM.n146 Tryd.prog lays146_ren where
  mixed := by kernel_rfl
  f138 := Tryd.func73.trans (congrArg some (by kernel_rfl))
  f143 := Tryd.func74.trans (congrArg some (by kernel_rfl))
  f146 := Tryd.func48.trans (congrArg some (by kernel_rfl))
  f195 := Tryd.func82.trans (congrArg some (by kernel_rfl))
  f197 := Tryd.func83.trans (congrArg some (by kernel_rfl))
  f217 := Tryd.func85.trans (congrArg some (by kernel_rfl))
  f218 := Tryd.func84.trans (congrArg some (by kernel_rfl))
  f219 := Tryd.func75.trans (congrArg some (by kernel_rfl))
  f221 := Tryd.func63.trans (congrArg some (by kernel_rfl))
  f224 := Tryd.func87.trans (congrArg some (by kernel_rfl))
  f225 := Tryd.func86.trans (congrArg some (by kernel_rfl))
  f260 := Tryd.func94.trans (congrArg some (by kernel_rfl))
  f266 := Tryd.func95.trans (congrArg some (by kernel_rfl))
  f267 := Tryd.func88.trans (congrArg some (by kernel_rfl))
  f268 := Tryd.func72.trans (congrArg some (by kernel_rfl))
  f314 := Tryd.func96.trans (congrArg some (by kernel_rfl))
  t0 := Tryd.underlying0
  a0 := Tryd.isAgg0
  z0 := Tryd.sizeOf0
  v0 := Tryd.zeroValue0
  t3 := Tryd.underlying3
  a3 := Tryd.isAgg3
  z3 := Tryd.sizeOf3
  v3 := Tryd.zeroValue3
  t4 := Tryd.underlying4
  a4 := Tryd.isAgg4
  z4 := Tryd.sizeOf4
  v4 := Tryd.zeroValue4
  t5 := Tryd.underlying5
  a5 := Tryd.isAgg5
  z5 := Tryd.sizeOf5
  v5 := Tryd.zeroValue5
  t9 := Tryd.underlying9
  a9 := Tryd.isAgg9
  z9 := Tryd.sizeOf9
  v9 := Tryd.zeroValue9
  t21 := Tryd.underlying21
  a21 := Tryd.isAgg21
  z21 := Tryd.sizeOf21
  v21 := Tryd.zeroValue21
  t31 := Tryd.underlying57
  a31 := Tryd.isAgg57
  z31 := Tryd.sizeOf57
  v31 := Tryd.zeroValue57
  t46 := Tryd.underlying102
  a46 := Tryd.isAgg102
  z46 := Tryd.sizeOf102
  v46 := Tryd.zeroValue102
  t51 := Tryd.underlying105
  a51 := Tryd.isAgg105
  z51 := Tryd.sizeOf105
  v51 := Tryd.zeroValue105
  t105 := Tryd.underlying98
  a105 := Tryd.isAgg98
  z105 := Tryd.sizeOf98
  v105 := Tryd.zeroValue98
  t119 := Tryd.underlying111
  a119 := Tryd.isAgg111
  z119 := Tryd.sizeOf111
  t138 := Tryd.underlying113
  a138 := Tryd.isAgg113
  z138 := Tryd.sizeOf113
  v138 := Tryd.zeroValue113
  t139 := Tryd.underlying114
  a139 := Tryd.isAgg114
  z139 := Tryd.sizeOf114
  v139 := Tryd.zeroValue114
  t146 := Tryd.underlying108
  a146 := Tryd.isAgg108
  z146 := Tryd.sizeOf108
  v146 := Tryd.zeroValue108
  g1 := by kernel_rfl
  g3 := by kernel_rfl
  g4 := by kernel_rfl
  i0 := by kernel_rfl
  i3 := by kernel_rfl
  i4 := by kernel_rfl
  i5 := by kernel_rfl
  i9 := by kernel_rfl
  i21 := by kernel_rfl
  i31 := by kernel_rfl
  i46 := by kernel_rfl
  i51 := by kernel_rfl
  i105 := by kernel_rfl
  i138 := by kernel_rfl
  i139 := by kernel_rfl
  i146 := by kernel_rfl
  m1 := by kernel_rfl
  s1_3 := fun w h => Go.Proofs.cell_of_shapedOpen_int (zero := #[.int .i64 0]) (t := 3) h (of_decide_eq_true (by kernel_rfl)) (by kernel_rfl) rfl (by kernel_rfl) (by kernel_rfl) Tryd.underlying3
  m3 := by kernel_rfl
  m4 := by kernel_rfl
/-! strings_Split: function 48 (the shelf's contract) -/
def strings_Split.f (a0 a1 : ByteArray) : Option (List ByteArray) := (if a0.size < 4294967281 then (if 1 ≤ a1.size then (some (Go.Lib.splitB a1 0 (Go.Lib.countB a0 a1) a0)) else none) else none)
theorem strings_Split.J (a0 a1 : ByteArray) (r : List ByteArray) (h : strings_Split.f a0 a1 = some r) : J prog (.call 48 [(S a0), (S a1)] [] (.sl false r.length 1 (r.flatMap encS)) []) := by
  unfold strings_Split.f at h
  by_cases h0 : a0.size < 4294967281
  · rw [if_pos h0] at h
    by_cases h1 : 1 ≤ a1.size
    · rw [if_pos h1] at h
      have h := Option.some.inj h
      subst h
      refine lib_strs2 (ty := lays146_ren.t 9) fun w hg => ?_
      obtain ⟨m, hm⟩ := hg.2 _ lays146.m1
      refine (Go.Proofs.Any.strings_Split { lays146 with } lays146.i9 a0 a1 m w h0 hm h1).mono ?_
      rintro e w2 ⟨rfl, rfl⟩
      exact ⟨by rw [Go.Lib.splitB_all a1 h1 0 _ a0 rfl], rfl⟩
    · rw [if_neg h1] at h
      cases h
  · rw [if_neg h0] at h
    cases h
def lays145_ren : Go.Shelf.Ren := ⟨fun | 145 => 49 | 220 => 64 | 219 => 75 | 217 => 85 | 225 => 86 | 224 => 87 | 267 => 88 | 266 => 95 | 314 => 96 | n => n, fun | 9 => 9 | 4 => 4 | 59 => 61 | 3 => 3 | 5 => 5 | 46 => 102 | 146 => 108 | 51 => 105 | n => n, fun | 1 => 0 | n => n⟩
theorem lays145 : Go.Proofs.LaysM.n145 Tryd.prog lays145_ren where
  mixed := by kernel_rfl
  f145 := Tryd.func49.trans (congrArg some (by kernel_rfl))
  f217 := Tryd.func85.trans (congrArg some (by kernel_rfl))
  f219 := Tryd.func75.trans (congrArg some (by kernel_rfl))
  f220 := Tryd.func64.trans (congrArg some (by kernel_rfl))
  f224 := Tryd.func87.trans (congrArg some (by kernel_rfl))
  f225 := Tryd.func86.trans (congrArg some (by kernel_rfl))
  f266 := Tryd.func95.trans (congrArg some (by kernel_rfl))
  f267 := Tryd.func88.trans (congrArg some (by kernel_rfl))
  f314 := Tryd.func96.trans (congrArg some (by kernel_rfl))
  t3 := Tryd.underlying3
  a3 := Tryd.isAgg3
  z3 := Tryd.sizeOf3
  v3 := Tryd.zeroValue3
  t4 := Tryd.underlying4
  a4 := Tryd.isAgg4
  z4 := Tryd.sizeOf4
  v4 := Tryd.zeroValue4
  t5 := Tryd.underlying5
  a5 := Tryd.isAgg5
  z5 := Tryd.sizeOf5
  v5 := Tryd.zeroValue5
  t9 := Tryd.underlying9
  a9 := Tryd.isAgg9
  z9 := Tryd.sizeOf9
  v9 := Tryd.zeroValue9
  t46 := Tryd.underlying102
  a46 := Tryd.isAgg102
  z46 := Tryd.sizeOf102
  v46 := Tryd.zeroValue102
  t51 := Tryd.underlying105
  a51 := Tryd.isAgg105
  z51 := Tryd.sizeOf105
  v51 := Tryd.zeroValue105
  t59 := Tryd.underlying61
  a59 := Tryd.isAgg61
  z59 := Tryd.sizeOf61
  v59 := Tryd.zeroValue61
  t146 := Tryd.underlying108
  a146 := Tryd.isAgg108
  z146 := Tryd.sizeOf108
  v146 := Tryd.zeroValue108
  g1 := by kernel_rfl
  i3 := by kernel_rfl
  i4 := by kernel_rfl
  i5 := by kernel_rfl
  i9 := by kernel_rfl
  i46 := by kernel_rfl
  i51 := by kernel_rfl
  i59 := by kernel_rfl
  i146 := by kernel_rfl
  m1 := by kernel_rfl
  s1_3 := fun w h => Go.Proofs.cell_of_shapedOpen_int (zero := #[.int .i64 0]) (t := 3) h (of_decide_eq_true (by kernel_rfl)) (by kernel_rfl) rfl (by kernel_rfl) (by kernel_rfl) Tryd.underlying3
/-! strings_Cut: function 49 (the shelf's contract) -/
def strings_Cut.f (a0 a1 : ByteArray) : Option (ByteArray × ByteArray × Bool) := (if a0.size < 4294967281 then (some ((⟨(Go.Lib.cut a0.data.toList a1.data.toList).1.toArray⟩ : ByteArray), (⟨(Go.Lib.cut a0.data.toList a1.data.toList).2.1.toArray⟩ : ByteArray), (Go.Lib.cut a0.data.toList a1.data.toList).2.2)) else none)
theorem strings_Cut.J (a0 a1 : ByteArray) (r : ByteArray × ByteArray × Bool) (h : strings_Cut.f a0 a1 = some r) : J prog (.call 49 [(S a0), (S a1)] [] (.tp [(S r.1), (S r.2.1), (B r.2.2)]) []) := by
  unfold strings_Cut.f at h
  by_cases h0 : a0.size < 4294967281
  · rw [if_pos h0] at h
    have h := Option.some.inj h
    subst h
    refine lib_cut2 fun w hg => ?_
    obtain ⟨m, hm⟩ := hg.2 _ lays145.m1
    exact Go.Proofs.Any.strings_Cut { lays145 with } a0 a1 m w h0 hm
  · rw [if_neg h0] at h
    cases h
/-! impl_digits: function 50 -/
def impl_digits.l0 : Nat → ByteArray → Int → Int → Option Int
 | 0, _, _, _ => none
 | k + 1, a0, x1, x2 => (if x2 < (a0.size : Int) then (if 0 ≤ x2 then (if (bt a0 x2) < 48 then (some (-1)) else (if (bt a0 x2) > 57 then (some (-1)) else (impl_digits.l0 k a0 (wrap64 ((wrap64 (10 * x1)) + (IntKind.i64.wrap (IntKind.u8.wrap ((bt a0 x2) - (48 : Int)))))) (wrap64 (x2 + 1))))) else none) else (some x1))
def impl_digits.f (k : Nat) (a0 : ByteArray) (a1 : Int) : Option Int := (if (a0.size : Int) < 1 then (some (-1)) else (if (a0.size : Int) > a1 then (some (-1)) else (impl_digits.l0 k a0 0 0)))
theorem impl_digits.lab : ∀ k, (∀ (a0 : ByteArray) (x1 : Int) (x2 : Int) (r : Int), impl_digits.l0 k a0 x1 x2 = some r → J prog (.run 50 [] [l_ 122, b_ 0, c_ 31] [(0, (S a0)), (5, (I x1)), (6, (I x2))] [] (I r) []))
 | 0 => (by intro a0 x1 x2 r h; unfold impl_digits.l0 at h; cases h)
 | k + 1 => by
  have ih0 := impl_digits.lab k
  · intro a0 x1 x2 r h
    unfold impl_digits.l0 at h
    refine .loop' [c_ 976, c_ 977, c_ 489, l_ 122, b_ 0, c_ 31] ?_
    refine .reg' [0, 5, 6, 19] [] ⟨[(0, (S a0)), (5, (I x1)), (6, (I x2)), (19, (B (decide (x2 < (a0.size : Int)))))], [], [], []⟩ [c_ 977, c_ 489, l_ 122, b_ 0, c_ 31] aln nocal ?_
    by_cases c3 : x2 < (a0.size : Int)
    · rw [if_pos c3] at h
      refine .cond' (.tmp 19) true [c_ 7824, c_ 7825, c_ 3913, b_ 1, c_ 979, l_ 122, b_ 0, c_ 31] (bT (dT c3)) ?_
      by_cases c4 : 0 ≤ x2
      · rw [if_pos c4] at h
        by_cases c5 : (bt a0 x2) < 48
        · rw [if_pos c5] at h
          refine .reg' [0, 5, 6, 31] [.no, .no, .no, .no, .v (B true)] ⟨[(0, (S a0)), (5, (I x1)), (6, (I x2)), (31, (B true))], [], [(0 : Int) ≤ x2 ∧ x2 < (a0.size : Int), (B (decide ((bt a0 x2) < 48)) : V) = B true], []⟩ [c_ 7825, c_ 3913, b_ 1, c_ 979, l_ 122, b_ 0, c_ 31] (alc ⟨c4, c3⟩ (alc (bT (dT c5)) aln)) nocal ?_
          refine .cond' (.tmp 31) true [c_ 31300, c_ 31301, c_ 3913, b_ 1, c_ 979, l_ 122, b_ 0, c_ 31] (rfl) ?_
          refine .reg' [4] [] ⟨[(4, (I (-1)))], [], [], []⟩ [c_ 31301, c_ 3913, b_ 1, c_ 979, l_ 122, b_ 0, c_ 31] aln nocal ?_
          have h := Option.some.inj h
          subst h
          exact .fin0 [] (I (-1)) [] aln (.z .s)
        · rw [if_neg c5] at h
          refine .reg' [0, 5, 6, 31] [.no, .no, .no, .no, .v (B false)] ⟨[(0, (S a0)), (5, (I x1)), (6, (I x2)), (31, (B (decide ((bt a0 x2) > 57))))], [], [(0 : Int) ≤ x2 ∧ x2 < (a0.size : Int), (B (decide ((bt a0 x2) < 48)) : V) = B false, (0 : Int) ≤ x2 ∧ x2 < (a0.size : Int)], []⟩ [c_ 7825, c_ 3913, b_ 1, c_ 979, l_ 122, b_ 0, c_ 31] (alc ⟨c4, c3⟩ (alc (bF (dF c5)) (alc ⟨c4, c3⟩ aln))) nocal ?_
          by_cases c6 : (bt a0 x2) > 57
          · rw [if_pos c6] at h
            refine .cond' (.tmp 31) true [c_ 31300, c_ 31301, c_ 3913, b_ 1, c_ 979, l_ 122, b_ 0, c_ 31] (bT (dT c6)) ?_
            refine .reg' [4] [] ⟨[(4, (I (-1)))], [], [], []⟩ [c_ 31301, c_ 3913, b_ 1, c_ 979, l_ 122, b_ 0, c_ 31] aln nocal ?_
            have h := Option.some.inj h
            subst h
            exact .fin0 [] (I (-1)) [] aln (.z .s)
          · rw [if_neg c6] at h
            refine .cond' (.tmp 31) false [c_ 3913, b_ 1, c_ 979, l_ 122, b_ 0, c_ 31] (bF (dF c6)) ?_
            refine .reg' [0, 5, 6] [] ⟨[(0, (S a0)), (5, (I (wrap64 ((wrap64 (10 * x1)) + (IntKind.i64.wrap (IntKind.u8.wrap ((bt a0 x2) - (48 : Int)))))))), (6, (I x2))], [], [(0 : Int) ≤ x2 ∧ x2 < (a0.size : Int)], []⟩ [c_ 979, l_ 122, b_ 0, c_ 31] (alc ⟨c4, c3⟩ aln) nocal ?_
            refine .reg' [0, 5, 6] [] ⟨[(0, (S a0)), (5, (I (wrap64 ((wrap64 (10 * x1)) + (IntKind.i64.wrap (IntKind.u8.wrap ((bt a0 x2) - (48 : Int)))))))), (6, (I (wrap64 (x2 + 1))))], [], [], []⟩ [l_ 122, b_ 0, c_ 31] aln nocal ?_
            exact ih0 a0 (wrap64 ((wrap64 (10 * x1)) + (IntKind.i64.wrap (IntKind.u8.wrap ((bt a0 x2) - (48 : Int)))))) (wrap64 (x2 + 1)) _ h
      · rw [if_neg c4] at h
        cases h
    · rw [if_neg c3] at h
      refine .cond' (.tmp 19) false [c_ 62, c_ 63] (bF (dF c3)) ?_
      refine .reg' [4] [] ⟨[(4, (I x1))], [], [], []⟩ [c_ 63] aln nocal ?_
      have h := Option.some.inj h
      subst h
      exact .fin0 [] (I x1) [] aln (.z .s)
theorem impl_digits.J (k : Nat) (a0 : ByteArray) (a1 : Int) (r : Int) (h : impl_digits.f k a0 a1 = some r) : J prog (.call 50 [(S a0), (I a1)] [] (I r) []) := by
  unfold impl_digits.f at h
  have ih0 := impl_digits.lab k
  refine .call' [c_ 2, c_ 3] ?_
  refine .reg' [0, 1] [] ⟨[(0, (S a0)), (1, (I a1))], [], [], []⟩ [c_ 12, c_ 13, c_ 7] aln nocal ?_
  by_cases c1 : (a0.size : Int) < 1
  · rw [if_pos c1] at h
    refine .reg' [0, 15] [.no, .no, .no, .v (B true)] ⟨[(0, (S a0)), (15, (B true))], [], [(B (decide ((a0.size : Int) < 1)) : V) = B true], []⟩ [c_ 13, c_ 7] (alc (bT (dT c1)) aln) nocal ?_
    refine .cond' (.tmp 15) true [c_ 52, c_ 53, c_ 7] (rfl) ?_
    refine .reg' [4] [] ⟨[(4, (I (-1)))], [], [], []⟩ [c_ 53, c_ 7] aln nocal ?_
    have h := Option.some.inj h
    subst h
    exact .fin0 [] (I (-1)) [] aln (.z .s)
  · rw [if_neg c1] at h
    refine .reg' [0, 15] [.no, .no, .no, .v (B false)] ⟨[(0, (S a0)), (15, (B (decide ((a0.size : Int) > a1))))], [], [(B (decide ((a0.size : Int) < 1)) : V) = B false], []⟩ [c_ 13, c_ 7] (alc (bF (dF c1)) aln) nocal ?_
    by_cases c2 : (a0.size : Int) > a1
    · rw [if_pos c2] at h
      refine .cond' (.tmp 15) true [c_ 52, c_ 53, c_ 7] (bT (dT c2)) ?_
      refine .reg' [4] [] ⟨[(4, (I (-1)))], [], [], []⟩ [c_ 53, c_ 7] aln nocal ?_
      have h := Option.some.inj h
      subst h
      exact .fin0 [] (I (-1)) [] aln (.z .s)
    · rw [if_neg c2] at h
      refine .cond' (.tmp 15) false [c_ 14, c_ 15] (bF (dF c2)) ?_
      refine .reg' [0, 5] [] ⟨[(0, (S a0)), (5, (I 0))], [], [], []⟩ [c_ 60, c_ 61, c_ 31] aln nocal ?_
      refine .reg' [0, 5, 6] [] ⟨[(0, (S a0)), (5, (I 0)), (6, (I 0))], [], [], []⟩ [l_ 122, b_ 0, c_ 31] aln nocal ?_
      exact ih0 a0 0 0 _ h
/-! impl_ReadTime: function 51 -/
def impl_ReadTime.f (k : Nat) (a0 : ByteArray) : Option Int := (if (a0.size : Int) < 5 then (some (-1)) else (if 0 ≤ (wrap64 ((a0.size : Int) - 3)) then (if (wrap64 ((a0.size : Int) - 3)) < (a0.size : Int) then (if (bt a0 (wrap64 ((a0.size : Int) - 3))) = 58 then (if (wrap64 ((a0.size : Int) - 3)) ≤ (a0.size : Int) then ((impl_digits.f k (a0.extract (0 : Int).toNat (wrap64 ((a0.size : Int) - 3)).toNat) 4).bind fun x1 => (if 0 ≤ (wrap64 ((a0.size : Int) - 2)) then (if (wrap64 ((a0.size : Int) - 2)) ≤ (a0.size : Int) then ((impl_digits.f k (a0.extract (wrap64 ((a0.size : Int) - 2)).toNat (a0.size : Int).toNat) 2).bind fun x2 => (if x1 < 0 then (some (-1)) else (if x2 < 0 then (some (-1)) else ((impl_TimeText.f (wrap64 ((wrap64 (60 * x1)) + x2))).bind fun x3 => (if (sEq x3 a0) = true then (some (wrap64 ((wrap64 (60 * x1)) + x2))) else (some (-1))))))) else none) else none)) else none) else (some (-1))) else none) else none))
theorem impl_ReadTime.J (k : Nat) (a0 : ByteArray) (r : Int) (h : impl_ReadTime.f k a0 = some r) : J prog (.call 51 [(S a0)] [] (I r) []) := by
  unfold impl_ReadTime.f at h
  refine .call' [c_ 2, c_ 3] ?_
  refine .reg' [0] [] ⟨[(0, (S a0))], [], [], []⟩ [c_ 12, c_ 13, c_ 7] aln nocal ?_
  by_cases c1 : (a0.size : Int) < 5
  · rw [if_pos c1] at h
    refine .reg' [0, 15] [.no, .no, .no, .v (B true)] ⟨[(0, (S a0)), (15, (B true))], [], [(B (decide ((a0.size : Int) < 5)) : V) = B true], []⟩ [c_ 13, c_ 7] (alc (bT (dT c1)) aln) nocal ?_
    refine .cond' (.tmp 15) true [c_ 52, c_ 53, c_ 7] (rfl) ?_
    refine .reg' [2] [] ⟨[(2, (I (-1)))], [], [], []⟩ [c_ 53, c_ 7] aln nocal ?_
    have h := Option.some.inj h
    subst h
    exact .fin0 [] (I (-1)) [] aln (.z .s)
  · rw [if_neg c1] at h
    by_cases c2 : 0 ≤ (wrap64 ((a0.size : Int) - 3))
    · rw [if_pos c2] at h
      by_cases c3 : (wrap64 ((a0.size : Int) - 3)) < (a0.size : Int)
      · rw [if_pos c3] at h
        refine .reg' [0, 15] [.no, .no, .no, .v (B false)] ⟨[(0, (S a0)), (15, (B (!((bt a0 (wrap64 ((a0.size : Int) - 3))) == 58))))], [], [(B (decide ((a0.size : Int) < 5)) : V) = B false, (0 : Int) ≤ (wrap64 ((a0.size : Int) - 3)) ∧ (wrap64 ((a0.size : Int) - 3)) < (a0.size : Int)], []⟩ [c_ 13, c_ 7] (alc (bF (dF c1)) (alc ⟨c2, c3⟩ aln)) nocal ?_
        by_cases c4 : (bt a0 (wrap64 ((a0.size : Int) - 3))) = 58
        · rw [if_pos c4] at h
          refine .cond' (.tmp 15) false [c_ 14, c_ 15] (bF (nF (qT c4))) ?_
          by_cases c5 : (wrap64 ((a0.size : Int) - 3)) ≤ (a0.size : Int)
          · rw [if_pos c5] at h
            obtain ⟨x1, hx1, h⟩ := Option.bind_eq_some_iff.mp h
            by_cases c6 : 0 ≤ (wrap64 ((a0.size : Int) - 2))
            · rw [if_pos c6] at h
              by_cases c7 : (wrap64 ((a0.size : Int) - 2)) ≤ (a0.size : Int)
              · rw [if_pos c7] at h
                obtain ⟨x2, hx2, h⟩ := Option.bind_eq_some_iff.mp h
                refine .reg' [0, 3, 4] [.no, .no, .no, .no, .no, .c ⟨50, [(S (a0.extract (0 : Int).toNat (wrap64 ((a0.size : Int) - 3)).toNat)), (I 4)], [], (I x1), [], [], [], [], (I x1), []⟩, .no, .no, .no, .no, .no, .c ⟨50, [(S (a0.extract (wrap64 ((a0.size : Int) - 2)).toNat (a0.size : Int).toNat)), (I 2)], [], (I x2), [], [], [], [], (I x2), []⟩] ⟨[(0, (S a0)), (3, (I x1)), (4, (I x2))], [], [0 ≤ (0 : Int) ∧ 0 ≤ (wrap64 ((a0.size : Int) - 3)) ∧ (wrap64 ((a0.size : Int) - 3)) ≤ (a0.size : Int), COK (hget []) [(S (a0.extract (0 : Int).toNat (wrap64 ((a0.size : Int) - 3)).toNat)), (I 4)] ⟨50, [(S (a0.extract (0 : Int).toNat (wrap64 ((a0.size : Int) - 3)).toNat)), (I 4)], [], (I x1), [], [], [], [], (I x1), []⟩, 0 ≤ (wrap64 ((a0.size : Int) - 2)) ∧ (wrap64 ((a0.size : Int) - 2)) ≤ (a0.size : Int) ∧ (a0.size : Int) ≤ (a0.size : Int), COK (hget []) [(S (a0.extract (wrap64 ((a0.size : Int) - 2)).toNat (a0.size : Int).toNat)), (I 2)] ⟨50, [(S (a0.extract (wrap64 ((a0.size : Int) - 2)).toNat (a0.size : Int).toNat)), (I 2)], [], (I x2), [], [], [], [], (I x2), []⟩], [⟨50, [(S (a0.extract (0 : Int).toNat (wrap64 ((a0.size : Int) - 3)).toNat)), (I 4)], [], (I x1), [], [], [], [], (I x1), []⟩, ⟨50, [(S (a0.extract (wrap64 ((a0.size : Int) - 2)).toNat (a0.size : Int).toNat)), (I 2)], [], (I x2), [], [], [], [], (I x2), []⟩]⟩ [c_ 60, c_ 61, c_ 31] (alc ⟨(by decide), c2, c5⟩ (alc (cok0 false (a2c (.z .s) (a2c (.z .s) a2n)) (.z .s) (fun h => absurd h (by decide))) (alc ⟨c6, c7, (Int.le_refl _)⟩ (alc (cok0 false (a2c (.z .s) (a2c (.z .s) a2n)) (.z .s) (fun h => absurd h (by decide))) aln)))) (acal (impl_digits.J k (a0.extract (0 : Int).toNat (wrap64 ((a0.size : Int) - 3)).toNat) 4 _ hx1) (acal (impl_digits.J k (a0.extract (wrap64 ((a0.size : Int) - 2)).toNat (a0.size : Int).toNat) 2 _ hx2) nocal)) ?_
                by_cases c8 : x1 < 0
                · rw [if_pos c8] at h
                  refine .reg' [3, 4, 42] [.no, .no, .v (B true)] ⟨[(3, (I x1)), (4, (I x2)), (42, (B true))], [], [(B (decide (x1 < 0)) : V) = B true], []⟩ [c_ 61, c_ 31] (alc (bT (dT c8)) aln) nocal ?_
                  refine .cond' (.tmp 42) true [c_ 244, c_ 245, c_ 31] (rfl) ?_
                  refine .reg' [2] [] ⟨[(2, (I (-1)))], [], [], []⟩ [c_ 245, c_ 31] aln nocal ?_
                  have h := Option.some.inj h
                  subst h
                  exact .fin0 [] (I (-1)) [] aln (.z .s)
                · rw [if_neg c8] at h
                  by_cases c9 : x2 < 0
                  · rw [if_pos c9] at h
                    refine .reg' [3, 4, 42] [.no, .no, .v (B false), .no, .no, .no, .v (B true)] ⟨[(3, (I x1)), (4, (I x2)), (42, (B true))], [], [(B (decide (x1 < 0)) : V) = B false, (B (decide (x2 < 0)) : V) = B true], []⟩ [c_ 61, c_ 31] (alc (bF (dF c8)) (alc (bT (dT c9)) aln)) nocal ?_
                    refine .cond' (.tmp 42) true [c_ 244, c_ 245, c_ 31] (rfl) ?_
                    refine .reg' [2] [] ⟨[(2, (I (-1)))], [], [], []⟩ [c_ 245, c_ 31] aln nocal ?_
                    have h := Option.some.inj h
                    subst h
                    exact .fin0 [] (I (-1)) [] aln (.z .s)
                  · rw [if_neg c9] at h
                    obtain ⟨x3, hx3, h⟩ := Option.bind_eq_some_iff.mp h
                    refine .reg' [3, 4, 42] [.no, .no, .v (B false), .no, .no, .no, .v (B false), .no, .no, .no, .no, .c ⟨36, [(I (wrap64 ((wrap64 (60 * x1)) + x2)))], [], (S x3), [], [], [], [], (S x3), []⟩] ⟨[(3, (I x1)), (4, (I x2)), (42, (B (!(sEq x3 a0))))], [], [(B (decide (x1 < 0)) : V) = B false, (B (decide (x2 < 0)) : V) = B false, COK (hget []) [(I (wrap64 ((wrap64 (60 * x1)) + x2)))] ⟨36, [(I (wrap64 ((wrap64 (60 * x1)) + x2)))], [], (S x3), [], [], [], [], (S x3), []⟩], [⟨36, [(I (wrap64 ((wrap64 (60 * x1)) + x2)))], [], (S x3), [], [], [], [], (S x3), []⟩]⟩ [c_ 61, c_ 31] (alc (bF (dF c8)) (alc (bF (dF c9)) (alc (cok0 false (a2c (.z .s) a2n) (.z .s) (fun h => absurd h (by decide))) aln))) (acal (impl_TimeText.J (wrap64 ((wrap64 (60 * x1)) + x2)) _ hx3) nocal) ?_
                    by_cases c10 : (sEq x3 a0) = true
                    · rw [if_pos c10] at h
                      refine .cond' (.tmp 42) false [c_ 62, c_ 63] (bF (nF c10)) ?_
                      refine .reg' [2] [] ⟨[(2, (I (wrap64 ((wrap64 (60 * x1)) + x2))))], [], [], []⟩ [c_ 63] aln nocal ?_
                      have h := Option.some.inj h
                      subst h
                      exact .fin0 [] (I (wrap64 ((wrap64 (60 * x1)) + x2))) [] aln (.z .s)
                    · rw [if_neg c10] at h
                      refine .cond' (.tmp 42) true [c_ 244, c_ 245, c_ 31] (bT (nT (vF c10))) ?_
                      refine .reg' [2] [] ⟨[(2, (I (-1)))], [], [], []⟩ [c_ 245, c_ 31] aln nocal ?_
                      have h := Option.some.inj h
                      subst h
                      exact .fin0 [] (I (-1)) [] aln (.z .s)
              · rw [if_neg c7] at h
                cases h
            · rw [if_neg c6] at h
              cases h
          · rw [if_neg c5] at h
            cases h
        · rw [if_neg c4] at h
          refine .cond' (.tmp 15) true [c_ 52, c_ 53, c_ 7] (bT (nT (qF c4))) ?_
          refine .reg' [2] [] ⟨[(2, (I (-1)))], [], [], []⟩ [c_ 53, c_ 7] aln nocal ?_
          have h := Option.some.inj h
          subst h
          exact .fin0 [] (I (-1)) [] aln (.z .s)
      · rw [if_neg c3] at h
        cases h
    · rw [if_neg c2] at h
      cases h
/-! impl_ReadTrip: function 20 -/
def impl_ReadTrip.l0 : Nat → ByteArray → (List ByteArray) → (List S48) → Int → Option (S28 × Bool)
 | 0, _, _, _, _ => none
 | k + 1, a0, x1, x2, x3 => (if x3 < (((x1.drop (1 : Int).toNat).take ((x1.length : Int).toNat - (1 : Int).toNat)).length : Int) then (if 0 ≤ x3 then ((strings_Cut.f (at_ ((x1.drop (1 : Int).toNat).take ((x1.length : Int).toNat - (1 : Int).toNat)) x3) (⟨#[64]⟩ : ByteArray)).bind fun x4 => ((strings_Cut.f x4.2.1 (⟨#[45]⟩ : ByteArray)).bind fun x5 => ((impl_digits.f k x4.1 2).bind fun x6 => ((impl_ReadTime.f k x5.1).bind fun x7 => ((impl_ReadTime.f k x5.2.1).bind fun x8 => (if (x2.length + ([(⟨x6, x7, x8⟩ : S48)] : List S48).length) * 24 ≤ 70368744177664 then (impl_ReadTrip.l0 k a0 x1 (x2 ++ ([(⟨x6, x7, x8⟩ : S48)] : List S48)) (wrap64 (x3 + 1))) else none)))))) else none) else ((impl_TripOk.f k (⟨(at_ x1 0), x2⟩ : S28)).bind fun x9 => (if x9 = true then ((impl_TripText.f k (⟨(at_ x1 0), x2⟩ : S28)).bind fun x10 => (if (sEq x10 a0) = true then (some ((⟨(at_ x1 0), x2⟩ : S28), true)) else (some ((⟨ByteArray.empty, ([] : List S48)⟩ : S28), false)))) else (some ((⟨ByteArray.empty, ([] : List S48)⟩ : S28), false)))))
def impl_ReadTrip.f (k : Nat) (a0 : ByteArray) : Option (S28 × Bool) := (if (a0.size : Int) > 300 then (some ((⟨ByteArray.empty, ([] : List S48)⟩ : S28), false)) else ((strings_Split.f a0 (⟨#[32]⟩ : ByteArray)).bind fun x1 => (if 0 < (x1.length : Int) then (if 1 ≤ (x1.length : Int) then (impl_ReadTrip.l0 k a0 x1 ([] : List S48) 0) else none) else none)))
theorem impl_ReadTrip.lab : ∀ k, (∀ (a0 : ByteArray) (x1 : (List ByteArray)) (x2 : (List S48)) (x3 : Int) (r : (S28 × Bool)), impl_ReadTrip.l0 k a0 x1 x2 x3 = some r → J prog (.run 20 [] [l_ 250, b_ 0, c_ 63] [(0, (S a0)), (2, (.pt 256 0 2)), (5, (.pt 1284 0 2)), (25, (.sl false ((x1.drop (1 : Int).toNat).take ((x1.length : Int).toNat - (1 : Int).toNat)).length 1 (((x1.drop (1 : Int).toNat).take ((x1.length : Int).toNat - (1 : Int).toNat)).flatMap encS))), (26, (I (((x1.drop (1 : Int).toNat).take ((x1.length : Int).toNat - (1 : Int).toNat)).length : Int))), (27, (I x3))] [(3020545, (x2.flatMap e48)), (256, [(S ByteArray.empty), nilS]), (1284, [(S (at_ x1 0)), (.rf 3020545 0 x2.length 3 (x2.length * 3))])] (.tp [(.ag [(S r.1.f0), (.rf 3020545 0 r.1.f1.length 3 (r.1.f1.length * 3))]), (B r.2)]) [(3020545, (r.1.f1.flatMap e48))]))
 | 0 => (by intro a0 x1 x2 x3 r h; unfold impl_ReadTrip.l0 at h; cases h)
 | k + 1 => by
  have ih0 := impl_ReadTrip.lab k
  · intro a0 x1 x2 x3 r h
    unfold impl_ReadTrip.l0 at h
    refine .loop' [c_ 1000, c_ 1001, l_ 250, b_ 0, c_ 63] ?_
    refine .reg' [0, 2, 5, 25, 26, 27, 28] [] ⟨[(0, (S a0)), (2, (.pt 256 0 2)), (5, (.pt 1284 0 2)), (25, (.sl false ((x1.drop (1 : Int).toNat).take ((x1.length : Int).toNat - (1 : Int).toNat)).length 1 (((x1.drop (1 : Int).toNat).take ((x1.length : Int).toNat - (1 : Int).toNat)).flatMap encS))), (26, (I (((x1.drop (1 : Int).toNat).take ((x1.length : Int).toNat - (1 : Int).toNat)).length : Int))), (27, (I x3)), (28, (B (decide (x3 < (((x1.drop (1 : Int).toNat).take ((x1.length : Int).toNat - (1 : Int).toNat)).length : Int)))))], [(3020545, (x2.flatMap e48)), (256, [(S ByteArray.empty), nilS]), (1284, [(S (at_ x1 0)), (.rf 3020545 0 x2.length 3 (x2.length * 3))])], [], []⟩ [c_ 2002, c_ 2003, l_ 250, b_ 0, c_ 63] aln nocal ?_
    by_cases c4 : x3 < (((x1.drop (1 : Int).toNat).take ((x1.length : Int).toNat - (1 : Int).toNat)).length : Int)
    · rw [if_pos c4] at h
      refine .cond' (.tmp 28) true [c_ 16024, c_ 16025, b_ 1, c_ 4007, l_ 250, b_ 0, c_ 63] (bT (dT c4)) ?_
      by_cases c5 : 0 ≤ x3
      · rw [if_pos c5] at h
        refine .reg' [0, 2, 5, 7, 25, 26, 27] [.no, .v (S (at_ ((x1.drop (1 : Int).toNat).take ((x1.length : Int).toNat - (1 : Int).toNat)) x3))] ⟨[(0, (S a0)), (2, (.pt 256 0 2)), (5, (.pt 1284 0 2)), (7, (S (at_ ((x1.drop (1 : Int).toNat).take ((x1.length : Int).toNat - (1 : Int).toNat)) x3))), (25, (.sl false ((x1.drop (1 : Int).toNat).take ((x1.length : Int).toNat - (1 : Int).toNat)).length 1 (((x1.drop (1 : Int).toNat).take ((x1.length : Int).toNat - (1 : Int).toNat)).flatMap encS))), (26, (I (((x1.drop (1 : Int).toNat).take ((x1.length : Int).toNat - (1 : Int).toNat)).length : Int))), (27, (I x3))], [(3020545, (x2.flatMap e48)), (256, [(S ByteArray.empty), nilS]), (1284, [(S (at_ x1 0)), (.rf 3020545 0 x2.length 3 (x2.length * 3))])], [(0 : Int) ≤ x3 ∧ x3 < (((x1.drop (1 : Int).toNat).take ((x1.length : Int).toNat - (1 : Int).toNat)).length : Int), rdC prog 9 ((((x1.drop (1 : Int).toNat).take ((x1.length : Int).toNat - (1 : Int).toNat)).flatMap encS).drop (x3.toNat * 1)) = (S (at_ ((x1.drop (1 : Int).toNat).take ((x1.length : Int).toNat - (1 : Int).toNat)) x3)), 1 ≤ ((((x1.drop (1 : Int).toNat).take ((x1.length : Int).toNat - (1 : Int).toNat)).flatMap encS).drop (x3.toNat * 1)).length], []⟩ [c_ 32050, c_ 32051, b_ 1, c_ 4007, l_ 250, b_ 0, c_ 63] (alc ⟨c5, c4⟩ (alc (ldC1 encS_ok rfl c5 c4) (alc (okI encS_ok c5 c4 (by decide)) aln))) nocal ?_
        obtain ⟨x4, hx4, h⟩ := Option.bind_eq_some_iff.mp h
        refine .reg' [0, 2, 5, 8, 9, 25, 26, 27] [.no, .c ⟨49, [(S (at_ ((x1.drop (1 : Int).toNat).take ((x1.length : Int).toNat - (1 : Int).toNat)) x3)), (S (⟨#[64]⟩ : ByteArray))], [], (.tp [(S x4.1), (S x4.2.1), (B x4.2.2)]), [], [], [], [], (.tp [(S x4.1), (S x4.2.1), (B x4.2.2)]), []⟩] ⟨[(0, (S a0)), (2, (.pt 256 0 2)), (5, (.pt 1284 0 2)), (8, (S x4.1)), (9, (S x4.2.1)), (25, (.sl false ((x1.drop (1 : Int).toNat).take ((x1.length : Int).toNat - (1 : Int).toNat)).length 1 (((x1.drop (1 : Int).toNat).take ((x1.length : Int).toNat - (1 : Int).toNat)).flatMap encS))), (26, (I (((x1.drop (1 : Int).toNat).take ((x1.length : Int).toNat - (1 : Int).toNat)).length : Int))), (27, (I x3))], [(3020545, (x2.flatMap e48)), (256, [(S ByteArray.empty), nilS]), (1284, [(S (at_ x1 0)), (.rf 3020545 0 x2.length 3 (x2.length * 3))])], [COK (hget [(3020545, (x2.flatMap e48)), (256, [(S ByteArray.empty), nilS]), (1284, [(S (at_ x1 0)), (.rf 3020545 0 x2.length 3 (x2.length * 3))])]) [(S (at_ ((x1.drop (1 : Int).toNat).take ((x1.length : Int).toNat - (1 : Int).toNat)) x3)), (S (⟨#[64]⟩ : ByteArray))] ⟨49, [(S (at_ ((x1.drop (1 : Int).toNat).take ((x1.length : Int).toNat - (1 : Int).toNat)) x3)), (S (⟨#[64]⟩ : ByteArray))], [], (.tp [(S x4.1), (S x4.2.1), (B x4.2.2)]), [], [], [], [], (.tp [(S x4.1), (S x4.2.1), (B x4.2.2)]), []⟩], [⟨49, [(S (at_ ((x1.drop (1 : Int).toNat).take ((x1.length : Int).toNat - (1 : Int).toNat)) x3)), (S (⟨#[64]⟩ : ByteArray))], [], (.tp [(S x4.1), (S x4.2.1), (B x4.2.2)]), [], [], [], [], (.tp [(S x4.1), (S x4.2.1), (B x4.2.2)]), []⟩]⟩ [c_ 64102, c_ 64103, b_ 1, c_ 4007, l_ 250, b_ 0, c_ 63] (alc (cok0 false (a2c (.z .s) (a2c (.z .s) a2n)) (bck_tp (a2c (.z .s) (a2c (.z .s) (a2c (.z .s) a2n)))) (fun h => absurd h (by decide))) aln) (acal (strings_Cut.J (at_ ((x1.drop (1 : Int).toNat).take ((x1.length : Int).toNat - (1 : Int).toNat)) x3) (⟨#[64]⟩ : ByteArray) _ hx4) nocal) ?_
        obtain ⟨x5, hx5, h⟩ := Option.bind_eq_some_iff.mp h
        refine .reg' [0, 2, 5, 8, 11, 12, 25, 26, 27] [.no, .c ⟨49, [(S x4.2.1), (S (⟨#[45]⟩ : ByteArray))], [], (.tp [(S x5.1), (S x5.2.1), (B x5.2.2)]), [], [], [], [], (.tp [(S x5.1), (S x5.2.1), (B x5.2.2)]), []⟩] ⟨[(0, (S a0)), (2, (.pt 256 0 2)), (5, (.pt 1284 0 2)), (8, (S x4.1)), (11, (S x5.1)), (12, (S x5.2.1)), (25, (.sl false ((x1.drop (1 : Int).toNat).take ((x1.length : Int).toNat - (1 : Int).toNat)).length 1 (((x1.drop (1 : Int).toNat).take ((x1.length : Int).toNat - (1 : Int).toNat)).flatMap encS))), (26, (I (((x1.drop (1 : Int).toNat).take ((x1.length : Int).toNat - (1 : Int).toNat)).length : Int))), (27, (I x3))], [(3020545, (x2.flatMap e48)), (256, [(S ByteArray.empty), nilS]), (1284, [(S (at_ x1 0)), (.rf 3020545 0 x2.length 3 (x2.length * 3))])], [COK (hget [(3020545, (x2.flatMap e48)), (256, [(S ByteArray.empty), nilS]), (1284, [(S (at_ x1 0)), (.rf 3020545 0 x2.length 3 (x2.length * 3))])]) [(S x4.2.1), (S (⟨#[45]⟩ : ByteArray))] ⟨49, [(S x4.2.1), (S (⟨#[45]⟩ : ByteArray))], [], (.tp [(S x5.1), (S x5.2.1), (B x5.2.2)]), [], [], [], [], (.tp [(S x5.1), (S x5.2.1), (B x5.2.2)]), []⟩], [⟨49, [(S x4.2.1), (S (⟨#[45]⟩ : ByteArray))], [], (.tp [(S x5.1), (S x5.2.1), (B x5.2.2)]), [], [], [], [], (.tp [(S x5.1), (S x5.2.1), (B x5.2.2)]), []⟩]⟩ [c_ 64103, b_ 1, c_ 4007, l_ 250, b_ 0, c_ 63] (alc (cok0 false (a2c (.z .s) (a2c (.z .s) a2n)) (bck_tp (a2c (.z .s) (a2c (.z .s) (a2c (.z .s) a2n)))) (fun h => absurd h (by decide))) aln) (acal (strings_Cut.J x4.2.1 (⟨#[45]⟩ : ByteArray) _ hx5) nocal) ?_
        obtain ⟨x6, hx6, h⟩ := Option.bind_eq_some_iff.mp h
        obtain ⟨x7, hx7, h⟩ := Option.bind_eq_some_iff.mp h
        obtain ⟨x8, hx8, h⟩ := Option.bind_eq_some_iff.mp h
        by_cases c6 : (x2.length + ([(⟨x6, x7, x8⟩ : S48)] : List S48).length) * 24 ≤ 70368744177664
        · rw [if_pos c6] at h
          refine .reg' [0, 2, 5, 25, 26, 27] [.no, .no, .no, .c ⟨50, [(S x4.1), (I 2)], [], (I x6), [], [], [], [], (I x6), []⟩, .no, .c ⟨51, [(S x5.1)], [], (I x7), [], [], [], [], (I x7), []⟩, .no, .c ⟨51, [(S x5.2.1)], [], (I x8), [], [], [], [], (I x8), []⟩, .no, .no, .w (.rf 3020545 0 ((x2 ++ ([(⟨x6, x7, x8⟩ : S48)] : List S48)).length) 3 ((x2 ++ ([(⟨x6, x7, x8⟩ : S48)] : List S48)).length * 3)) ((x2 ++ ([(⟨x6, x7, x8⟩ : S48)] : List S48)).flatMap e48)] ⟨[(0, (S a0)), (2, (.pt 256 0 2)), (5, (.pt 1284 0 2)), (25, (.sl false ((x1.drop (1 : Int).toNat).take ((x1.length : Int).toNat - (1 : Int).toNat)).length 1 (((x1.drop (1 : Int).toNat).take ((x1.length : Int).toNat - (1 : Int).toNat)).flatMap encS))), (26, (I (((x1.drop (1 : Int).toNat).take ((x1.length : Int).toNat - (1 : Int).toNat)).length : Int))), (27, (I x3))], [(3020545, ((x2 ++ ([(⟨x6, x7, x8⟩ : S48)] : List S48)).flatMap e48)), (256, [(S ByteArray.empty), nilS]), (1284, [(S (at_ x1 0)), (.rf 3020545 0 ((x2 ++ ([(⟨x6, x7, x8⟩ : S48)] : List S48)).length) 3 ((x2 ++ ([(⟨x6, x7, x8⟩ : S48)] : List S48)).length * 3))]), (2825, (([(⟨x6, x7, x8⟩ : S48)] : List S48).flatMap e48))], [2 = 2 ∧ 1 + 1 ≤ 2, COK (hget [(3020545, (x2.flatMap e48)), (256, [(S ByteArray.empty), nilS]), (1284, [(S (at_ x1 0)), (.rf 3020545 0 x2.length 3 (x2.length * 3))])]) [(S x4.1), (I 2)] ⟨50, [(S x4.1), (I 2)], [], (I x6), [], [], [], [], (I x6), []⟩, COK (hget [(3020545, (x2.flatMap e48)), (256, [(S ByteArray.empty), nilS]), (1284, [(S (at_ x1 0)), (.rf 3020545 0 x2.length 3 (x2.length * 3))])]) [(S x5.1)] ⟨51, [(S x5.1)], [], (I x7), [], [], [], [], (I x7), []⟩, COK (hget [(3020545, (x2.flatMap e48)), (256, [(S ByteArray.empty), nilS]), (1284, [(S (at_ x1 0)), (.rf 3020545 0 x2.length 3 (x2.length * 3))])]) [(S x5.2.1)] ⟨51, [(S x5.2.1)], [], (I x8), [], [], [], [], (I x8), []⟩, V.rf 3020545 0 (x2.length + ([(⟨x6, x7, x8⟩ : S48)] : List S48).length) 3 (x2.length * 3 + ([(⟨x6, x7, x8⟩ : S48)] : List S48).length * 3) = (.rf 3020545 0 ((x2 ++ ([(⟨x6, x7, x8⟩ : S48)] : List S48)).length) 3 ((x2 ++ ([(⟨x6, x7, x8⟩ : S48)] : List S48)).length * 3)), x2.flatMap e48 ++ (((([(⟨x6, x7, x8⟩ : S48)] : List S48).flatMap e48).drop 0).take (([(⟨x6, x7, x8⟩ : S48)] : List S48).length * 3)) = ((x2 ++ ([(⟨x6, x7, x8⟩ : S48)] : List S48)).flatMap e48), (([(⟨x6, x7, x8⟩ : S48)] : List S48).length * 3 = (([(⟨x6, x7, x8⟩ : S48)] : List S48).flatMap e48).length ∧ 0 + ([(⟨x6, x7, x8⟩ : S48)] : List S48).length * 3 ≤ (([(⟨x6, x7, x8⟩ : S48)] : List S48).flatMap e48).length) ∧ x2.length * 3 = (x2.flatMap e48).length ∧ x2.length * 3 = (x2.flatMap e48).length ∧ (x2.length + ([(⟨x6, x7, x8⟩ : S48)] : List S48).length) * 24 ≤ 70368744177664, 2 = 2 ∧ 1 + 1 ≤ 2], [⟨50, [(S x4.1), (I 2)], [], (I x6), [], [], [], [], (I x6), []⟩, ⟨51, [(S x5.1)], [], (I x7), [], [], [], [], (I x7), []⟩, ⟨51, [(S x5.2.1)], [], (I x8), [], [], [], [], (I x8), []⟩]⟩ [c_ 4007, l_ 250, b_ 0, c_ 63] (alc ⟨rfl, by decide⟩ (alc (cok0 false (a2c (.z .s) (a2c (.z .s) a2n)) (.z .s) (fun h => absurd h (by decide))) (alc (cok0 false (a2c (.z .s) a2n) (.z .s) (fun h => absurd h (by decide))) (alc (cok0 false (a2c (.z .s) a2n) (.z .s) (fun h => absurd h (by decide))) (alc (apV rfl) (alc (apR e48_ok rfl) (alc (apO e48_ok rfl c6 rfl) (alc ⟨rfl, by decide⟩ aln)))))))) (acal (impl_digits.J k x4.1 2 _ hx6) (acal (impl_ReadTime.J k x5.1 _ hx7) (acal (impl_ReadTime.J k x5.2.1 _ hx8) nocal))) ?_
          refine .reg' [0, 2, 5, 25, 26, 27] [] ⟨[(0, (S a0)), (2, (.pt 256 0 2)), (5, (.pt 1284 0 2)), (25, (.sl false ((x1.drop (1 : Int).toNat).take ((x1.length : Int).toNat - (1 : Int).toNat)).length 1 (((x1.drop (1 : Int).toNat).take ((x1.length : Int).toNat - (1 : Int).toNat)).flatMap encS))), (26, (I (((x1.drop (1 : Int).toNat).take ((x1.length : Int).toNat - (1 : Int).toNat)).length : Int))), (27, (I (wrap64 (x3 + 1))))], [(3020545, ((x2 ++ ([(⟨x6, x7, x8⟩ : S48)] : List S48)).flatMap e48)), (256, [(S ByteArray.empty), nilS]), (1284, [(S (at_ x1 0)), (.rf 3020545 0 ((x2 ++ ([(⟨x6, x7, x8⟩ : S48)] : List S48)).length) 3 ((x2 ++ ([(⟨x6, x7, x8⟩ : S48)] : List S48)).length * 3))]), (2825, (([(⟨x6, x7, x8⟩ : S48)] : List S48).flatMap e48))], [], []⟩ [l_ 250, b_ 0, c_ 63] aln nocal ?_
          refine .wk' [] [(3020545, 3020545), (256, 256), (1284, 1284)] [(0, (S a0)), (2, (.pt 256 0 2)), (5, (.pt 1284 0 2)), (25, (.sl false ((x1.drop (1 : Int).toNat).take ((x1.length : Int).toNat - (1 : Int).toNat)).length 1 (((x1.drop (1 : Int).toNat).take ((x1.length : Int).toNat - (1 : Int).toNat)).flatMap encS))), (26, (I (((x1.drop (1 : Int).toNat).take ((x1.length : Int).toNat - (1 : Int).toNat)).length : Int))), (27, (I (wrap64 (x3 + 1))))] [(3020545, ((x2 ++ ([(⟨x6, x7, x8⟩ : S48)] : List S48)).flatMap e48)), (256, [(S ByteArray.empty), nilS]), (1284, [(S (at_ x1 0)), (.rf 3020545 0 ((x2 ++ ([(⟨x6, x7, x8⟩ : S48)] : List S48)).length) 3 ((x2 ++ ([(⟨x6, x7, x8⟩ : S48)] : List S48)).length * 3))])] (shc 3020545 (rowF e48_ok _) (shc 256 (a2c (.z .s) (a2c (.z .s) a2n)) (shc 1284 (a2c (.z .s) (a2c (.rf (memP_mem (p := (3020545, 3020545)) rfl)) a2n)) shn))) (enc_ (.z .s) (enc_ (.pt (memP_mem (p := (256, 256)) rfl)) (enc_ (.pt (memP_mem (p := (1284, 1284)) rfl)) (enc_ (.z (frz_sl encS_ok (fun h => h))) (enc_ (.z .s) (enc_ (.z .s) enn)))))) ?_
          exact ih0 a0 x1 (x2 ++ ([(⟨x6, x7, x8⟩ : S48)] : List S48)) (wrap64 (x3 + 1)) _ h
        · rw [if_neg c6] at h
          cases h
      · rw [if_neg c5] at h
        cases h
    · rw [if_neg c4] at h
      refine .cond' (.tmp 28) false [c_ 252, c_ 253, c_ 127] (bF (dF c4)) ?_
      obtain ⟨x9, hx9, h⟩ := Option.bind_eq_some_iff.mp h
      by_cases c7 : x9 = true
      · rw [if_pos c7] at h
        obtain ⟨x10, hx10, h⟩ := Option.bind_eq_some_iff.mp h
        refine .reg' [2, 5, 64] [.no, .c ⟨24, [(.ag [(S (at_ x1 0)), (.sl true x2.length 3 (x2.flatMap e48))])], [], (B x9), [], [3020545], [], [], (B x9), []⟩, .no, .v (B false), .no, .c ⟨11, [(.ag [(S (at_ x1 0)), (.sl true x2.length 3 (x2.flatMap e48))])], [], (S x10), [], [3020545], [], [], (S x10), []⟩] ⟨[(2, (.pt 256 0 2)), (5, (.pt 1284 0 2)), (64, (B (!(sEq x10 a0))))], [(3020545, (x2.flatMap e48)), (256, [(S ByteArray.empty), nilS]), (1284, [(S (at_ x1 0)), (.rf 3020545 0 x2.length 3 (x2.length * 3))])], [2 = 2 ∧ 0 + 2 ≤ 2, COK (hget [(3020545, (x2.flatMap e48)), (256, [(S ByteArray.empty), nilS]), (1284, [(S (at_ x1 0)), (.rf 3020545 0 x2.length 3 (x2.length * 3))])]) [(.ag [(S (at_ x1 0)), (.rf 3020545 0 x2.length 3 (x2.length * 3))])] ⟨24, [(.ag [(S (at_ x1 0)), (.sl true x2.length 3 (x2.flatMap e48))])], [], (B x9), [], [3020545], [], [], (B x9), []⟩, (B (!x9) : V) = B false, 2 = 2 ∧ 0 + 2 ≤ 2, COK (hget [(3020545, (x2.flatMap e48)), (256, [(S ByteArray.empty), nilS]), (1284, [(S (at_ x1 0)), (.rf 3020545 0 x2.length 3 (x2.length * 3))])]) [(.ag [(S (at_ x1 0)), (.rf 3020545 0 x2.length 3 (x2.length * 3))])] ⟨11, [(.ag [(S (at_ x1 0)), (.sl true x2.length 3 (x2.flatMap e48))])], [], (S x10), [], [3020545], [], [], (S x10), []⟩], [⟨24, [(.ag [(S (at_ x1 0)), (.sl true x2.length 3 (x2.flatMap e48))])], [], (B x9), [], [3020545], [], [], (B x9), []⟩, ⟨11, [(.ag [(S (at_ x1 0)), (.sl true x2.length 3 (x2.flatMap e48))])], [], (S x10), [], [3020545], [], [], (S x10), []⟩]⟩ [c_ 253, c_ 127] (alc ⟨rfl, by decide⟩ (alc (cok0 false (a2c (cnv_ag (a2c (.z .s) (a2c (.z (frz_rf (k := 3020545) e48_ok (by simp) rfl rfl (row_len e48_ok _).symm)) a2n))) a2n) (.z .s) (fun h => absurd h (by decide))) (alc (bF (nF c7)) (alc ⟨rfl, by decide⟩ (alc (cok0 false (a2c (cnv_ag (a2c (.z .s) (a2c (.z (frz_rf (k := 3020545) e48_ok (by simp) rfl rfl (row_len e48_ok _).symm)) a2n))) a2n) (.z .s) (fun h => absurd h (by decide))) aln))))) (acal (impl_TripOk.J k (⟨(at_ x1 0), x2⟩ : S28) _ hx9) (acal (impl_TripText.J k (⟨(at_ x1 0), x2⟩ : S28) _ hx10) nocal)) ?_
        by_cases c8 : (sEq x10 a0) = true
        · rw [if_pos c8] at h
          refine .cond' (.tmp 64) false [c_ 254, c_ 255] (bF (nF c8)) ?_
          refine .reg' [2, 3] [] ⟨[(2, (.pt 256 0 2)), (3, (B true))], [(3020545, (x2.flatMap e48)), (256, [(S (at_ x1 0)), (.rf 3020545 0 x2.length 3 (x2.length * 3))]), (1284, [(S (at_ x1 0)), (.rf 3020545 0 x2.length 3 (x2.length * 3))])], [2 = 2 ∧ 0 + 2 ≤ 2, 2 = 2 ∧ 0 + 2 ≤ 2], []⟩ [c_ 255] (alc ⟨rfl, by decide⟩ (alc ⟨rfl, by decide⟩ aln)) nocal ?_
          have h := Option.some.inj h
          subst h
          exact .fin' [] [(3020545, 3020545)] (.tp [(.ag [(S (at_ x1 0)), (.rf 3020545 0 x2.length 3 (x2.length * 3))]), (B true)]) [2 = 2 ∧ 0 + 2 ≤ 2] (alc ⟨rfl, by decide⟩ aln) (shc 3020545 (rowF e48_ok _) shn) (cnv_tp (a2c (cnv_ag (a2c (.z .s) (a2c (.rf (memP_mem (p := (3020545, 3020545)) rfl)) a2n))) (a2c (.z .s) a2n)))
        · rw [if_neg c8] at h
          refine .cond' (.tmp 64) true [c_ 1012, c_ 1013, c_ 127] (bT (nT (vF c8))) ?_
          refine .reg' [2, 3] [] ⟨[(2, (.pt 256 0 2)), (3, (B false))], [(3020545, (x2.flatMap e48)), (256, [(S ByteArray.empty), nilS]), (1284, [(S (at_ x1 0)), (.rf 3020545 0 x2.length 3 (x2.length * 3))])], [2 = 2 ∧ 0 + 2 ≤ 2], []⟩ [c_ 1013, c_ 127] (alc ⟨rfl, by decide⟩ aln) nocal ?_
          have h := Option.some.inj h
          subst h
          refine .nl' 3020546 ?_
          exact .fin' [] [(3020546, 3020545)] (.tp [(.ag [(S ByteArray.empty), nilS]), (B false)]) [2 = 2 ∧ 0 + 2 ≤ 2] (alc ⟨rfl, by decide⟩ aln) (shc 3020546 (rowF e48_ok _) shn) (cnv_tp (a2c (cnv_ag (a2c (.z .s) (a2c (.nl (memP_mem (p := (3020546, 3020545)) rfl) rfl) a2n))) (a2c (.z .s) a2n)))
      · rw [if_neg c7] at h
        refine .reg' [2, 5, 64] [.no, .c ⟨24, [(.ag [(S (at_ x1 0)), (.sl true x2.length 3 (x2.flatMap e48))])], [], (B x9), [], [3020545], [], [], (B x9), []⟩, .no, .v (B true)] ⟨[(2, (.pt 256 0 2)), (5, (.pt 1284 0 2)), (64, (B true))], [(3020545, (x2.flatMap e48)), (256, [(S ByteArray.empty), nilS]), (1284, [(S (at_ x1 0)), (.rf 3020545 0 x2.length 3 (x2.length * 3))])], [2 = 2 ∧ 0 + 2 ≤ 2, COK (hget [(3020545, (x2.flatMap e48)), (256, [(S ByteArray.empty), nilS]), (1284, [(S (at_ x1 0)), (.rf 3020545 0 x2.length 3 (x2.length * 3))])]) [(.ag [(S (at_ x1 0)), (.rf 3020545 0 x2.length 3 (x2.length * 3))])] ⟨24, [(.ag [(S (at_ x1 0)), (.sl true x2.length 3 (x2.flatMap e48))])], [], (B x9), [], [3020545], [], [], (B x9), []⟩, (B (!x9) : V) = B true], [⟨24, [(.ag [(S (at_ x1 0)), (.sl true x2.length 3 (x2.flatMap e48))])], [], (B x9), [], [3020545], [], [], (B x9), []⟩]⟩ [c_ 253, c_ 127] (alc ⟨rfl, by decide⟩ (alc (cok0 false (a2c (cnv_ag (a2c (.z .s) (a2c (.z (frz_rf (k := 3020545) e48_ok (by simp) rfl rfl (row_len e48_ok _).symm)) a2n))) a2n) (.z .s) (fun h => absurd h (by decide))) (alc (bT (nT (vF c7))) aln))) (acal (impl_TripOk.J k (⟨(at_ x1 0), x2⟩ : S28) _ hx9) nocal) ?_
        refine .cond' (.tmp 64) true [c_ 1012, c_ 1013, c_ 127] (rfl) ?_
        refine .reg' [2, 3] [] ⟨[(2, (.pt 256 0 2)), (3, (B false))], [(3020545, (x2.flatMap e48)), (256, [(S ByteArray.empty), nilS]), (1284, [(S (at_ x1 0)), (.rf 3020545 0 x2.length 3 (x2.length * 3))])], [2 = 2 ∧ 0 + 2 ≤ 2], []⟩ [c_ 1013, c_ 127] (alc ⟨rfl, by decide⟩ aln) nocal ?_
        have h := Option.some.inj h
        subst h
        refine .nl' 3020546 ?_
        exact .fin' [] [(3020546, 3020545)] (.tp [(.ag [(S ByteArray.empty), nilS]), (B false)]) [2 = 2 ∧ 0 + 2 ≤ 2] (alc ⟨rfl, by decide⟩ aln) (shc 3020546 (rowF e48_ok _) shn) (cnv_tp (a2c (cnv_ag (a2c (.z .s) (a2c (.nl (memP_mem (p := (3020546, 3020545)) rfl) rfl) a2n))) (a2c (.z .s) a2n)))
theorem impl_ReadTrip.J (k : Nat) (a0 : ByteArray) (r : (S28 × Bool)) (h : impl_ReadTrip.f k a0 = some r) : J prog (.call 20 [(S a0)] [] (.tp [(.ag [(S r.1.f0), (.rf 3020545 0 r.1.f1.length 3 (r.1.f1.length * 3))]), (B r.2)]) [(3020545, (r.1.f1.flatMap e48))]) := by
  unfold impl_ReadTrip.f at h
  have ih0 := impl_ReadTrip.lab k
  refine .call' [c_ 2, c_ 3] ?_
  refine .reg' [0, 2] [] ⟨[(0, (S a0)), (2, (.pt 256 0 2))], [(256, [(S ByteArray.empty), nilS])], [], []⟩ [c_ 12, c_ 13, c_ 7] aln nocal ?_
  refine .reg' [0, 2, 16] [] ⟨[(0, (S a0)), (2, (.pt 256 0 2)), (16, (B (decide ((a0.size : Int) > 300))))], [(256, [(S ByteArray.empty), nilS])], [], []⟩ [c_ 13, c_ 7] aln nocal ?_
  by_cases c1 : (a0.size : Int) > 300
  · rw [if_pos c1] at h
    refine .cond' (.tmp 16) true [c_ 52, c_ 53, c_ 7] (bT (dT c1)) ?_
    refine .reg' [2, 3] [] ⟨[(2, (.pt 256 0 2)), (3, (B false))], [(256, [(S ByteArray.empty), nilS])], [2 = 2 ∧ 0 + 2 ≤ 2], []⟩ [c_ 53, c_ 7] (alc ⟨rfl, by decide⟩ aln) nocal ?_
    have h := Option.some.inj h
    subst h
    refine .nl' 3020545 ?_
    exact .fin' [] [(3020545, 3020545)] (.tp [(.ag [(S ByteArray.empty), nilS]), (B false)]) [2 = 2 ∧ 0 + 2 ≤ 2] (alc ⟨rfl, by decide⟩ aln) (shc 3020545 (rowF e48_ok _) shn) (cnv_tp (a2c (cnv_ag (a2c (.z .s) (a2c (.nl (memP_mem (p := (3020545, 3020545)) rfl) rfl) a2n))) (a2c (.z .s) a2n)))
  · rw [if_neg c1] at h
    refine .cond' (.tmp 16) false [c_ 14, c_ 15] (bF (dF c1)) ?_
    obtain ⟨x1, hx1, h⟩ := Option.bind_eq_some_iff.mp h
    refine .reg' [0, 2, 4] [.no, .c ⟨48, [(S a0), (S (⟨#[32]⟩ : ByteArray))], [], (.sl false x1.length 1 (x1.flatMap encS)), [], [], [], [], (.sl false x1.length 1 (x1.flatMap encS)), []⟩] ⟨[(0, (S a0)), (2, (.pt 256 0 2)), (4, (.sl false x1.length 1 (x1.flatMap encS)))], [(256, [(S ByteArray.empty), nilS])], [COK (hget [(256, [(S ByteArray.empty), nilS])]) [(S a0), (S (⟨#[32]⟩ : ByteArray))] ⟨48, [(S a0), (S (⟨#[32]⟩ : ByteArray))], [], (.sl false x1.length 1 (x1.flatMap encS)), [], [], [], [], (.sl false x1.length 1 (x1.flatMap encS)), []⟩], [⟨48, [(S a0), (S (⟨#[32]⟩ : ByteArray))], [], (.sl false x1.length 1 (x1.flatMap encS)), [], [], [], [], (.sl false x1.length 1 (x1.flatMap encS)), []⟩]⟩ [c_ 30, c_ 31] (alc (cok0 false (a2c (.z .s) (a2c (.z .s) a2n)) (.z (clnS encS_c (fun h => absurd h (by decide)))) (fun h => absurd h (by decide))) aln) (acal (strings_Split.J a0 (⟨#[32]⟩ : ByteArray) _ hx1) nocal) ?_
    by_cases c2 : 0 < (x1.length : Int)
    · rw [if_pos c2] at h
      refine .reg' [0, 2, 4, 5] [.no, .no, .v (S (at_ x1 0))] ⟨[(0, (S a0)), (2, (.pt 256 0 2)), (4, (.sl false x1.length 1 (x1.flatMap encS))), (5, (.pt 1284 0 2))], [(256, [(S ByteArray.empty), nilS]), (1284, [(S (at_ x1 0)), nilS])], [(0 : Int) ≤ 0 ∧ 0 < (x1.length : Int), rdC prog 9 ((x1.flatMap encS).drop ((0 : Int).toNat * 1)) = (S (at_ x1 0)), 1 ≤ ((x1.flatMap encS).drop ((0 : Int).toNat * 1)).length, 2 = 2 ∧ 0 + 2 ≤ 2], []⟩ [c_ 124, c_ 125, c_ 63] (alc ⟨(by decide), c2⟩ (alc (ldC1 encS_ok rfl (by decide) c2) (alc (okI encS_ok (by decide) c2 (by decide)) (alc ⟨rfl, by decide⟩ aln)))) nocal ?_
      by_cases c3 : 1 ≤ (x1.length : Int)
      · rw [if_pos c3] at h
        refine .reg' [0, 2, 5, 25, 26, 27] [.no, .v (.sl false ((x1.drop (1 : Int).toNat).take ((x1.length : Int).toNat - (1 : Int).toNat)).length 1 (((x1.drop (1 : Int).toNat).take ((x1.length : Int).toNat - (1 : Int).toNat)).flatMap encS))] ⟨[(0, (S a0)), (2, (.pt 256 0 2)), (5, (.pt 1284 0 2)), (25, (.sl false ((x1.drop (1 : Int).toNat).take ((x1.length : Int).toNat - (1 : Int).toNat)).length 1 (((x1.drop (1 : Int).toNat).take ((x1.length : Int).toNat - (1 : Int).toNat)).flatMap encS))), (26, (I (((x1.drop (1 : Int).toNat).take ((x1.length : Int).toNat - (1 : Int).toNat)).length : Int))), (27, (I 0))], [(256, [(S ByteArray.empty), nilS]), (1284, [(S (at_ x1 0)), nilS])], [V.sl false ((x1.length : Int).toNat - (1 : Int).toNat) 1 (((x1.flatMap encS).drop ((1 : Int).toNat * 1)).take (((x1.length : Int).toNat - (1 : Int).toNat) * 1)) = (.sl false ((x1.drop (1 : Int).toNat).take ((x1.length : Int).toNat - (1 : Int).toNat)).length 1 (((x1.drop (1 : Int).toNat).take ((x1.length : Int).toNat - (1 : Int).toNat)).flatMap encS)), 0 ≤ (1 : Int) ∧ 1 ≤ (x1.length : Int) ∧ (x1.length : Int) ≤ (x1.length : Int)], []⟩ [l_ 250, b_ 0, c_ 63] (alc (slS encS_ok (by omega) (by omega)) (alc ⟨(by decide), c3, (Int.le_refl _)⟩ aln)) nocal ?_
        refine .nl' 3020545 ?_
        refine .wk' [] [(3020545, 3020545), (256, 256), (1284, 1284)] [(0, (S a0)), (2, (.pt 256 0 2)), (5, (.pt 1284 0 2)), (25, (.sl false ((x1.drop (1 : Int).toNat).take ((x1.length : Int).toNat - (1 : Int).toNat)).length 1 (((x1.drop (1 : Int).toNat).take ((x1.length : Int).toNat - (1 : Int).toNat)).flatMap encS))), (26, (I (((x1.drop (1 : Int).toNat).take ((x1.length : Int).toNat - (1 : Int).toNat)).length : Int))), (27, (I 0))] [(3020545, (([] : List S48).flatMap e48)), (256, [(S ByteArray.empty), nilS]), (1284, [(S (at_ x1 0)), (.rf 3020545 0 (([] : List S48).length) 3 (([] : List S48).length * 3))])] (shc 3020545 (rowF e48_ok _) (shc 256 (a2c (.z .s) (a2c (.z .s) a2n)) (shc 1284 (a2c (.z .s) (a2c (.nl (memP_mem (p := (3020545, 3020545)) rfl) rfl) a2n)) shn))) (enc_ (.z .s) (enc_ (.pt (memP_mem (p := (256, 256)) rfl)) (enc_ (.pt (memP_mem (p := (1284, 1284)) rfl)) (enc_ (.z (frz_sl encS_ok (fun h => h))) (enc_ (.z .s) (enc_ (.z .s) enn)))))) ?_
        exact ih0 a0 x1 ([] : List S48) 0 _ h
      · rw [if_neg c3] at h
        cases h
    · rw [if_neg c2] at h
      cases h
/-! laws_sameTrip: function 25 -/
def laws_sameTrip.l0 : Nat → S28 → S28 → Int → Option Bool
 | 0, _, _, _ => none
 | k + 1, a0, a1, x1 => (if x1 < (a0.f1.length : Int) then (if 0 ≤ x1 then (if x1 < (a1.f1.length : Int) then (if ((at_ a0.f1 x1).f0 == (at_ a1.f1 x1).f0 && ((at_ a0.f1 x1).f1 == (at_ a1.f1 x1).f1 && ((at_ a0.f1 x1).f2 == (at_ a1.f1 x1).f2 && true))) = true then (laws_sameTrip.l0 k a0 a1 (wrap64 (x1 + 1))) else (some false)) else none) else none) else (some true))
def laws_sameTrip.f (k : Nat) (a0 : S28) (a1 : S28) : Option Bool := (if (sEq a0.f0 a1.f0) = true then (if (a0.f1.length : Int) = (a1.f1.length : Int) then (laws_sameTrip.l0 k a0 a1 0) else (some false)) else (some false))
theorem laws_sameTrip.lab : ∀ k, (∀ (a0 : S28) (a1 : S28) (x1 : Int) (r : Bool), laws_sameTrip.l0 k a0 a1 x1 = some r → J prog (.run 25 [] [l_ 58, b_ 0, c_ 15] [(2, (.pt 256 0 2)), (3, (.pt 257 0 2)), (5, (I x1))] [(256, [(S a0.f0), (.sl true a0.f1.length 3 (a0.f1.flatMap e48))]), (257, [(S a1.f0), (.sl true a1.f1.length 3 (a1.f1.flatMap e48))])] (B r) []))
 | 0 => (by intro a0 a1 x1 r h; unfold laws_sameTrip.l0 at h; cases h)
 | k + 1 => by
  have ih0 := laws_sameTrip.lab k
  · intro a0 a1 x1 r h
    unfold laws_sameTrip.l0 at h
    refine .loop' [c_ 464, c_ 465, c_ 233, l_ 58, b_ 0, c_ 15] ?_
    refine .reg' [2, 3, 5, 24] [] ⟨[(2, (.pt 256 0 2)), (3, (.pt 257 0 2)), (5, (I x1)), (24, (B (decide (x1 < (a0.f1.length : Int)))))], [(256, [(S a0.f0), (.sl true a0.f1.length 3 (a0.f1.flatMap e48))]), (257, [(S a1.f0), (.sl true a1.f1.length 3 (a1.f1.flatMap e48))])], [2 = 2 ∧ 1 + 1 ≤ 2], []⟩ [c_ 465, c_ 233, l_ 58, b_ 0, c_ 15] (alc ⟨rfl, by decide⟩ aln) nocal ?_
    by_cases c3 : x1 < (a0.f1.length : Int)
    · rw [if_pos c3] at h
      refine .cond' (.tmp 24) true [c_ 1864, c_ 1865, b_ 1, c_ 467, l_ 58, b_ 0, c_ 15] (bT (dT c3)) ?_
      by_cases c4 : 0 ≤ x1
      · rw [if_pos c4] at h
        by_cases c5 : x1 < (a1.f1.length : Int)
        · rw [if_pos c5] at h
          refine .reg' [2, 3, 5, 37] [.no, .no, .no, .no, .v (.ag [(I (at_ a0.f1 x1).f0), (I (at_ a0.f1 x1).f1), (I (at_ a0.f1 x1).f2)]), .no, .no, .no, .no, .v (.ag [(I (at_ a1.f1 x1).f0), (I (at_ a1.f1 x1).f1), (I (at_ a1.f1 x1).f2)])] ⟨[(2, (.pt 256 0 2)), (3, (.pt 257 0 2)), (5, (I x1)), (37, (B (!((at_ a0.f1 x1).f0 == (at_ a1.f1 x1).f0 && ((at_ a0.f1 x1).f1 == (at_ a1.f1 x1).f1 && ((at_ a0.f1 x1).f2 == (at_ a1.f1 x1).f2 && true))))))], [(256, [(S a0.f0), (.sl true a0.f1.length 3 (a0.f1.flatMap e48))]), (257, [(S a1.f0), (.sl true a1.f1.length 3 (a1.f1.flatMap e48))])], [2 = 2 ∧ 1 + 1 ≤ 2, (0 : Int) ≤ x1 ∧ x1 < (a0.f1.length : Int), rdC prog 49 ((a0.f1.flatMap e48).drop (x1.toNat * 3)) = (.ag [(I (at_ a0.f1 x1).f0), (I (at_ a0.f1 x1).f1), (I (at_ a0.f1 x1).f2)]), 3 ≤ ((a0.f1.flatMap e48).drop (x1.toNat * 3)).length, 2 = 2 ∧ 1 + 1 ≤ 2, (0 : Int) ≤ x1 ∧ x1 < (a1.f1.length : Int), rdC prog 49 ((a1.f1.flatMap e48).drop (x1.toNat * 3)) = (.ag [(I (at_ a1.f1 x1).f0), (I (at_ a1.f1 x1).f1), (I (at_ a1.f1 x1).f2)]), 3 ≤ ((a1.f1.flatMap e48).drop (x1.toNat * 3)).length], []⟩ [c_ 1865, b_ 1, c_ 467, l_ 58, b_ 0, c_ 15] (alc ⟨rfl, by decide⟩ (alc ⟨c4, c3⟩ (alc (ldA e48_ok rfl rfl c4 c3) (alc (okI e48_ok c4 c3 (by decide)) (alc ⟨rfl, by decide⟩ (alc ⟨c4, c5⟩ (alc (ldA e48_ok rfl rfl c4 c5) (alc (okI e48_ok c4 c5 (by decide)) aln)))))))) nocal ?_
          by_cases c6 : ((at_ a0.f1 x1).f0 == (at_ a1.f1 x1).f0 && ((at_ a0.f1 x1).f1 == (at_ a1.f1 x1).f1 && ((at_ a0.f1 x1).f2 == (at_ a1.f1 x1).f2 && true))) = true
          · rw [if_pos c6] at h
            refine .cond' (.tmp 37) false [c_ 467, l_ 58, b_ 0, c_ 15] (bF (nF c6)) ?_
            refine .reg' [2, 3, 5] [] ⟨[(2, (.pt 256 0 2)), (3, (.pt 257 0 2)), (5, (I (wrap64 (x1 + 1))))], [(256, [(S a0.f0), (.sl true a0.f1.length 3 (a0.f1.flatMap e48))]), (257, [(S a1.f0), (.sl true a1.f1.length 3 (a1.f1.flatMap e48))])], [], []⟩ [l_ 58, b_ 0, c_ 15] aln nocal ?_
            exact ih0 a0 a1 (wrap64 (x1 + 1)) _ h
          · rw [if_neg c6] at h
            refine .cond' (.tmp 37) true [c_ 7460, c_ 7461, b_ 1, c_ 467, l_ 58, b_ 0, c_ 15] (bT (nT (vF c6))) ?_
            refine .reg' [4] [] ⟨[(4, (B false))], [(256, [(S a0.f0), (.sl true a0.f1.length 3 (a0.f1.flatMap e48))]), (257, [(S a1.f0), (.sl true a1.f1.length 3 (a1.f1.flatMap e48))])], [], []⟩ [c_ 7461, b_ 1, c_ 467, l_ 58, b_ 0, c_ 15] aln nocal ?_
            have h := Option.some.inj h
            subst h
            exact .fin0 [] (B false) [] aln (.z .s)
        · rw [if_neg c5] at h
          cases h
      · rw [if_neg c4] at h
        cases h
    · rw [if_neg c3] at h
      refine .cond' (.tmp 24) false [c_ 30, c_ 31] (bF (dF c3)) ?_
      refine .reg' [4] [] ⟨[(4, (B true))], [(256, [(S a0.f0), (.sl true a0.f1.length 3 (a0.f1.flatMap e48))]), (257, [(S a1.f0), (.sl true a1.f1.length 3 (a1.f1.flatMap e48))])], [], []⟩ [c_ 31] aln nocal ?_
      have h := Option.some.inj h
      subst h
      exact .fin0 [] (B true) [] aln (.z .s)
theorem laws_sameTrip.J (k : Nat) (a0 : S28) (a1 : S28) (r : Bool) (h : laws_sameTrip.f k a0 a1 = some r) : J prog (.call 25 [(.ag [(S a0.f0), (.sl true a0.f1.length 3 (a0.f1.flatMap e48))]), (.ag [(S a1.f0), (.sl true a1.f1.length 3 (a1.f1.flatMap e48))])] [] (B r) []) := by
  unfold laws_sameTrip.f at h
  have ih0 := laws_sameTrip.lab k
  refine .call' [c_ 2, c_ 3] ?_
  refine .reg' [2, 3] [] ⟨[(2, (.pt 256 0 2)), (3, (.pt 257 0 2))], [(256, [(S a0.f0), (.sl true a0.f1.length 3 (a0.f1.flatMap e48))]), (257, [(S a1.f0), (.sl true a1.f1.length 3 (a1.f1.flatMap e48))])], [], []⟩ [c_ 12, c_ 13, c_ 7] aln nocal ?_
  by_cases c1 : (sEq a0.f0 a1.f0) = true
  · rw [if_pos c1] at h
    refine .reg' [2, 3, 19] [.no, .no, .no, .no, .no, .v (B false)] ⟨[(2, (.pt 256 0 2)), (3, (.pt 257 0 2)), (19, (B (!((a0.f1.length : Int) == (a1.f1.length : Int)))))], [(256, [(S a0.f0), (.sl true a0.f1.length 3 (a0.f1.flatMap e48))]), (257, [(S a1.f0), (.sl true a1.f1.length 3 (a1.f1.flatMap e48))])], [2 = 2 ∧ 0 + 1 ≤ 2, 2 = 2 ∧ 0 + 1 ≤ 2, (B (!(sEq a0.f0 a1.f0)) : V) = B false, 2 = 2 ∧ 1 + 1 ≤ 2, 2 = 2 ∧ 1 + 1 ≤ 2], []⟩ [c_ 13, c_ 7] (alc ⟨rfl, by decide⟩ (alc ⟨rfl, by decide⟩ (alc (bF (nF c1)) (alc ⟨rfl, by decide⟩ (alc ⟨rfl, by decide⟩ aln))))) nocal ?_
    by_cases c2 : (a0.f1.length : Int) = (a1.f1.length : Int)
    · rw [if_pos c2] at h
      refine .cond' (.tmp 19) false [c_ 28, c_ 29, c_ 15] (bF (nF (qT c2))) ?_
      refine .reg' [2, 3, 5] [] ⟨[(2, (.pt 256 0 2)), (3, (.pt 257 0 2)), (5, (I 0))], [(256, [(S a0.f0), (.sl true a0.f1.length 3 (a0.f1.flatMap e48))]), (257, [(S a1.f0), (.sl true a1.f1.length 3 (a1.f1.flatMap e48))])], [], []⟩ [l_ 58, b_ 0, c_ 15] aln nocal ?_
      exact ih0 a0 a1 0 _ h
    · rw [if_neg c2] at h
      refine .cond' (.tmp 19) true [c_ 52, c_ 53, c_ 7] (bT (nT (qF c2))) ?_
      refine .reg' [4] [] ⟨[(4, (B false))], [(256, [(S a0.f0), (.sl true a0.f1.length 3 (a0.f1.flatMap e48))]), (257, [(S a1.f0), (.sl true a1.f1.length 3 (a1.f1.flatMap e48))])], [], []⟩ [c_ 53, c_ 7] aln nocal ?_
      have h := Option.some.inj h
      subst h
      exact .fin0 [] (B false) [] aln (.z .s)
  · rw [if_neg c1] at h
    refine .reg' [2, 3, 19] [.no, .no, .no, .no, .no, .v (B true)] ⟨[(2, (.pt 256 0 2)), (3, (.pt 257 0 2)), (19, (B true))], [(256, [(S a0.f0), (.sl true a0.f1.length 3 (a0.f1.flatMap e48))]), (257, [(S a1.f0), (.sl true a1.f1.length 3 (a1.f1.flatMap e48))])], [2 = 2 ∧ 0 + 1 ≤ 2, 2 = 2 ∧ 0 + 1 ≤ 2, (B (!(sEq a0.f0 a1.f0)) : V) = B true], []⟩ [c_ 13, c_ 7] (alc ⟨rfl, by decide⟩ (alc ⟨rfl, by decide⟩ (alc (bT (nT (vF c1))) aln))) nocal ?_
    refine .cond' (.tmp 19) true [c_ 52, c_ 53, c_ 7] (rfl) ?_
    refine .reg' [4] [] ⟨[(4, (B false))], [(256, [(S a0.f0), (.sl true a0.f1.length 3 (a0.f1.flatMap e48))]), (257, [(S a1.f0), (.sl true a1.f1.length 3 (a1.f1.flatMap e48))])], [], []⟩ [c_ 53, c_ 7] aln nocal ?_
    have h := Option.some.inj h
    subst h
    exact .fin0 [] (B false) [] aln (.z .s)
/-! laws_at: function 26 -/
def laws_at.f (a0 : (List Int)) (a1 : Int) : Option Int := (if a1 < (a0.length : Int) then (if 0 ≤ a1 then (some (IntKind.i64.wrap (at_ a0 a1))) else none) else (some ((wrap64 ((wrap64 (a1 * 11)) + (wrap64 ((a0.length : Int) * 3)))).tmod (256 : Int))))
theorem laws_at.J (a0 : (List Int)) (a1 : Int) (r : Int) (h : laws_at.f a0 a1 = some r) : J prog (.call 26 [(.sl true a0.length 1 (a0.flatMap encU)), (I a1)] [] (I r) []) := by
  unfold laws_at.f at h
  refine .call' [c_ 2, c_ 3] ?_
  refine .reg' [0, 1] [] ⟨[(0, (.sl true a0.length 1 (a0.flatMap encU))), (1, (I a1))], [], [], []⟩ [c_ 12, c_ 13, c_ 7] aln nocal ?_
  refine .reg' [0, 1, 8] [] ⟨[(0, (.sl true a0.length 1 (a0.flatMap encU))), (1, (I a1)), (8, (B (decide (a1 < (a0.length : Int)))))], [], [], []⟩ [c_ 13, c_ 7] aln nocal ?_
  by_cases c1 : a1 < (a0.length : Int)
  · rw [if_pos c1] at h
    refine .cond' (.tmp 8) true [c_ 52, c_ 53, c_ 7] (bT (dT c1)) ?_
    by_cases c2 : 0 ≤ a1
    · rw [if_pos c2] at h
      refine .reg' [4] [.no, .no, .no, .v (U (at_ a0 a1))] ⟨[(4, (I (IntKind.i64.wrap (at_ a0 a1))))], [], [(0 : Int) ≤ a1 ∧ a1 < (a0.length : Int), rdC prog 5 ((a0.flatMap encU).drop (a1.toNat * 1)) = (U (at_ a0 a1)), 1 ≤ ((a0.flatMap encU).drop (a1.toNat * 1)).length], []⟩ [c_ 53, c_ 7] (alc ⟨c2, c1⟩ (alc (ldC1 encU_ok rfl c2 c1) (alc (okI encU_ok c2 c1 (by decide)) aln))) nocal ?_
      have h := Option.some.inj h
      subst h
      exact .fin0 [] (I (IntKind.i64.wrap (at_ a0 a1))) [] aln (.z .s)
    · rw [if_neg c2] at h
      cases h
  · rw [if_neg c1] at h
    refine .cond' (.tmp 8) false [c_ 14, c_ 15] (bF (dF c1)) ?_
    refine .reg' [4] [] ⟨[(4, (I ((wrap64 ((wrap64 (a1 * 11)) + (wrap64 ((a0.length : Int) * 3)))).tmod (256 : Int))))], [], [(256 : Int) ≠ 0], []⟩ [c_ 15] (alc (by decide) aln) nocal ?_
    have h := Option.some.inj h
    subst h
    exact .fin0 [] (I ((wrap64 ((wrap64 (a1 * 11)) + (wrap64 ((a0.length : Int) * 3)))).tmod (256 : Int))) [] aln (.z .s)
/-! impl_cloneTrip: function 56 -/
def impl_cloneTrip.f (a0 : S28) : Option S28 := (if (([] : List S48).length + a0.f1.length) * 24 ≤ 70368744177664 then (some (⟨a0.f0, (([] : List S48) ++ a0.f1)⟩ : S28)) else none)
theorem impl_cloneTrip.J (a0 : S28) (r : S28) (h : impl_cloneTrip.f a0 = some r) : J prog (.call 56 [(.ag [(S a0.f0), (.sl true a0.f1.length 3 (a0.f1.flatMap e48))])] [] (.ag [(S r.f0), (.rf 514 0 r.f1.length 3 (r.f1.length * 3))]) [(514, (r.f1.flatMap e48))]) := by
  unfold impl_cloneTrip.f at h
  refine .call' [c_ 2, c_ 3] ?_
  refine .reg' [1, 2] [] ⟨[(1, (.pt 256 0 2)), (2, (.pt 257 0 2))], [(256, [(S a0.f0), (.sl true a0.f1.length 3 (a0.f1.flatMap e48))]), (257, [(S ByteArray.empty), nilS])], [], []⟩ [c_ 6, c_ 7] aln nocal ?_
  by_cases c1 : (([] : List S48).length + a0.f1.length) * 24 ≤ 70368744177664
  · rw [if_pos c1] at h
    refine .reg' [2] [.no, .no, .no, .no, .no, .w (.rf 514 0 ((([] : List S48) ++ a0.f1).length) 3 ((([] : List S48) ++ a0.f1).length * 3)) ((([] : List S48) ++ a0.f1).flatMap e48)] ⟨[(2, (.pt 257 0 2))], [(256, [(S a0.f0), (.sl true a0.f1.length 3 (a0.f1.flatMap e48))]), (257, [(S a0.f0), (.rf 514 0 ((([] : List S48) ++ a0.f1).length) 3 ((([] : List S48) ++ a0.f1).length * 3))]), (514, ((([] : List S48) ++ a0.f1).flatMap e48))], [2 = 2 ∧ 0 + 1 ≤ 2, 2 = 2 ∧ 1 + 1 ≤ 2, V.rf 514 0 (([] : List S48).length + a0.f1.length) 3 (([] : List S48).length * 3 + a0.f1.length * 3) = (.rf 514 0 ((([] : List S48) ++ a0.f1).length) 3 ((([] : List S48) ++ a0.f1).length * 3)), ([] : List S48).flatMap e48 ++ (a0.f1.flatMap e48) = ((([] : List S48) ++ a0.f1).flatMap e48), True ∧ ([] : List S48).length * 3 = (([] : List S48).flatMap e48).length ∧ ([] : List S48).length * 3 = (([] : List S48).flatMap e48).length ∧ (([] : List S48).length + a0.f1.length) * 24 ≤ 70368744177664, 2 = 2 ∧ 0 + 2 ≤ 2], []⟩ [c_ 7] (alc ⟨rfl, by decide⟩ (alc ⟨rfl, by decide⟩ (alc (apV rfl) (alc apS (alc (apOS e48_ok c1) (alc ⟨rfl, by decide⟩ aln)))))) nocal ?_
    have h := Option.some.inj h
    subst h
    exact .fin' [] [(514, 514)] (.ag [(S a0.f0), (.rf 514 0 ((([] : List S48) ++ a0.f1).length) 3 ((([] : List S48) ++ a0.f1).length * 3))]) [2 = 2 ∧ 0 + 2 ≤ 2] (alc ⟨rfl, by decide⟩ aln) (shc 514 (rowF e48_ok _) shn) (cnv_ag (a2c (.z .s) (a2c (.rf (memP_mem (p := (514, 514)) rfl)) a2n)))
  · rw [if_neg c1] at h
    cases h
/-! impl_Moved: function 27 -/
def impl_Moved.l0 : Nat → Int → S28 → (List S48) → Int → Option S28
 | 0, _, _, _, _ => none
 | k + 1, a1, x3, x4, x5 => (if x5 < (x3.f1.length : Int) then (if 0 ≤ x5 then (if x5 < (x4.length : Int) then (impl_Moved.l0 k a1 x3 (x4.set x5.toNat (⟨(at_ x4 x5).f0, (wrap64 ((at_ x4 x5).f1 + a1)), (wrap64 ((at_ x4 x5).f2 + a1))⟩ : S48)) (wrap64 (x5 + 1))) else none) else none) else ((impl_TripOk.f k (⟨x3.f0, x4⟩ : S28)).bind fun x6 => (if x6 = true then (some (⟨x3.f0, x4⟩ : S28)) else (some (⟨ByteArray.empty, ([] : List S48)⟩ : S28)))))
def impl_Moved.f (k : Nat) (a0 : S28) (a1 : Int) : Option S28 := ((impl_TripOk.f k a0).bind fun x1 => (if x1 = true then ((impl_between.f a1 (-100000) 100000).bind fun x2 => (if x2 = true then ((impl_cloneTrip.f a0).bind fun x3 => (impl_Moved.l0 k a1 x3 x3.f1 0)) else (some (⟨ByteArray.empty, ([] : List S48)⟩ : S28)))) else (some (⟨ByteArray.empty, ([] : List S48)⟩ : S28))))
end Go.Proofs.YtjlickinmkafbaaDoor.Fns
