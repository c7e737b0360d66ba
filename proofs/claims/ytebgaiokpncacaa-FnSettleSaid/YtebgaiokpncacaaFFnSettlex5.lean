/- The functions that the law FnSettle reaches, by the engine. Printed by a program of this seat. -/
import Derived.Test.YtebgaiokpncacaaE5
import Derived.Test.YtebgaiokpncacaaProg
import Derived.Test.YtebgaiokpncacaaFFnSettlex4
namespace Go.Proofs.Ytebgaiokpncacaa.Fns
open Go.Proofs.Try Go.Proofs.Ytebgaiokpncacaa.Eng Go.RowKit
set_option maxRecDepth 100000
set_option linter.unusedVariables false
set_option linter.unusedSimpArgs false
theorem impl_Moved.J (k : Nat) (a0 : S66) (a1 : Int) (r : S66) (h : impl_Moved.f k a0 a1 = some r) : J prog (.call 54 [(.ag [(S a0.f0), (.sl true a0.f1.length 3 (a0.f1.flatMap e89))]), (I a1)] [] (.ag [(S r.f0), (.rf 1001025 0 r.f1.length 3 (r.f1.length * 3))]) [(1001025, (r.f1.flatMap e89))]) := by
  unfold impl_Moved.f at h
  have ih0 := impl_Moved.lab k
  refine .call' [c_ 2, c_ 3] ?_
  refine .reg' [1, 2, 4] [] ⟨[(1, (I a1)), (2, (.pt 256 0 2)), (4, (.pt 257 0 2))], [(256, [(S a0.f0), (.sl true a0.f1.length 3 (a0.f1.flatMap e89))]), (257, [(S ByteArray.empty), nilS])], [], []⟩ [c_ 12, c_ 13, c_ 7] aln nocal ?_
  obtain ⟨x1, hx1, h⟩ := Option.bind_eq_some_iff.mp h
  by_cases c1 : x1 = true
  · rw [if_pos c1] at h
    obtain ⟨x2, hx2, h⟩ := Option.bind_eq_some_iff.mp h
    refine .reg' [1, 2, 4, 14] [.no, .c ⟨76, [(.ag [(S a0.f0), (.sl true a0.f1.length 3 (a0.f1.flatMap e89))])], [], (B x1), [], [], [], [], (B x1), []⟩, .no, .v (B false), .no, .c ⟨58, [(I a1), (I (-100000)), (I 100000)], [], (B x2), [], [], [], [], (B x2), []⟩] ⟨[(1, (I a1)), (2, (.pt 256 0 2)), (4, (.pt 257 0 2)), (14, (B (!x2)))], [(256, [(S a0.f0), (.sl true a0.f1.length 3 (a0.f1.flatMap e89))]), (257, [(S ByteArray.empty), nilS])], [2 = 2 ∧ 0 + 2 ≤ 2, COK (hget [(256, [(S a0.f0), (.sl true a0.f1.length 3 (a0.f1.flatMap e89))]), (257, [(S ByteArray.empty), nilS])]) [(.ag [(S a0.f0), (.sl true a0.f1.length 3 (a0.f1.flatMap e89))])] ⟨76, [(.ag [(S a0.f0), (.sl true a0.f1.length 3 (a0.f1.flatMap e89))])], [], (B x1), [], [], [], [], (B x1), []⟩, (B (!x1) : V) = B false, COK (hget [(256, [(S a0.f0), (.sl true a0.f1.length 3 (a0.f1.flatMap e89))]), (257, [(S ByteArray.empty), nilS])]) [(I a1), (I (-100000)), (I 100000)] ⟨58, [(I a1), (I (-100000)), (I 100000)], [], (B x2), [], [], [], [], (B x2), []⟩], [⟨76, [(.ag [(S a0.f0), (.sl true a0.f1.length 3 (a0.f1.flatMap e89))])], [], (B x1), [], [], [], [], (B x1), []⟩, ⟨58, [(I a1), (I (-100000)), (I 100000)], [], (B x2), [], [], [], [], (B x2), []⟩]⟩ [c_ 13, c_ 7] (alc ⟨rfl, by decide⟩ (alc (cok0 false (a2c (.z (frz_ag (a2c .s (a2c (frz_sl e89_ok (fun h => h)) a2n)))) a2n) (.z .s) (fun h => absurd h (by decide))) (alc (bF (nF c1)) (alc (cok0 false (a2c (.z .s) (a2c (.z .s) (a2c (.z .s) a2n))) (.z .s) (fun h => absurd h (by decide))) aln)))) (acal (impl_TripOk.J k a0 _ hx1) (acal (impl_between.J a1 (-100000) 100000 _ hx2) nocal)) ?_
    by_cases c2 : x2 = true
    · rw [if_pos c2] at h
      refine .cond' (.tmp 14) false [c_ 14, c_ 15] (bF (nF c2)) ?_
      obtain ⟨x3, hx3, h⟩ := Option.bind_eq_some_iff.mp h
      refine .reg' [1, 4, 5] [.no, .c ⟨84, [(.ag [(S a0.f0), (.sl true a0.f1.length 3 (a0.f1.flatMap e89))])], [], (.ag [(S x3.f0), (.rf 514 0 x3.f1.length 3 (x3.f1.length * 3))]), [(514, (x3.f1.flatMap e89))], [], [], [(1001025, 514)], (.ag [(S x3.f0), (.rf 1001025 0 x3.f1.length 3 (x3.f1.length * 3))]), [(1001025, (x3.f1.flatMap e89))]⟩] ⟨[(1, (I a1)), (4, (.pt 257 0 2)), (5, (.pt 1026 0 2))], [(256, [(S a0.f0), (.sl true a0.f1.length 3 (a0.f1.flatMap e89))]), (257, [(S ByteArray.empty), nilS]), (1001025, (x3.f1.flatMap e89)), (1026, [(S x3.f0), (.rf 1001025 0 x3.f1.length 3 (x3.f1.length * 3))])], [2 = 2 ∧ 0 + 2 ≤ 2, COK (hget [(256, [(S a0.f0), (.sl true a0.f1.length 3 (a0.f1.flatMap e89))]), (257, [(S ByteArray.empty), nilS])]) [(.ag [(S a0.f0), (.sl true a0.f1.length 3 (a0.f1.flatMap e89))])] ⟨84, [(.ag [(S a0.f0), (.sl true a0.f1.length 3 (a0.f1.flatMap e89))])], [], (.ag [(S x3.f0), (.rf 514 0 x3.f1.length 3 (x3.f1.length * 3))]), [(514, (x3.f1.flatMap e89))], [], [], [(1001025, 514)], (.ag [(S x3.f0), (.rf 1001025 0 x3.f1.length 3 (x3.f1.length * 3))]), [(1001025, (x3.f1.flatMap e89))]⟩, 2 = 2 ∧ 0 + 2 ≤ 2], [⟨84, [(.ag [(S a0.f0), (.sl true a0.f1.length 3 (a0.f1.flatMap e89))])], [], (.ag [(S x3.f0), (.rf 514 0 x3.f1.length 3 (x3.f1.length * 3))]), [(514, (x3.f1.flatMap e89))], [], [], [(1001025, 514)], (.ag [(S x3.f0), (.rf 1001025 0 x3.f1.length 3 (x3.f1.length * 3))]), [(1001025, (x3.f1.flatMap e89))]⟩]⟩ [c_ 60, c_ 61, c_ 31] (alc ⟨rfl, by decide⟩ (alc (cokW false (a2c (.z (frz_ag (a2c .s (a2c (frz_sl e89_ok (fun h => h)) a2n)))) a2n) akn (akc (.inr rfl) akn) (bck_ag (a2c (.z .s) (a2c (.rf (memP_mem (p := (1001025, 514)) rfl)) a2n))) (akc ⟨_, _, rfl, rfl, rowB e89_c _⟩ akn) (fun h => absurd h (by decide))) (alc ⟨rfl, by decide⟩ aln))) (acal (impl_cloneTrip.J a0 _ hx3) nocal) ?_
      refine .reg' [1, 4, 5, 20, 21] [] ⟨[(1, (I a1)), (4, (.pt 257 0 2)), (5, (.pt 1026 0 2)), (20, (I (x3.f1.length : Int))), (21, (I 0))], [(256, [(S a0.f0), (.sl true a0.f1.length 3 (a0.f1.flatMap e89))]), (257, [(S ByteArray.empty), nilS]), (1001025, (x3.f1.flatMap e89)), (1026, [(S x3.f0), (.rf 1001025 0 x3.f1.length 3 (x3.f1.length * 3))])], [2 = 2 ∧ 1 + 1 ≤ 2], []⟩ [l_ 122, b_ 0, c_ 31] (alc ⟨rfl, by decide⟩ aln) nocal ?_
      refine .wk' [] [(257, 257), (1001025, 1001025), (1026, 1026)] [(1, (I a1)), (4, (.pt 257 0 2)), (5, (.pt 1026 0 2)), (20, (I (x3.f1.length : Int))), (21, (I 0))] [(257, [(S ByteArray.empty), nilS]), (1001025, (x3.f1.flatMap e89)), (1026, [(S x3.f0), (.rf 1001025 0 x3.f1.length 3 (x3.f1.length * 3))])] (shc 257 (a2c (.z .s) (a2c (.z .s) a2n)) (shc 1001025 (rowF e89_ok _) (shc 1026 (a2c (.z .s) (a2c (.rf (memP_mem (p := (1001025, 1001025)) rfl)) a2n)) shn))) (enc_ (.z .s) (enc_ (.pt (memP_mem (p := (257, 257)) rfl)) (enc_ (.pt (memP_mem (p := (1026, 1026)) rfl)) (enc_ (.z .s) (enc_ (.z .s) enn))))) ?_
      exact ih0 a1 x3 x3.f1 0 _ h
    · rw [if_neg c2] at h
      refine .cond' (.tmp 14) true [c_ 52, c_ 53, c_ 7] (bT (nT (vF c2))) ?_
      refine .reg' [4] [] ⟨[(4, (.pt 257 0 2))], [(256, [(S a0.f0), (.sl true a0.f1.length 3 (a0.f1.flatMap e89))]), (257, [(S ByteArray.empty), nilS])], [2 = 2 ∧ 0 + 2 ≤ 2], []⟩ [c_ 53, c_ 7] (alc ⟨rfl, by decide⟩ aln) nocal ?_
      have h := Option.some.inj h
      subst h
      refine .nl' 1001025 ?_
      exact .fin' [] [(1001025, 1001025)] (.ag [(S ByteArray.empty), nilS]) [2 = 2 ∧ 0 + 2 ≤ 2] (alc ⟨rfl, by decide⟩ aln) (shc 1001025 (rowF e89_ok _) shn) (cnv_ag (a2c (.z .s) (a2c (.nl (memP_mem (p := (1001025, 1001025)) rfl) rfl) a2n)))
  · rw [if_neg c1] at h
    refine .reg' [1, 2, 4, 14] [.no, .c ⟨76, [(.ag [(S a0.f0), (.sl true a0.f1.length 3 (a0.f1.flatMap e89))])], [], (B x1), [], [], [], [], (B x1), []⟩, .no, .v (B true)] ⟨[(1, (I a1)), (2, (.pt 256 0 2)), (4, (.pt 257 0 2)), (14, (B true))], [(256, [(S a0.f0), (.sl true a0.f1.length 3 (a0.f1.flatMap e89))]), (257, [(S ByteArray.empty), nilS])], [2 = 2 ∧ 0 + 2 ≤ 2, COK (hget [(256, [(S a0.f0), (.sl true a0.f1.length 3 (a0.f1.flatMap e89))]), (257, [(S ByteArray.empty), nilS])]) [(.ag [(S a0.f0), (.sl true a0.f1.length 3 (a0.f1.flatMap e89))])] ⟨76, [(.ag [(S a0.f0), (.sl true a0.f1.length 3 (a0.f1.flatMap e89))])], [], (B x1), [], [], [], [], (B x1), []⟩, (B (!x1) : V) = B true], [⟨76, [(.ag [(S a0.f0), (.sl true a0.f1.length 3 (a0.f1.flatMap e89))])], [], (B x1), [], [], [], [], (B x1), []⟩]⟩ [c_ 13, c_ 7] (alc ⟨rfl, by decide⟩ (alc (cok0 false (a2c (.z (frz_ag (a2c .s (a2c (frz_sl e89_ok (fun h => h)) a2n)))) a2n) (.z .s) (fun h => absurd h (by decide))) (alc (bT (nT (vF c1))) aln))) (acal (impl_TripOk.J k a0 _ hx1) nocal) ?_
    refine .cond' (.tmp 14) true [c_ 52, c_ 53, c_ 7] (rfl) ?_
    refine .reg' [4] [] ⟨[(4, (.pt 257 0 2))], [(256, [(S a0.f0), (.sl true a0.f1.length 3 (a0.f1.flatMap e89))]), (257, [(S ByteArray.empty), nilS])], [2 = 2 ∧ 0 + 2 ≤ 2], []⟩ [c_ 53, c_ 7] (alc ⟨rfl, by decide⟩ aln) nocal ?_
    have h := Option.some.inj h
    subst h
    refine .nl' 1001025 ?_
    exact .fin' [] [(1001025, 1001025)] (.ag [(S ByteArray.empty), nilS]) [2 = 2 ∧ 0 + 2 ≤ 2] (alc ⟨rfl, by decide⟩ aln) (shc 1001025 (rowF e89_ok _) shn) (cnv_ag (a2c (.z .s) (a2c (.nl (memP_mem (p := (1001025, 1001025)) rfl) rfl) a2n)))
/-! impl_Settle: function 45 -/
def impl_Settle.l0 : Nat → S46 → (List S66) → Int → (List S66) → (List Int) → Int → Option ((List S66) × (List Int))
 | 0, _, _, _, _, _, _ => none
 | k + 1, a0, a1, a2, x1, x2, x3 => (if x3 < (a1.length : Int) then (if 0 ≤ x3 then ((impl_PushOf.f k a0 x1 (at_ a1 x3) a2).bind fun x4 => (if x4 < 0 then (some (([] : List S66), ([] : List Int))) else ((impl_Moved.f k (at_ a1 x3) x4).bind fun x5 => (if (x1.length + ([x5] : List S66).length) * 40 ≤ 70368744177664 then (if (x2.length + ([x4] : List Int).length) * 8 ≤ 70368744177664 then (impl_Settle.l0 k a0 a1 a2 (x1 ++ ([x5] : List S66)) (x2 ++ ([x4] : List Int)) (wrap64 (x3 + 1))) else none) else none)))) else none) else (some (x1, x2)))
def impl_Settle.f (k : Nat) (a0 : S46) (a1 : (List S66)) (a2 : Int) : Option ((List S66) × (List Int)) := (impl_Settle.l0 k a0 a1 a2 ([] : List S66) ([] : List Int) 0)
theorem impl_Settle.lab : ∀ k, (∀ (a0 : S46) (a1 : (List S66)) (a2 : Int) (x1 : (List S66)) (x2 : (List Int)) (x3 : Int) (r : ((List S66) × (List Int))), impl_Settle.l0 k a0 a1 a2 x1 x2 x3 = some r → J prog (.run 45 [] [l_ 58, b_ 0, c_ 15] [(2, (I a2)), (3, (.pt 256 0 2)), (8, (.rf 512 0 x1.length 2 (x1.length * 2))), (9, (.rf 513 0 x2.length 1 (x2.length * 1))), (15, (.sl true a1.length 2 (a1.flatMap (e66 true)))), (16, (I (a1.length : Int))), (17, (I x3))] [(256, [(I a0.f0), (.sl true a0.f1.length 4 (a0.f1.flatMap e95))]), (512, (x1.flatMap (e66 false))), (513, (x2.flatMap encI))] (.tp [(.rf 512 0 r.1.length 2 (r.1.length * 2)), (.rf 513 0 r.2.length 1 (r.2.length * 1))]) [(512, (r.1.flatMap (e66 false))), (513, (r.2.flatMap encI))]))
 | 0 => (by intro a0 a1 a2 x1 x2 x3 r h; unfold impl_Settle.l0 at h; cases h)
 | k + 1 => by
  have ih0 := impl_Settle.lab k
  · intro a0 a1 a2 x1 x2 x3 r h
    unfold impl_Settle.l0 at h
    refine .loop' [c_ 232, c_ 233, l_ 58, b_ 0, c_ 15] ?_
    refine .reg' [2, 3, 8, 9, 15, 16, 17, 18] [] ⟨[(2, (I a2)), (3, (.pt 256 0 2)), (8, (.rf 512 0 x1.length 2 (x1.length * 2))), (9, (.rf 513 0 x2.length 1 (x2.length * 1))), (15, (.sl true a1.length 2 (a1.flatMap (e66 true)))), (16, (I (a1.length : Int))), (17, (I x3)), (18, (B (decide (x3 < (a1.length : Int)))))], [(256, [(I a0.f0), (.sl true a0.f1.length 4 (a0.f1.flatMap e95))]), (512, (x1.flatMap (e66 false))), (513, (x2.flatMap encI))], [], []⟩ [c_ 466, c_ 467, l_ 58, b_ 0, c_ 15] aln nocal ?_
    by_cases c1 : x3 < (a1.length : Int)
    · rw [if_pos c1] at h
      refine .cond' (.tmp 18) true [c_ 3736, c_ 3737, b_ 1, c_ 935, l_ 58, b_ 0, c_ 15] (bT (dT c1)) ?_
      by_cases c2 : 0 ≤ x3
      · rw [if_pos c2] at h
        refine .reg' [2, 3, 8, 9, 11, 15, 16, 17] [.no, .v (.ag [(S (at_ a1 x3).f0), (.sl true (at_ a1 x3).f1.length 3 ((at_ a1 x3).f1.flatMap e89))])] ⟨[(2, (I a2)), (3, (.pt 256 0 2)), (8, (.rf 512 0 x1.length 2 (x1.length * 2))), (9, (.rf 513 0 x2.length 1 (x2.length * 1))), (11, (.pt 1282 0 2)), (15, (.sl true a1.length 2 (a1.flatMap (e66 true)))), (16, (I (a1.length : Int))), (17, (I x3))], [(256, [(I a0.f0), (.sl true a0.f1.length 4 (a0.f1.flatMap e95))]), (512, (x1.flatMap (e66 false))), (513, (x2.flatMap encI)), (1282, [(S (at_ a1 x3).f0), (.sl true (at_ a1 x3).f1.length 3 ((at_ a1 x3).f1.flatMap e89))])], [(0 : Int) ≤ x3 ∧ x3 < (a1.length : Int), rdC prog 67 ((a1.flatMap (e66 true)).drop (x3.toNat * 2)) = (.ag [(S (at_ a1 x3).f0), (.sl true (at_ a1 x3).f1.length 3 ((at_ a1 x3).f1.flatMap e89))]), 2 ≤ ((a1.flatMap (e66 true)).drop (x3.toNat * 2)).length, 2 = 2 ∧ 0 + 2 ≤ 2], []⟩ [c_ 7474, c_ 7475, b_ 1, c_ 935, l_ 58, b_ 0, c_ 15] (alc ⟨c2, c1⟩ (alc (ldA (e66_ok true) rfl rfl c2 c1) (alc (okI (e66_ok true) c2 c1 (by decide)) (alc ⟨rfl, by decide⟩ aln)))) nocal ?_
        obtain ⟨x4, hx4, h⟩ := Option.bind_eq_some_iff.mp h
        refine .reg' [2, 3, 8, 9, 11, 12, 15, 16, 17] [.no, .no, .no, .no, .c ⟨42, [(.ag [(I a0.f0), (.sl true a0.f1.length 4 (a0.f1.flatMap e95))]), (.sl true x1.length 2 (x1.flatMap (e66 true))), (.ag [(S (at_ a1 x3).f0), (.sl true (at_ a1 x3).f1.length 3 ((at_ a1 x3).f1.flatMap e89))]), (I a2)], [], (I x4), [], [512], [], [], (I x4), []⟩] ⟨[(2, (I a2)), (3, (.pt 256 0 2)), (8, (.rf 512 0 x1.length 2 (x1.length * 2))), (9, (.rf 513 0 x2.length 1 (x2.length * 1))), (11, (.pt 1282 0 2)), (12, (I x4)), (15, (.sl true a1.length 2 (a1.flatMap (e66 true)))), (16, (I (a1.length : Int))), (17, (I x3))], [(256, [(I a0.f0), (.sl true a0.f1.length 4 (a0.f1.flatMap e95))]), (512, (x1.flatMap (e66 false))), (513, (x2.flatMap encI)), (1282, [(S (at_ a1 x3).f0), (.sl true (at_ a1 x3).f1.length 3 ((at_ a1 x3).f1.flatMap e89))])], [2 = 2 ∧ 0 + 2 ≤ 2, 2 = 2 ∧ 0 + 2 ≤ 2, COK (hget [(256, [(I a0.f0), (.sl true a0.f1.length 4 (a0.f1.flatMap e95))]), (512, (x1.flatMap (e66 false))), (513, (x2.flatMap encI)), (1282, [(S (at_ a1 x3).f0), (.sl true (at_ a1 x3).f1.length 3 ((at_ a1 x3).f1.flatMap e89))])]) [(.ag [(I a0.f0), (.sl true a0.f1.length 4 (a0.f1.flatMap e95))]), (.rf 512 0 x1.length 2 (x1.length * 2)), (.ag [(S (at_ a1 x3).f0), (.sl true (at_ a1 x3).f1.length 3 ((at_ a1 x3).f1.flatMap e89))]), (I a2)] ⟨42, [(.ag [(I a0.f0), (.sl true a0.f1.length 4 (a0.f1.flatMap e95))]), (.sl true x1.length 2 (x1.flatMap (e66 true))), (.ag [(S (at_ a1 x3).f0), (.sl true (at_ a1 x3).f1.length 3 ((at_ a1 x3).f1.flatMap e89))]), (I a2)], [], (I x4), [], [512], [], [], (I x4), []⟩], [⟨42, [(.ag [(I a0.f0), (.sl true a0.f1.length 4 (a0.f1.flatMap e95))]), (.sl true x1.length 2 (x1.flatMap (e66 true))), (.ag [(S (at_ a1 x3).f0), (.sl true (at_ a1 x3).f1.length 3 ((at_ a1 x3).f1.flatMap e89))]), (I a2)], [], (I x4), [], [512], [], [], (I x4), []⟩]⟩ [c_ 29900, c_ 29901, c_ 14951, b_ 1, c_ 935, l_ 58, b_ 0, c_ 15] (alc ⟨rfl, by decide⟩ (alc ⟨rfl, by decide⟩ (alc (cok0 false (a2c (.z (frz_ag (a2c .s (a2c (frz_sl e95_ok (fun h => h)) a2n)))) (a2c (.z (frz_rfT (k := 512) (fun x => e66_to x) (e66_ok false) (by simp) rfl rfl (row_len (e66_ok false) _).symm)) (a2c (.z (frz_ag (a2c .s (a2c (frz_sl e89_ok (fun h => h)) a2n)))) (a2c (.z .s) a2n)))) (.z .s) (fun h => absurd h (by decide))) aln))) (acal (impl_PushOf.J k a0 x1 (at_ a1 x3) a2 _ hx4) nocal) ?_
        refine .reg' [2, 3, 8, 9, 11, 12, 15, 16, 17, 27] [] ⟨[(2, (I a2)), (3, (.pt 256 0 2)), (8, (.rf 512 0 x1.length 2 (x1.length * 2))), (9, (.rf 513 0 x2.length 1 (x2.length * 1))), (11, (.pt 1282 0 2)), (12, (I x4)), (15, (.sl true a1.length 2 (a1.flatMap (e66 true)))), (16, (I (a1.length : Int))), (17, (I x3)), (27, (B (decide (x4 < 0))))], [(256, [(I a0.f0), (.sl true a0.f1.length 4 (a0.f1.flatMap e95))]), (512, (x1.flatMap (e66 false))), (513, (x2.flatMap encI)), (1282, [(S (at_ a1 x3).f0), (.sl true (at_ a1 x3).f1.length 3 ((at_ a1 x3).f1.flatMap e89))])], [], []⟩ [c_ 29901, c_ 14951, b_ 1, c_ 935, l_ 58, b_ 0, c_ 15] aln nocal ?_
        by_cases c3 : x4 < 0
        · rw [if_pos c3] at h
          refine .cond' (.tmp 27) true [c_ 119604, c_ 119605, c_ 14951, b_ 1, c_ 935, l_ 58, b_ 0, c_ 15] (bT (dT c3)) ?_
          refine .reg' [6, 7] [] ⟨[(6, nilS), (7, nilS)], [(256, [(I a0.f0), (.sl true a0.f1.length 4 (a0.f1.flatMap e95))]), (512, (x1.flatMap (e66 false))), (513, (x2.flatMap encI)), (1282, [(S (at_ a1 x3).f0), (.sl true (at_ a1 x3).f1.length 3 ((at_ a1 x3).f1.flatMap e89))])], [], []⟩ [c_ 119605, c_ 14951, b_ 1, c_ 935, l_ 58, b_ 0, c_ 15] aln nocal ?_
          have h := Option.some.inj h
          subst h
          refine .nl' 514 ?_
          refine .nl' 515 ?_
          exact .fin' [] [(514, 512), (515, 513)] (.tp [nilS, nilS]) [] aln (shc 514 (rowF (e66_ok false) _) (shc 515 (rowF encI_ok _) shn)) (cnv_tp (a2c (.nl (memP_mem (p := (514, 512)) rfl) rfl) (a2c (.nl (memP_mem (p := (515, 513)) rfl) rfl) a2n)))
        · rw [if_neg c3] at h
          refine .cond' (.tmp 27) false [c_ 29902, c_ 29903, b_ 1, c_ 935, l_ 58, b_ 0, c_ 15] (bF (dF c3)) ?_
          obtain ⟨x5, hx5, h⟩ := Option.bind_eq_some_iff.mp h
          by_cases c4 : (x1.length + ([x5] : List S66).length) * 40 ≤ 70368744177664
          · rw [if_pos c4] at h
            refine .reg' [2, 3, 8, 9, 12, 15, 16, 17] [.no, .no, .no, .c ⟨54, [(.ag [(S (at_ a1 x3).f0), (.sl true (at_ a1 x3).f1.length 3 ((at_ a1 x3).f1.flatMap e89))]), (I x4)], [], (.ag [(S x5.f0), (.sl false x5.f1.length 3 (x5.f1.flatMap e89))]), [], [], [], [], (.ag [(S x5.f0), (.sl false x5.f1.length 3 (x5.f1.flatMap e89))]), []⟩, .no, .w (.rf 512 0 ((x1 ++ ([x5] : List S66)).length) 2 ((x1 ++ ([x5] : List S66)).length * 2)) ((x1 ++ ([x5] : List S66)).flatMap (e66 false))] ⟨[(2, (I a2)), (3, (.pt 256 0 2)), (8, (.rf 512 0 ((x1 ++ ([x5] : List S66)).length) 2 ((x1 ++ ([x5] : List S66)).length * 2))), (9, (.rf 513 0 x2.length 1 (x2.length * 1))), (12, (I x4)), (15, (.sl true a1.length 2 (a1.flatMap (e66 true)))), (16, (I (a1.length : Int))), (17, (I x3))], [(256, [(I a0.f0), (.sl true a0.f1.length 4 (a0.f1.flatMap e95))]), (512, ((x1 ++ ([x5] : List S66)).flatMap (e66 false))), (513, (x2.flatMap encI)), (1282, [(S (at_ a1 x3).f0), (.sl true (at_ a1 x3).f1.length 3 ((at_ a1 x3).f1.flatMap e89))]), (2308, (([x5] : List S66).flatMap (e66 false)))], [2 = 2 ∧ 0 + 2 ≤ 2, COK (hget [(256, [(I a0.f0), (.sl true a0.f1.length 4 (a0.f1.flatMap e95))]), (512, (x1.flatMap (e66 false))), (513, (x2.flatMap encI)), (1282, [(S (at_ a1 x3).f0), (.sl true (at_ a1 x3).f1.length 3 ((at_ a1 x3).f1.flatMap e89))])]) [(.ag [(S (at_ a1 x3).f0), (.sl true (at_ a1 x3).f1.length 3 ((at_ a1 x3).f1.flatMap e89))]), (I x4)] ⟨54, [(.ag [(S (at_ a1 x3).f0), (.sl true (at_ a1 x3).f1.length 3 ((at_ a1 x3).f1.flatMap e89))]), (I x4)], [], (.ag [(S x5.f0), (.sl false x5.f1.length 3 (x5.f1.flatMap e89))]), [], [], [], [], (.ag [(S x5.f0), (.sl false x5.f1.length 3 (x5.f1.flatMap e89))]), []⟩, V.rf 512 0 (x1.length + ([x5] : List S66).length) 2 (x1.length * 2 + ([x5] : List S66).length * 2) = (.rf 512 0 ((x1 ++ ([x5] : List S66)).length) 2 ((x1 ++ ([x5] : List S66)).length * 2)), x1.flatMap (e66 false) ++ (((([x5] : List S66).flatMap (e66 false)).drop 0).take (([x5] : List S66).length * 2)) = ((x1 ++ ([x5] : List S66)).flatMap (e66 false)), (([x5] : List S66).length * 2 = (([x5] : List S66).flatMap (e66 false)).length ∧ 0 + ([x5] : List S66).length * 2 ≤ (([x5] : List S66).flatMap (e66 false)).length) ∧ x1.length * 2 = (x1.flatMap (e66 false)).length ∧ x1.length * 2 = (x1.flatMap (e66 false)).length ∧ (x1.length + ([x5] : List S66).length) * 40 ≤ 70368744177664], [⟨54, [(.ag [(S (at_ a1 x3).f0), (.sl true (at_ a1 x3).f1.length 3 ((at_ a1 x3).f1.flatMap e89))]), (I x4)], [], (.ag [(S x5.f0), (.sl false x5.f1.length 3 (x5.f1.flatMap e89))]), [], [], [], [], (.ag [(S x5.f0), (.sl false x5.f1.length 3 (x5.f1.flatMap e89))]), []⟩]⟩ [c_ 29903, b_ 1, c_ 935, l_ 58, b_ 0, c_ 15] (alc ⟨rfl, by decide⟩ (alc (cok0 false (a2c (.z (frz_ag (a2c .s (a2c (frz_sl e89_ok (fun h => h)) a2n)))) (a2c (.z .s) a2n)) (.z (cln_ag (alc1 .s (alc1 (clnS e89_c (fun h => absurd h (by decide))) aln1)))) (fun h => absurd h (by decide))) (alc (apV rfl) (alc (apR (e66_ok false) rfl) (alc (apO (e66_ok false) rfl c4 rfl) aln))))) (acal (.cw' [1001025] [] (impl_Moved.J k (at_ a1 x3) x4 _ hx5) shn (cnv_ag (a2c (.z .s) (a2c (.z (frz_rf (k := 1001025) e89_ok (by simp) rfl rfl (row_len e89_ok _).symm)) a2n)))) nocal) ?_
            by_cases c5 : (x2.length + ([x4] : List Int).length) * 8 ≤ 70368744177664
            · rw [if_pos c5] at h
              refine .reg' [2, 3, 8, 9, 15, 16, 17] [.no, .no, .no, .w (.rf 513 0 ((x2 ++ ([x4] : List Int)).length) 1 ((x2 ++ ([x4] : List Int)).length * 1)) ((x2 ++ ([x4] : List Int)).flatMap encI)] ⟨[(2, (I a2)), (3, (.pt 256 0 2)), (8, (.rf 512 0 ((x1 ++ ([x5] : List S66)).length) 2 ((x1 ++ ([x5] : List S66)).length * 2))), (9, (.rf 513 0 ((x2 ++ ([x4] : List Int)).length) 1 ((x2 ++ ([x4] : List Int)).length * 1))), (15, (.sl true a1.length 2 (a1.flatMap (e66 true)))), (16, (I (a1.length : Int))), (17, (I x3))], [(256, [(I a0.f0), (.sl true a0.f1.length 4 (a0.f1.flatMap e95))]), (512, ((x1 ++ ([x5] : List S66)).flatMap (e66 false))), (513, ((x2 ++ ([x4] : List Int)).flatMap encI)), (1282, [(S (at_ a1 x3).f0), (.sl true (at_ a1 x3).f1.length 3 ((at_ a1 x3).f1.flatMap e89))]), (2308, (([x5] : List S66).flatMap (e66 false))), (2562, (([x4] : List Int).flatMap encI))], [V.rf 513 0 (x2.length + ([x4] : List Int).length) 1 (x2.length * 1 + ([x4] : List Int).length * 1) = (.rf 513 0 ((x2 ++ ([x4] : List Int)).length) 1 ((x2 ++ ([x4] : List Int)).length * 1)), x2.flatMap encI ++ (((([x4] : List Int).flatMap encI).drop 0).take (([x4] : List Int).length * 1)) = ((x2 ++ ([x4] : List Int)).flatMap encI), (([x4] : List Int).length * 1 = (([x4] : List Int).flatMap encI).length ∧ 0 + ([x4] : List Int).length * 1 ≤ (([x4] : List Int).flatMap encI).length) ∧ x2.length * 1 = (x2.flatMap encI).length ∧ x2.length * 1 = (x2.flatMap encI).length ∧ (x2.length + ([x4] : List Int).length) * 8 ≤ 70368744177664], []⟩ [c_ 935, l_ 58, b_ 0, c_ 15] (alc (apV rfl) (alc (apR encI_ok rfl) (alc (apO encI_ok rfl c5 rfl) aln))) nocal ?_
              refine .reg' [2, 3, 8, 9, 15, 16, 17] [] ⟨[(2, (I a2)), (3, (.pt 256 0 2)), (8, (.rf 512 0 ((x1 ++ ([x5] : List S66)).length) 2 ((x1 ++ ([x5] : List S66)).length * 2))), (9, (.rf 513 0 ((x2 ++ ([x4] : List Int)).length) 1 ((x2 ++ ([x4] : List Int)).length * 1))), (15, (.sl true a1.length 2 (a1.flatMap (e66 true)))), (16, (I (a1.length : Int))), (17, (I (wrap64 (x3 + 1))))], [(256, [(I a0.f0), (.sl true a0.f1.length 4 (a0.f1.flatMap e95))]), (512, ((x1 ++ ([x5] : List S66)).flatMap (e66 false))), (513, ((x2 ++ ([x4] : List Int)).flatMap encI)), (1282, [(S (at_ a1 x3).f0), (.sl true (at_ a1 x3).f1.length 3 ((at_ a1 x3).f1.flatMap e89))]), (2308, (([x5] : List S66).flatMap (e66 false))), (2562, (([x4] : List Int).flatMap encI))], [], []⟩ [l_ 58, b_ 0, c_ 15] aln nocal ?_
              refine .wk' [] [(256, 256), (512, 512), (513, 513)] [(2, (I a2)), (3, (.pt 256 0 2)), (8, (.rf 512 0 ((x1 ++ ([x5] : List S66)).length) 2 ((x1 ++ ([x5] : List S66)).length * 2))), (9, (.rf 513 0 ((x2 ++ ([x4] : List Int)).length) 1 ((x2 ++ ([x4] : List Int)).length * 1))), (15, (.sl true a1.length 2 (a1.flatMap (e66 true)))), (16, (I (a1.length : Int))), (17, (I (wrap64 (x3 + 1))))] [(256, [(I a0.f0), (.sl true a0.f1.length 4 (a0.f1.flatMap e95))]), (512, ((x1 ++ ([x5] : List S66)).flatMap (e66 false))), (513, ((x2 ++ ([x4] : List Int)).flatMap encI))] (shc 256 (a2c (.z .s) (a2c (.z (frz_sl e95_ok (fun h => h))) a2n)) (shc 512 (rowF (e66_ok false) _) (shc 513 (rowF encI_ok _) shn))) (enc_ (.z .s) (enc_ (.pt (memP_mem (p := (256, 256)) rfl)) (enc_ (.rf (memP_mem (p := (512, 512)) rfl)) (enc_ (.rf (memP_mem (p := (513, 513)) rfl)) (enc_ (.z (frz_sl (e66_ok true) (fun h => h))) (enc_ (.z .s) (enc_ (.z .s) enn))))))) ?_
              exact ih0 a0 a1 a2 (x1 ++ ([x5] : List S66)) (x2 ++ ([x4] : List Int)) (wrap64 (x3 + 1)) _ h
            · rw [if_neg c5] at h
              cases h
          · rw [if_neg c4] at h
            cases h
      · rw [if_neg c2] at h
        cases h
    · rw [if_neg c1] at h
      refine .cond' (.tmp 18) false [c_ 30, c_ 31] (bF (dF c1)) ?_
      refine .reg' [6, 7] [] ⟨[(6, (.rf 512 0 x1.length 2 (x1.length * 2))), (7, (.rf 513 0 x2.length 1 (x2.length * 1)))], [(256, [(I a0.f0), (.sl true a0.f1.length 4 (a0.f1.flatMap e95))]), (512, (x1.flatMap (e66 false))), (513, (x2.flatMap encI))], [], []⟩ [c_ 31] aln nocal ?_
      have h := Option.some.inj h
      subst h
      exact .fin' [] [(512, 512), (513, 513)] (.tp [(.rf 512 0 x1.length 2 (x1.length * 2)), (.rf 513 0 x2.length 1 (x2.length * 1))]) [] aln (shc 512 (rowF (e66_ok false) _) (shc 513 (rowF encI_ok _) shn)) (cnv_tp (a2c (.rf (memP_mem (p := (512, 512)) rfl)) (a2c (.rf (memP_mem (p := (513, 513)) rfl)) a2n)))
theorem impl_Settle.J (k : Nat) (a0 : S46) (a1 : (List S66)) (a2 : Int) (r : ((List S66) × (List Int))) (h : impl_Settle.f k a0 a1 a2 = some r) : J prog (.call 45 [(.ag [(I a0.f0), (.sl true a0.f1.length 4 (a0.f1.flatMap e95))]), (.sl true a1.length 2 (a1.flatMap (e66 true))), (I a2)] [] (.tp [(.rf 512 0 r.1.length 2 (r.1.length * 2)), (.rf 513 0 r.2.length 1 (r.2.length * 1))]) [(512, (r.1.flatMap (e66 false))), (513, (r.2.flatMap encI))]) := by
  unfold impl_Settle.f at h
  have ih0 := impl_Settle.lab k
  refine .call' [c_ 2, c_ 3] ?_
  refine .reg' [1, 2, 3] [] ⟨[(1, (.sl true a1.length 2 (a1.flatMap (e66 true)))), (2, (I a2)), (3, (.pt 256 0 2))], [(256, [(I a0.f0), (.sl true a0.f1.length 4 (a0.f1.flatMap e95))])], [], []⟩ [c_ 6, c_ 7] aln nocal ?_
  refine .reg' [1, 2, 3, 8, 9] [] ⟨[(1, (.sl true a1.length 2 (a1.flatMap (e66 true)))), (2, (I a2)), (3, (.pt 256 0 2)), (8, (.rf 512 0 (([] : List S66).length) 2 (([] : List S66).length * 2))), (9, (.rf 513 0 (([] : List Int).length) 1 (([] : List Int).length * 1)))], [(256, [(I a0.f0), (.sl true a0.f1.length 4 (a0.f1.flatMap e95))]), (512, (([] : List S66).flatMap (e66 false))), (513, (([] : List Int).flatMap encI))], [], []⟩ [c_ 28, c_ 29, c_ 15] aln nocal ?_
  refine .reg' [2, 3, 8, 9, 15, 16, 17] [] ⟨[(2, (I a2)), (3, (.pt 256 0 2)), (8, (.rf 512 0 (([] : List S66).length) 2 (([] : List S66).length * 2))), (9, (.rf 513 0 (([] : List Int).length) 1 (([] : List Int).length * 1))), (15, (.sl true a1.length 2 (a1.flatMap (e66 true)))), (16, (I (a1.length : Int))), (17, (I 0))], [(256, [(I a0.f0), (.sl true a0.f1.length 4 (a0.f1.flatMap e95))]), (512, (([] : List S66).flatMap (e66 false))), (513, (([] : List Int).flatMap encI))], [], []⟩ [l_ 58, b_ 0, c_ 15] aln nocal ?_
  exact ih0 a0 a1 a2 ([] : List S66) ([] : List Int) 0 _ h
/-! spec_l01In: function 57 -/
def spec_l01In.f (a0 : Int) (a1 : Int) (a2 : Int) : Option Bool := (if a1 ≤ a0 then (some (decide (a0 ≤ a2))) else (some false))
theorem spec_l01In.J (a0 : Int) (a1 : Int) (a2 : Int) (r : Bool) (h : spec_l01In.f a0 a1 a2 = some r) : J prog (.call 57 [(I a0), (I a1), (I a2)] [] (B r) []) := by
  unfold spec_l01In.f at h
  refine .call' [c_ 2, c_ 3] ?_
  refine .reg' [0, 1, 2] [] ⟨[(0, (I a0)), (1, (I a1)), (2, (I a2))], [], [], []⟩ [c_ 6, c_ 7] aln nocal ?_
  by_cases c1 : a1 ≤ a0
  · rw [if_pos c1] at h
    refine .reg' [6] [.no, .no, .no, .v (B true)] ⟨[(6, (B (decide (a0 ≤ a2))))], [], [(B (decide (a1 ≤ a0)) : V) = B true], []⟩ [c_ 7] (alc (bT (dT c1)) aln) nocal ?_
    have h := Option.some.inj h
    subst h
    exact .fin0 [] (B (decide (a0 ≤ a2))) [] aln (.z .s)
  · rw [if_neg c1] at h
    refine .reg' [6] [.no, .no, .no, .v (B false)] ⟨[(6, (B false))], [], [(B (decide (a1 ≤ a0)) : V) = B false], []⟩ [c_ 7] (alc (bF (dF c1)) aln) nocal ?_
    have h := Option.some.inj h
    subst h
    exact .fin0 [] (B false) [] aln (.z .s)
/-! spec_NetOk: function 62 -/
def spec_NetOk.l0 : Nat → S46 → Int → Option Bool
 | 0, _, _ => none
 | k + 1, a0, x2 => (if x2 < (a0.f1.length : Int) then (if 0 ≤ x2 then ((spec_l01In.f ((at_ a0.f1 x2).f0) 0 (wrap64 (a0.f0 - 1))).bind fun x3 => (if x3 = true then ((spec_l01In.f ((at_ a0.f1 x2).f1) 0 (wrap64 (a0.f0 - 1))).bind fun x4 => (if x4 = true then (if (at_ a0.f1 x2).f0 = (at_ a0.f1 x2).f1 then (some false) else ((spec_l01In.f ((at_ a0.f1 x2).f2) 1 100000).bind fun x5 => (if x5 = true then ((spec_l01In.f ((at_ a0.f1 x2).f3) 1 90).bind fun x6 => (if x6 = true then (spec_NetOk.l0 k a0 (wrap64 (x2 + 1))) else (some false))) else (some false)))) else (some false))) else (some false))) else none) else (some true))
def spec_NetOk.f (k : Nat) (a0 : S46) : Option Bool := ((spec_l01In.f a0.f0 1 30).bind fun x1 => (if x1 = true then (if (a0.f1.length : Int) > 60 then (some false) else (spec_NetOk.l0 k a0 0)) else (some false)))
theorem spec_NetOk.lab : ∀ k, (∀ (a0 : S46) (x2 : Int) (r : Bool), spec_NetOk.l0 k a0 x2 = some r → J prog (.run 62 [] [l_ 58, b_ 0, c_ 15] [(1, (.pt 256 0 2)), (3, (I x2))] [(256, [(I a0.f0), (.sl true a0.f1.length 4 (a0.f1.flatMap e95))])] (B r) []))
 | 0 => (by intro a0 x2 r h; unfold spec_NetOk.l0 at h; cases h)
 | k + 1 => by
  have ih0 := spec_NetOk.lab k
  · intro a0 x2 r h
    unfold spec_NetOk.l0 at h
    refine .loop' [c_ 464, c_ 465, c_ 233, l_ 58, b_ 0, c_ 15] ?_
    refine .reg' [1, 3, 19] [] ⟨[(1, (.pt 256 0 2)), (3, (I x2)), (19, (B (decide (x2 < (a0.f1.length : Int)))))], [(256, [(I a0.f0), (.sl true a0.f1.length 4 (a0.f1.flatMap e95))])], [2 = 2 ∧ 1 + 1 ≤ 2], []⟩ [c_ 465, c_ 233, l_ 58, b_ 0, c_ 15] (alc ⟨rfl, by decide⟩ aln) nocal ?_
    by_cases c3 : x2 < (a0.f1.length : Int)
    · rw [if_pos c3] at h
      refine .cond' (.tmp 19) true [c_ 1864, c_ 1865, b_ 1, c_ 467, l_ 58, b_ 0, c_ 15] (bT (dT c3)) ?_
      by_cases c4 : 0 ≤ x2
      · rw [if_pos c4] at h
        refine .reg' [1, 3, 4] [.no, .no, .no, .no, .v (.ag [(I (at_ a0.f1 x2).f0), (I (at_ a0.f1 x2).f1), (I (at_ a0.f1 x2).f2), (I (at_ a0.f1 x2).f3)])] ⟨[(1, (.pt 256 0 2)), (3, (I x2)), (4, (.pt 1797 0 4))], [(256, [(I a0.f0), (.sl true a0.f1.length 4 (a0.f1.flatMap e95))]), (1797, [(I (at_ a0.f1 x2).f0), (I (at_ a0.f1 x2).f1), (I (at_ a0.f1 x2).f2), (I (at_ a0.f1 x2).f3)])], [2 = 2 ∧ 1 + 1 ≤ 2, (0 : Int) ≤ x2 ∧ x2 < (a0.f1.length : Int), rdC prog 96 ((a0.f1.flatMap e95).drop (x2.toNat * 4)) = (.ag [(I (at_ a0.f1 x2).f0), (I (at_ a0.f1 x2).f1), (I (at_ a0.f1 x2).f2), (I (at_ a0.f1 x2).f3)]), 4 ≤ ((a0.f1.flatMap e95).drop (x2.toNat * 4)).length, 4 = 4 ∧ 0 + 4 ≤ 4], []⟩ [c_ 3730, c_ 3731, b_ 1, c_ 467, l_ 58, b_ 0, c_ 15] (alc ⟨rfl, by decide⟩ (alc ⟨c4, c3⟩ (alc (ldA e95_ok rfl rfl c4 c3) (alc (okI e95_ok c4 c3 (by decide)) (alc ⟨rfl, by decide⟩ aln))))) nocal ?_
        obtain ⟨x3, hx3, h⟩ := Option.bind_eq_some_iff.mp h
        by_cases c5 : x3 = true
        · rw [if_pos c5] at h
          obtain ⟨x4, hx4, h⟩ := Option.bind_eq_some_iff.mp h
          by_cases c6 : x4 = true
          · rw [if_pos c6] at h
            by_cases c7 : (at_ a0.f1 x2).f0 = (at_ a0.f1 x2).f1
            · rw [if_pos c7] at h
              refine .reg' [1, 3, 61] [.no, .no, .no, .no, .no, .c ⟨57, [(I (at_ a0.f1 x2).f0), (I 0), (I (wrap64 (a0.f0 - 1)))], [], (B x3), [], [], [], [], (B x3), []⟩, .no, .v (B false), .no, .no, .no, .no, .no, .c ⟨57, [(I (at_ a0.f1 x2).f1), (I 0), (I (wrap64 (a0.f0 - 1)))], [], (B x4), [], [], [], [], (B x4), []⟩, .no, .no, .v (B false), .no, .no, .no, .no, .no, .no, .v (B true)] ⟨[(1, (.pt 256 0 2)), (3, (I x2)), (61, (B true))], [(256, [(I a0.f0), (.sl true a0.f1.length 4 (a0.f1.flatMap e95))]), (1797, [(I (at_ a0.f1 x2).f0), (I (at_ a0.f1 x2).f1), (I (at_ a0.f1 x2).f2), (I (at_ a0.f1 x2).f3)])], [4 = 4 ∧ 0 + 1 ≤ 4, 2 = 2 ∧ 0 + 1 ≤ 2, COK (hget [(256, [(I a0.f0), (.sl true a0.f1.length 4 (a0.f1.flatMap e95))]), (1797, [(I (at_ a0.f1 x2).f0), (I (at_ a0.f1 x2).f1), (I (at_ a0.f1 x2).f2), (I (at_ a0.f1 x2).f3)])]) [(I (at_ a0.f1 x2).f0), (I 0), (I (wrap64 (a0.f0 - 1)))] ⟨57, [(I (at_ a0.f1 x2).f0), (I 0), (I (wrap64 (a0.f0 - 1)))], [], (B x3), [], [], [], [], (B x3), []⟩, (B (!x3) : V) = B false, 4 = 4 ∧ 1 + 1 ≤ 4, 2 = 2 ∧ 0 + 1 ≤ 2, COK (hget [(256, [(I a0.f0), (.sl true a0.f1.length 4 (a0.f1.flatMap e95))]), (1797, [(I (at_ a0.f1 x2).f0), (I (at_ a0.f1 x2).f1), (I (at_ a0.f1 x2).f2), (I (at_ a0.f1 x2).f3)])]) [(I (at_ a0.f1 x2).f1), (I 0), (I (wrap64 (a0.f0 - 1)))] ⟨57, [(I (at_ a0.f1 x2).f1), (I 0), (I (wrap64 (a0.f0 - 1)))], [], (B x4), [], [], [], [], (B x4), []⟩, (B (!x4) : V) = B false, 4 = 4 ∧ 0 + 1 ≤ 4, 4 = 4 ∧ 1 + 1 ≤ 4, (B ((at_ a0.f1 x2).f0 == (at_ a0.f1 x2).f1) : V) = B true], [⟨57, [(I (at_ a0.f1 x2).f0), (I 0), (I (wrap64 (a0.f0 - 1)))], [], (B x3), [], [], [], [], (B x3), []⟩, ⟨57, [(I (at_ a0.f1 x2).f1), (I 0), (I (wrap64 (a0.f0 - 1)))], [], (B x4), [], [], [], [], (B x4), []⟩]⟩ [c_ 3731, b_ 1, c_ 467, l_ 58, b_ 0, c_ 15] (alc ⟨rfl, by decide⟩ (alc ⟨rfl, by decide⟩ (alc (cok0 false (a2c (.z .s) (a2c (.z .s) (a2c (.z .s) a2n))) (.z .s) (fun h => absurd h (by decide))) (alc (bF (nF c5)) (alc ⟨rfl, by decide⟩ (alc ⟨rfl, by decide⟩ (alc (cok0 false (a2c (.z .s) (a2c (.z .s) (a2c (.z .s) a2n))) (.z .s) (fun h => absurd h (by decide))) (alc (bF (nF c6)) (alc ⟨rfl, by decide⟩ (alc ⟨rfl, by decide⟩ (alc (bT (qT c7)) aln))))))))))) (acal (spec_l01In.J ((at_ a0.f1 x2).f0) 0 (wrap64 (a0.f0 - 1)) _ hx3) (acal (spec_l01In.J ((at_ a0.f1 x2).f1) 0 (wrap64 (a0.f0 - 1)) _ hx4) nocal)) ?_
              refine .cond' (.tmp 61) true [c_ 14924, c_ 14925, b_ 1, c_ 467, l_ 58, b_ 0, c_ 15] (rfl) ?_
              refine .reg' [2] [] ⟨[(2, (B false))], [(256, [(I a0.f0), (.sl true a0.f1.length 4 (a0.f1.flatMap e95))]), (1797, [(I (at_ a0.f1 x2).f0), (I (at_ a0.f1 x2).f1), (I (at_ a0.f1 x2).f2), (I (at_ a0.f1 x2).f3)])], [], []⟩ [c_ 14925, b_ 1, c_ 467, l_ 58, b_ 0, c_ 15] aln nocal ?_
              have h := Option.some.inj h
              subst h
              exact .fin0 [] (B false) [] aln (.z .s)
            · rw [if_neg c7] at h
              obtain ⟨x5, hx5, h⟩ := Option.bind_eq_some_iff.mp h
              by_cases c8 : x5 = true
              · rw [if_pos c8] at h
                obtain ⟨x6, hx6, h⟩ := Option.bind_eq_some_iff.mp h
                refine .reg' [1, 3, 61] [.no, .no, .no, .no, .no, .c ⟨57, [(I (at_ a0.f1 x2).f0), (I 0), (I (wrap64 (a0.f0 - 1)))], [], (B x3), [], [], [], [], (B x3), []⟩, .no, .v (B false), .no, .no, .no, .no, .no, .c ⟨57, [(I (at_ a0.f1 x2).f1), (I 0), (I (wrap64 (a0.f0 - 1)))], [], (B x4), [], [], [], [], (B x4), []⟩, .no, .no, .v (B false), .no, .no, .no, .no, .no, .no, .v (B false), .no, .no, .c ⟨57, [(I (at_ a0.f1 x2).f2), (I 1), (I 100000)], [], (B x5), [], [], [], [], (B x5), []⟩, .no, .no, .v (B false), .no, .no, .c ⟨57, [(I (at_ a0.f1 x2).f3), (I 1), (I 90)], [], (B x6), [], [], [], [], (B x6), []⟩] ⟨[(1, (.pt 256 0 2)), (3, (I x2)), (61, (B (!x6)))], [(256, [(I a0.f0), (.sl true a0.f1.length 4 (a0.f1.flatMap e95))]), (1797, [(I (at_ a0.f1 x2).f0), (I (at_ a0.f1 x2).f1), (I (at_ a0.f1 x2).f2), (I (at_ a0.f1 x2).f3)])], [4 = 4 ∧ 0 + 1 ≤ 4, 2 = 2 ∧ 0 + 1 ≤ 2, COK (hget [(256, [(I a0.f0), (.sl true a0.f1.length 4 (a0.f1.flatMap e95))]), (1797, [(I (at_ a0.f1 x2).f0), (I (at_ a0.f1 x2).f1), (I (at_ a0.f1 x2).f2), (I (at_ a0.f1 x2).f3)])]) [(I (at_ a0.f1 x2).f0), (I 0), (I (wrap64 (a0.f0 - 1)))] ⟨57, [(I (at_ a0.f1 x2).f0), (I 0), (I (wrap64 (a0.f0 - 1)))], [], (B x3), [], [], [], [], (B x3), []⟩, (B (!x3) : V) = B false, 4 = 4 ∧ 1 + 1 ≤ 4, 2 = 2 ∧ 0 + 1 ≤ 2, COK (hget [(256, [(I a0.f0), (.sl true a0.f1.length 4 (a0.f1.flatMap e95))]), (1797, [(I (at_ a0.f1 x2).f0), (I (at_ a0.f1 x2).f1), (I (at_ a0.f1 x2).f2), (I (at_ a0.f1 x2).f3)])]) [(I (at_ a0.f1 x2).f1), (I 0), (I (wrap64 (a0.f0 - 1)))] ⟨57, [(I (at_ a0.f1 x2).f1), (I 0), (I (wrap64 (a0.f0 - 1)))], [], (B x4), [], [], [], [], (B x4), []⟩, (B (!x4) : V) = B false, 4 = 4 ∧ 0 + 1 ≤ 4, 4 = 4 ∧ 1 + 1 ≤ 4, (B ((at_ a0.f1 x2).f0 == (at_ a0.f1 x2).f1) : V) = B false, 4 = 4 ∧ 2 + 1 ≤ 4, COK (hget [(256, [(I a0.f0), (.sl true a0.f1.length 4 (a0.f1.flatMap e95))]), (1797, [(I (at_ a0.f1 x2).f0), (I (at_ a0.f1 x2).f1), (I (at_ a0.f1 x2).f2), (I (at_ a0.f1 x2).f3)])]) [(I (at_ a0.f1 x2).f2), (I 1), (I 100000)] ⟨57, [(I (at_ a0.f1 x2).f2), (I 1), (I 100000)], [], (B x5), [], [], [], [], (B x5), []⟩, (B (!x5) : V) = B false, 4 = 4 ∧ 3 + 1 ≤ 4, COK (hget [(256, [(I a0.f0), (.sl true a0.f1.length 4 (a0.f1.flatMap e95))]), (1797, [(I (at_ a0.f1 x2).f0), (I (at_ a0.f1 x2).f1), (I (at_ a0.f1 x2).f2), (I (at_ a0.f1 x2).f3)])]) [(I (at_ a0.f1 x2).f3), (I 1), (I 90)] ⟨57, [(I (at_ a0.f1 x2).f3), (I 1), (I 90)], [], (B x6), [], [], [], [], (B x6), []⟩], [⟨57, [(I (at_ a0.f1 x2).f0), (I 0), (I (wrap64 (a0.f0 - 1)))], [], (B x3), [], [], [], [], (B x3), []⟩, ⟨57, [(I (at_ a0.f1 x2).f1), (I 0), (I (wrap64 (a0.f0 - 1)))], [], (B x4), [], [], [], [], (B x4), []⟩, ⟨57, [(I (at_ a0.f1 x2).f2), (I 1), (I 100000)], [], (B x5), [], [], [], [], (B x5), []⟩, ⟨57, [(I (at_ a0.f1 x2).f3), (I 1), (I 90)], [], (B x6), [], [], [], [], (B x6), []⟩]⟩ [c_ 3731, b_ 1, c_ 467, l_ 58, b_ 0, c_ 15] (alc ⟨rfl, by decide⟩ (alc ⟨rfl, by decide⟩ (alc (cok0 false (a2c (.z .s) (a2c (.z .s) (a2c (.z .s) a2n))) (.z .s) (fun h => absurd h (by decide))) (alc (bF (nF c5)) (alc ⟨rfl, by decide⟩ (alc ⟨rfl, by decide⟩ (alc (cok0 false (a2c (.z .s) (a2c (.z .s) (a2c (.z .s) a2n))) (.z .s) (fun h => absurd h (by decide))) (alc (bF (nF c6)) (alc ⟨rfl, by decide⟩ (alc ⟨rfl, by decide⟩ (alc (bF (qF c7)) (alc ⟨rfl, by decide⟩ (alc (cok0 false (a2c (.z .s) (a2c (.z .s) (a2c (.z .s) a2n))) (.z .s) (fun h => absurd h (by decide))) (alc (bF (nF c8)) (alc ⟨rfl, by decide⟩ (alc (cok0 false (a2c (.z .s) (a2c (.z .s) (a2c (.z .s) a2n))) (.z .s) (fun h => absurd h (by decide))) aln)))))))))))))))) (acal (spec_l01In.J ((at_ a0.f1 x2).f0) 0 (wrap64 (a0.f0 - 1)) _ hx3) (acal (spec_l01In.J ((at_ a0.f1 x2).f1) 0 (wrap64 (a0.f0 - 1)) _ hx4) (acal (spec_l01In.J ((at_ a0.f1 x2).f2) 1 100000 _ hx5) (acal (spec_l01In.J ((at_ a0.f1 x2).f3) 1 90 _ hx6) nocal)))) ?_
                by_cases c9 : x6 = true
                · rw [if_pos c9] at h
                  refine .cond' (.tmp 61) false [c_ 467, l_ 58, b_ 0, c_ 15] (bF (nF c9)) ?_
                  refine .reg' [1, 3] [] ⟨[(1, (.pt 256 0 2)), (3, (I (wrap64 (x2 + 1))))], [(256, [(I a0.f0), (.sl true a0.f1.length 4 (a0.f1.flatMap e95))]), (1797, [(I (at_ a0.f1 x2).f0), (I (at_ a0.f1 x2).f1), (I (at_ a0.f1 x2).f2), (I (at_ a0.f1 x2).f3)])], [], []⟩ [l_ 58, b_ 0, c_ 15] aln nocal ?_
                  refine .wk' [] [(256, 256)] [(1, (.pt 256 0 2)), (3, (I (wrap64 (x2 + 1))))] [(256, [(I a0.f0), (.sl true a0.f1.length 4 (a0.f1.flatMap e95))])] (shc 256 (a2c (.z .s) (a2c (.z (frz_sl e95_ok (fun h => h))) a2n)) shn) (enc_ (.pt (memP_mem (p := (256, 256)) rfl)) (enc_ (.z .s) enn)) ?_
                  exact ih0 a0 (wrap64 (x2 + 1)) _ h
                · rw [if_neg c9] at h
                  refine .cond' (.tmp 61) true [c_ 14924, c_ 14925, b_ 1, c_ 467, l_ 58, b_ 0, c_ 15] (bT (nT (vF c9))) ?_
                  refine .reg' [2] [] ⟨[(2, (B false))], [(256, [(I a0.f0), (.sl true a0.f1.length 4 (a0.f1.flatMap e95))]), (1797, [(I (at_ a0.f1 x2).f0), (I (at_ a0.f1 x2).f1), (I (at_ a0.f1 x2).f2), (I (at_ a0.f1 x2).f3)])], [], []⟩ [c_ 14925, b_ 1, c_ 467, l_ 58, b_ 0, c_ 15] aln nocal ?_
                  have h := Option.some.inj h
                  subst h
                  exact .fin0 [] (B false) [] aln (.z .s)
              · rw [if_neg c8] at h
                refine .reg' [1, 3, 61] [.no, .no, .no, .no, .no, .c ⟨57, [(I (at_ a0.f1 x2).f0), (I 0), (I (wrap64 (a0.f0 - 1)))], [], (B x3), [], [], [], [], (B x3), []⟩, .no, .v (B false), .no, .no, .no, .no, .no, .c ⟨57, [(I (at_ a0.f1 x2).f1), (I 0), (I (wrap64 (a0.f0 - 1)))], [], (B x4), [], [], [], [], (B x4), []⟩, .no, .no, .v (B false), .no, .no, .no, .no, .no, .no, .v (B false), .no, .no, .c ⟨57, [(I (at_ a0.f1 x2).f2), (I 1), (I 100000)], [], (B x5), [], [], [], [], (B x5), []⟩, .no, .no, .v (B true)] ⟨[(1, (.pt 256 0 2)), (3, (I x2)), (61, (B true))], [(256, [(I a0.f0), (.sl true a0.f1.length 4 (a0.f1.flatMap e95))]), (1797, [(I (at_ a0.f1 x2).f0), (I (at_ a0.f1 x2).f1), (I (at_ a0.f1 x2).f2), (I (at_ a0.f1 x2).f3)])], [4 = 4 ∧ 0 + 1 ≤ 4, 2 = 2 ∧ 0 + 1 ≤ 2, COK (hget [(256, [(I a0.f0), (.sl true a0.f1.length 4 (a0.f1.flatMap e95))]), (1797, [(I (at_ a0.f1 x2).f0), (I (at_ a0.f1 x2).f1), (I (at_ a0.f1 x2).f2), (I (at_ a0.f1 x2).f3)])]) [(I (at_ a0.f1 x2).f0), (I 0), (I (wrap64 (a0.f0 - 1)))] ⟨57, [(I (at_ a0.f1 x2).f0), (I 0), (I (wrap64 (a0.f0 - 1)))], [], (B x3), [], [], [], [], (B x3), []⟩, (B (!x3) : V) = B false, 4 = 4 ∧ 1 + 1 ≤ 4, 2 = 2 ∧ 0 + 1 ≤ 2, COK (hget [(256, [(I a0.f0), (.sl true a0.f1.length 4 (a0.f1.flatMap e95))]), (1797, [(I (at_ a0.f1 x2).f0), (I (at_ a0.f1 x2).f1), (I (at_ a0.f1 x2).f2), (I (at_ a0.f1 x2).f3)])]) [(I (at_ a0.f1 x2).f1), (I 0), (I (wrap64 (a0.f0 - 1)))] ⟨57, [(I (at_ a0.f1 x2).f1), (I 0), (I (wrap64 (a0.f0 - 1)))], [], (B x4), [], [], [], [], (B x4), []⟩, (B (!x4) : V) = B false, 4 = 4 ∧ 0 + 1 ≤ 4, 4 = 4 ∧ 1 + 1 ≤ 4, (B ((at_ a0.f1 x2).f0 == (at_ a0.f1 x2).f1) : V) = B false, 4 = 4 ∧ 2 + 1 ≤ 4, COK (hget [(256, [(I a0.f0), (.sl true a0.f1.length 4 (a0.f1.flatMap e95))]), (1797, [(I (at_ a0.f1 x2).f0), (I (at_ a0.f1 x2).f1), (I (at_ a0.f1 x2).f2), (I (at_ a0.f1 x2).f3)])]) [(I (at_ a0.f1 x2).f2), (I 1), (I 100000)] ⟨57, [(I (at_ a0.f1 x2).f2), (I 1), (I 100000)], [], (B x5), [], [], [], [], (B x5), []⟩, (B (!x5) : V) = B true], [⟨57, [(I (at_ a0.f1 x2).f0), (I 0), (I (wrap64 (a0.f0 - 1)))], [], (B x3), [], [], [], [], (B x3), []⟩, ⟨57, [(I (at_ a0.f1 x2).f1), (I 0), (I (wrap64 (a0.f0 - 1)))], [], (B x4), [], [], [], [], (B x4), []⟩, ⟨57, [(I (at_ a0.f1 x2).f2), (I 1), (I 100000)], [], (B x5), [], [], [], [], (B x5), []⟩]⟩ [c_ 3731, b_ 1, c_ 467, l_ 58, b_ 0, c_ 15] (alc ⟨rfl, by decide⟩ (alc ⟨rfl, by decide⟩ (alc (cok0 false (a2c (.z .s) (a2c (.z .s) (a2c (.z .s) a2n))) (.z .s) (fun h => absurd h (by decide))) (alc (bF (nF c5)) (alc ⟨rfl, by decide⟩ (alc ⟨rfl, by decide⟩ (alc (cok0 false (a2c (.z .s) (a2c (.z .s) (a2c (.z .s) a2n))) (.z .s) (fun h => absurd h (by decide))) (alc (bF (nF c6)) (alc ⟨rfl, by decide⟩ (alc ⟨rfl, by decide⟩ (alc (bF (qF c7)) (alc ⟨rfl, by decide⟩ (alc (cok0 false (a2c (.z .s) (a2c (.z .s) (a2c (.z .s) a2n))) (.z .s) (fun h => absurd h (by decide))) (alc (bT (nT (vF c8))) aln)))))))))))))) (acal (spec_l01In.J ((at_ a0.f1 x2).f0) 0 (wrap64 (a0.f0 - 1)) _ hx3) (acal (spec_l01In.J ((at_ a0.f1 x2).f1) 0 (wrap64 (a0.f0 - 1)) _ hx4) (acal (spec_l01In.J ((at_ a0.f1 x2).f2) 1 100000 _ hx5) nocal))) ?_
                refine .cond' (.tmp 61) true [c_ 14924, c_ 14925, b_ 1, c_ 467, l_ 58, b_ 0, c_ 15] (rfl) ?_
                refine .reg' [2] [] ⟨[(2, (B false))], [(256, [(I a0.f0), (.sl true a0.f1.length 4 (a0.f1.flatMap e95))]), (1797, [(I (at_ a0.f1 x2).f0), (I (at_ a0.f1 x2).f1), (I (at_ a0.f1 x2).f2), (I (at_ a0.f1 x2).f3)])], [], []⟩ [c_ 14925, b_ 1, c_ 467, l_ 58, b_ 0, c_ 15] aln nocal ?_
                have h := Option.some.inj h
                subst h
                exact .fin0 [] (B false) [] aln (.z .s)
          · rw [if_neg c6] at h
            refine .reg' [1, 3, 61] [.no, .no, .no, .no, .no, .c ⟨57, [(I (at_ a0.f1 x2).f0), (I 0), (I (wrap64 (a0.f0 - 1)))], [], (B x3), [], [], [], [], (B x3), []⟩, .no, .v (B false), .no, .no, .no, .no, .no, .c ⟨57, [(I (at_ a0.f1 x2).f1), (I 0), (I (wrap64 (a0.f0 - 1)))], [], (B x4), [], [], [], [], (B x4), []⟩, .no, .no, .v (B true)] ⟨[(1, (.pt 256 0 2)), (3, (I x2)), (61, (B true))], [(256, [(I a0.f0), (.sl true a0.f1.length 4 (a0.f1.flatMap e95))]), (1797, [(I (at_ a0.f1 x2).f0), (I (at_ a0.f1 x2).f1), (I (at_ a0.f1 x2).f2), (I (at_ a0.f1 x2).f3)])], [4 = 4 ∧ 0 + 1 ≤ 4, 2 = 2 ∧ 0 + 1 ≤ 2, COK (hget [(256, [(I a0.f0), (.sl true a0.f1.length 4 (a0.f1.flatMap e95))]), (1797, [(I (at_ a0.f1 x2).f0), (I (at_ a0.f1 x2).f1), (I (at_ a0.f1 x2).f2), (I (at_ a0.f1 x2).f3)])]) [(I (at_ a0.f1 x2).f0), (I 0), (I (wrap64 (a0.f0 - 1)))] ⟨57, [(I (at_ a0.f1 x2).f0), (I 0), (I (wrap64 (a0.f0 - 1)))], [], (B x3), [], [], [], [], (B x3), []⟩, (B (!x3) : V) = B false, 4 = 4 ∧ 1 + 1 ≤ 4, 2 = 2 ∧ 0 + 1 ≤ 2, COK (hget [(256, [(I a0.f0), (.sl true a0.f1.length 4 (a0.f1.flatMap e95))]), (1797, [(I (at_ a0.f1 x2).f0), (I (at_ a0.f1 x2).f1), (I (at_ a0.f1 x2).f2), (I (at_ a0.f1 x2).f3)])]) [(I (at_ a0.f1 x2).f1), (I 0), (I (wrap64 (a0.f0 - 1)))] ⟨57, [(I (at_ a0.f1 x2).f1), (I 0), (I (wrap64 (a0.f0 - 1)))], [], (B x4), [], [], [], [], (B x4), []⟩, (B (!x4) : V) = B true], [⟨57, [(I (at_ a0.f1 x2).f0), (I 0), (I (wrap64 (a0.f0 - 1)))], [], (B x3), [], [], [], [], (B x3), []⟩, ⟨57, [(I (at_ a0.f1 x2).f1), (I 0), (I (wrap64 (a0.f0 - 1)))], [], (B x4), [], [], [], [], (B x4), []⟩]⟩ [c_ 3731, b_ 1, c_ 467, l_ 58, b_ 0, c_ 15] (alc ⟨rfl, by decide⟩ (alc ⟨rfl, by decide⟩ (alc (cok0 false (a2c (.z .s) (a2c (.z .s) (a2c (.z .s) a2n))) (.z .s) (fun h => absurd h (by decide))) (alc (bF (nF c5)) (alc ⟨rfl, by decide⟩ (alc ⟨rfl, by decide⟩ (alc (cok0 false (a2c (.z .s) (a2c (.z .s) (a2c (.z .s) a2n))) (.z .s) (fun h => absurd h (by decide))) (alc (bT (nT (vF c6))) aln)))))))) (acal (spec_l01In.J ((at_ a0.f1 x2).f0) 0 (wrap64 (a0.f0 - 1)) _ hx3) (acal (spec_l01In.J ((at_ a0.f1 x2).f1) 0 (wrap64 (a0.f0 - 1)) _ hx4) nocal)) ?_
            refine .cond' (.tmp 61) true [c_ 14924, c_ 14925, b_ 1, c_ 467, l_ 58, b_ 0, c_ 15] (rfl) ?_
            refine .reg' [2] [] ⟨[(2, (B false))], [(256, [(I a0.f0), (.sl true a0.f1.length 4 (a0.f1.flatMap e95))]), (1797, [(I (at_ a0.f1 x2).f0), (I (at_ a0.f1 x2).f1), (I (at_ a0.f1 x2).f2), (I (at_ a0.f1 x2).f3)])], [], []⟩ [c_ 14925, b_ 1, c_ 467, l_ 58, b_ 0, c_ 15] aln nocal ?_
            have h := Option.some.inj h
            subst h
            exact .fin0 [] (B false) [] aln (.z .s)
        · rw [if_neg c5] at h
          refine .reg' [1, 3, 61] [.no, .no, .no, .no, .no, .c ⟨57, [(I (at_ a0.f1 x2).f0), (I 0), (I (wrap64 (a0.f0 - 1)))], [], (B x3), [], [], [], [], (B x3), []⟩, .no, .v (B true)] ⟨[(1, (.pt 256 0 2)), (3, (I x2)), (61, (B true))], [(256, [(I a0.f0), (.sl true a0.f1.length 4 (a0.f1.flatMap e95))]), (1797, [(I (at_ a0.f1 x2).f0), (I (at_ a0.f1 x2).f1), (I (at_ a0.f1 x2).f2), (I (at_ a0.f1 x2).f3)])], [4 = 4 ∧ 0 + 1 ≤ 4, 2 = 2 ∧ 0 + 1 ≤ 2, COK (hget [(256, [(I a0.f0), (.sl true a0.f1.length 4 (a0.f1.flatMap e95))]), (1797, [(I (at_ a0.f1 x2).f0), (I (at_ a0.f1 x2).f1), (I (at_ a0.f1 x2).f2), (I (at_ a0.f1 x2).f3)])]) [(I (at_ a0.f1 x2).f0), (I 0), (I (wrap64 (a0.f0 - 1)))] ⟨57, [(I (at_ a0.f1 x2).f0), (I 0), (I (wrap64 (a0.f0 - 1)))], [], (B x3), [], [], [], [], (B x3), []⟩, (B (!x3) : V) = B true], [⟨57, [(I (at_ a0.f1 x2).f0), (I 0), (I (wrap64 (a0.f0 - 1)))], [], (B x3), [], [], [], [], (B x3), []⟩]⟩ [c_ 3731, b_ 1, c_ 467, l_ 58, b_ 0, c_ 15] (alc ⟨rfl, by decide⟩ (alc ⟨rfl, by decide⟩ (alc (cok0 false (a2c (.z .s) (a2c (.z .s) (a2c (.z .s) a2n))) (.z .s) (fun h => absurd h (by decide))) (alc (bT (nT (vF c5))) aln)))) (acal (spec_l01In.J ((at_ a0.f1 x2).f0) 0 (wrap64 (a0.f0 - 1)) _ hx3) nocal) ?_
          refine .cond' (.tmp 61) true [c_ 14924, c_ 14925, b_ 1, c_ 467, l_ 58, b_ 0, c_ 15] (rfl) ?_
          refine .reg' [2] [] ⟨[(2, (B false))], [(256, [(I a0.f0), (.sl true a0.f1.length 4 (a0.f1.flatMap e95))]), (1797, [(I (at_ a0.f1 x2).f0), (I (at_ a0.f1 x2).f1), (I (at_ a0.f1 x2).f2), (I (at_ a0.f1 x2).f3)])], [], []⟩ [c_ 14925, b_ 1, c_ 467, l_ 58, b_ 0, c_ 15] aln nocal ?_
          have h := Option.some.inj h
          subst h
          exact .fin0 [] (B false) [] aln (.z .s)
      · rw [if_neg c4] at h
        cases h
    · rw [if_neg c3] at h
      refine .cond' (.tmp 19) false [c_ 30, c_ 31] (bF (dF c3)) ?_
      refine .reg' [2] [] ⟨[(2, (B true))], [(256, [(I a0.f0), (.sl true a0.f1.length 4 (a0.f1.flatMap e95))])], [], []⟩ [c_ 31] aln nocal ?_
      have h := Option.some.inj h
      subst h
      exact .fin0 [] (B true) [] aln (.z .s)
theorem spec_NetOk.J (k : Nat) (a0 : S46) (r : Bool) (h : spec_NetOk.f k a0 = some r) : J prog (.call 62 [(.ag [(I a0.f0), (.sl true a0.f1.length 4 (a0.f1.flatMap e95))])] [] (B r) []) := by
  unfold spec_NetOk.f at h
  have ih0 := spec_NetOk.lab k
  refine .call' [c_ 2, c_ 3] ?_
  refine .reg' [1] [] ⟨[(1, (.pt 256 0 2))], [(256, [(I a0.f0), (.sl true a0.f1.length 4 (a0.f1.flatMap e95))])], [], []⟩ [c_ 12, c_ 13, c_ 7] aln nocal ?_
  obtain ⟨x1, hx1, h⟩ := Option.bind_eq_some_iff.mp h
  by_cases c1 : x1 = true
  · rw [if_pos c1] at h
    refine .reg' [1, 14] [.no, .no, .c ⟨57, [(I a0.f0), (I 1), (I 30)], [], (B x1), [], [], [], [], (B x1), []⟩, .no, .v (B false)] ⟨[(1, (.pt 256 0 2)), (14, (B (decide ((a0.f1.length : Int) > 60))))], [(256, [(I a0.f0), (.sl true a0.f1.length 4 (a0.f1.flatMap e95))])], [2 = 2 ∧ 0 + 1 ≤ 2, COK (hget [(256, [(I a0.f0), (.sl true a0.f1.length 4 (a0.f1.flatMap e95))])]) [(I a0.f0), (I 1), (I 30)] ⟨57, [(I a0.f0), (I 1), (I 30)], [], (B x1), [], [], [], [], (B x1), []⟩, (B (!x1) : V) = B false, 2 = 2 ∧ 1 + 1 ≤ 2], [⟨57, [(I a0.f0), (I 1), (I 30)], [], (B x1), [], [], [], [], (B x1), []⟩]⟩ [c_ 13, c_ 7] (alc ⟨rfl, by decide⟩ (alc (cok0 false (a2c (.z .s) (a2c (.z .s) (a2c (.z .s) a2n))) (.z .s) (fun h => absurd h (by decide))) (alc (bF (nF c1)) (alc ⟨rfl, by decide⟩ aln)))) (acal (spec_l01In.J a0.f0 1 30 _ hx1) nocal) ?_
    by_cases c2 : (a0.f1.length : Int) > 60
    · rw [if_pos c2] at h
      refine .cond' (.tmp 14) true [c_ 52, c_ 53, c_ 7] (bT (dT c2)) ?_
      refine .reg' [2] [] ⟨[(2, (B false))], [(256, [(I a0.f0), (.sl true a0.f1.length 4 (a0.f1.flatMap e95))])], [], []⟩ [c_ 53, c_ 7] aln nocal ?_
      have h := Option.some.inj h
      subst h
      exact .fin0 [] (B false) [] aln (.z .s)
    · rw [if_neg c2] at h
      refine .cond' (.tmp 14) false [c_ 28, c_ 29, c_ 15] (bF (dF c2)) ?_
      refine .reg' [1, 3] [] ⟨[(1, (.pt 256 0 2)), (3, (I 0))], [(256, [(I a0.f0), (.sl true a0.f1.length 4 (a0.f1.flatMap e95))])], [], []⟩ [l_ 58, b_ 0, c_ 15] aln nocal ?_
      exact ih0 a0 0 _ h
  · rw [if_neg c1] at h
    refine .reg' [1, 14] [.no, .no, .c ⟨57, [(I a0.f0), (I 1), (I 30)], [], (B x1), [], [], [], [], (B x1), []⟩, .no, .v (B true)] ⟨[(1, (.pt 256 0 2)), (14, (B true))], [(256, [(I a0.f0), (.sl true a0.f1.length 4 (a0.f1.flatMap e95))])], [2 = 2 ∧ 0 + 1 ≤ 2, COK (hget [(256, [(I a0.f0), (.sl true a0.f1.length 4 (a0.f1.flatMap e95))])]) [(I a0.f0), (I 1), (I 30)] ⟨57, [(I a0.f0), (I 1), (I 30)], [], (B x1), [], [], [], [], (B x1), []⟩, (B (!x1) : V) = B true], [⟨57, [(I a0.f0), (I 1), (I 30)], [], (B x1), [], [], [], [], (B x1), []⟩]⟩ [c_ 13, c_ 7] (alc ⟨rfl, by decide⟩ (alc (cok0 false (a2c (.z .s) (a2c (.z .s) (a2c (.z .s) a2n))) (.z .s) (fun h => absurd h (by decide))) (alc (bT (nT (vF c1))) aln))) (acal (spec_l01In.J a0.f0 1 30 _ hx1) nocal) ?_
    refine .cond' (.tmp 14) true [c_ 52, c_ 53, c_ 7] (rfl) ?_
    refine .reg' [2] [] ⟨[(2, (B false))], [(256, [(I a0.f0), (.sl true a0.f1.length 4 (a0.f1.flatMap e95))])], [], []⟩ [c_ 53, c_ 7] aln nocal ?_
    have h := Option.some.inj h
    subst h
    exact .fin0 [] (B false) [] aln (.z .s)
/-! spec_l01Name: function 90 -/
def spec_l01Name.l0 : Nat → ByteArray → Int → Option Bool
 | 0, _, _ => none
 | k + 1, a0, x1 => (if x1 < (a0.size : Int) then (if 0 ≤ x1 then (if (bt a0 x1) ≥ 97 then (if (bt a0 x1) ≤ 122 then (spec_l01Name.l0 k a0 (wrap64 (x1 + 1))) else (if (bt a0 x1) ≥ 48 then (if (bt a0 x1) ≤ 57 then (spec_l01Name.l0 k a0 (wrap64 (x1 + 1))) else (some false)) else (some false))) else (if (bt a0 x1) ≥ 48 then (if (bt a0 x1) ≤ 57 then (spec_l01Name.l0 k a0 (wrap64 (x1 + 1))) else (some false)) else (some false))) else none) else ((spec_l01In.f (a0.size : Int) 1 12).bind fun x2 => (some x2)))
def spec_l01Name.f (k : Nat) (a0 : ByteArray) : Option Bool := (spec_l01Name.l0 k a0 0)
theorem spec_l01Name.lab : ∀ k, (∀ (a0 : ByteArray) (x1 : Int) (r : Bool), spec_l01Name.l0 k a0 x1 = some r → J prog (.run 90 [] [l_ 26, b_ 0, c_ 7] [(0, (S a0)), (3, (I x1))] [] (B r) []))
 | 0 => (by intro a0 x1 r h; unfold spec_l01Name.l0 at h; cases h)
 | k + 1 => by
  have ih0 := spec_l01Name.lab k
  · intro a0 x1 r h
    unfold spec_l01Name.l0 at h
    refine .loop' [c_ 208, c_ 209, c_ 105, l_ 26, b_ 0, c_ 7] ?_
    refine .reg' [0, 3, 8] [] ⟨[(0, (S a0)), (3, (I x1)), (8, (B (decide (x1 < (a0.size : Int)))))], [], [], []⟩ [c_ 209, c_ 105, l_ 26, b_ 0, c_ 7] aln nocal ?_
    by_cases c1 : x1 < (a0.size : Int)
    · rw [if_pos c1] at h
      refine .cond' (.tmp 8) true [c_ 840, c_ 841, b_ 1, c_ 211, l_ 26, b_ 0, c_ 7] (bT (dT c1)) ?_
      by_cases c2 : 0 ≤ x1
      · rw [if_pos c2] at h
        refine .reg' [0, 3, 4] [] ⟨[(0, (S a0)), (3, (I x1)), (4, (U (bt a0 x1)))], [], [(0 : Int) ≤ x1 ∧ x1 < (a0.size : Int)], []⟩ [c_ 1682, c_ 1683, b_ 1, c_ 211, l_ 26, b_ 0, c_ 7] (alc ⟨c2, c1⟩ aln) nocal ?_
        by_cases c3 : (bt a0 x1) ≥ 97
        · rw [if_pos c3] at h
          by_cases c4 : (bt a0 x1) ≤ 122
          · rw [if_pos c4] at h
            refine .reg' [0, 3, 29] [.no, .no, .v (B true), .no, .no, .no, .no, .v (B false)] ⟨[(0, (S a0)), (3, (I x1)), (29, (B false))], [], [(B (decide ((bt a0 x1) ≥ 97)) : V) = B true, (B (!(decide ((bt a0 x1) ≤ 122))) : V) = B false], []⟩ [c_ 1683, b_ 1, c_ 211, l_ 26, b_ 0, c_ 7] (alc (bT (dT c3)) (alc (bF (nF (dT c4))) aln)) nocal ?_
            refine .cond' (.tmp 29) false [c_ 211, l_ 26, b_ 0, c_ 7] (rfl) ?_
            refine .reg' [0, 3] [] ⟨[(0, (S a0)), (3, (I (wrap64 (x1 + 1))))], [], [], []⟩ [l_ 26, b_ 0, c_ 7] aln nocal ?_
            exact ih0 a0 (wrap64 (x1 + 1)) _ h
          · rw [if_neg c4] at h
            by_cases c5 : (bt a0 x1) ≥ 48
            · rw [if_pos c5] at h
              refine .reg' [0, 3, 29] [.no, .no, .v (B true), .no, .no, .no, .no, .v (B true), .no, .no, .v (B true)] ⟨[(0, (S a0)), (3, (I x1)), (29, (B (!(decide ((bt a0 x1) ≤ 57)))))], [], [(B (decide ((bt a0 x1) ≥ 97)) : V) = B true, (B (!(decide ((bt a0 x1) ≤ 122))) : V) = B true, (B (decide ((bt a0 x1) ≥ 48)) : V) = B true], []⟩ [c_ 1683, b_ 1, c_ 211, l_ 26, b_ 0, c_ 7] (alc (bT (dT c3)) (alc (bT (nT (dF c4))) (alc (bT (dT c5)) aln))) nocal ?_
              by_cases c6 : (bt a0 x1) ≤ 57
              · rw [if_pos c6] at h
                refine .cond' (.tmp 29) false [c_ 211, l_ 26, b_ 0, c_ 7] (bF (nF (dT c6))) ?_
                refine .reg' [0, 3] [] ⟨[(0, (S a0)), (3, (I (wrap64 (x1 + 1))))], [], [], []⟩ [l_ 26, b_ 0, c_ 7] aln nocal ?_
                exact ih0 a0 (wrap64 (x1 + 1)) _ h
              · rw [if_neg c6] at h
                refine .cond' (.tmp 29) true [c_ 6732, c_ 6733, b_ 1, c_ 211, l_ 26, b_ 0, c_ 7] (bT (nT (dF c6))) ?_
                refine .reg' [2] [] ⟨[(2, (B false))], [], [], []⟩ [c_ 6733, b_ 1, c_ 211, l_ 26, b_ 0, c_ 7] aln nocal ?_
                have h := Option.some.inj h
                subst h
                exact .fin0 [] (B false) [] aln (.z .s)
            · rw [if_neg c5] at h
              refine .reg' [0, 3, 29] [.no, .no, .v (B true), .no, .no, .no, .no, .v (B true), .no, .no, .v (B false)] ⟨[(0, (S a0)), (3, (I x1)), (29, (B true))], [], [(B (decide ((bt a0 x1) ≥ 97)) : V) = B true, (B (!(decide ((bt a0 x1) ≤ 122))) : V) = B true, (B (decide ((bt a0 x1) ≥ 48)) : V) = B false], []⟩ [c_ 1683, b_ 1, c_ 211, l_ 26, b_ 0, c_ 7] (alc (bT (dT c3)) (alc (bT (nT (dF c4))) (alc (bF (dF c5)) aln))) nocal ?_
              refine .cond' (.tmp 29) true [c_ 6732, c_ 6733, b_ 1, c_ 211, l_ 26, b_ 0, c_ 7] (rfl) ?_
              refine .reg' [2] [] ⟨[(2, (B false))], [], [], []⟩ [c_ 6733, b_ 1, c_ 211, l_ 26, b_ 0, c_ 7] aln nocal ?_
              have h := Option.some.inj h
              subst h
              exact .fin0 [] (B false) [] aln (.z .s)
        · rw [if_neg c3] at h
          by_cases c7 : (bt a0 x1) ≥ 48
          · rw [if_pos c7] at h
            refine .reg' [0, 3, 29] [.no, .no, .v (B false), .no, .no, .no, .no, .no, .no, .no, .v (B true)] ⟨[(0, (S a0)), (3, (I x1)), (29, (B (!(decide ((bt a0 x1) ≤ 57)))))], [], [(B (decide ((bt a0 x1) ≥ 97)) : V) = B false, (B (decide ((bt a0 x1) ≥ 48)) : V) = B true], []⟩ [c_ 1683, b_ 1, c_ 211, l_ 26, b_ 0, c_ 7] (alc (bF (dF c3)) (alc (bT (dT c7)) aln)) nocal ?_
            by_cases c8 : (bt a0 x1) ≤ 57
            · rw [if_pos c8] at h
              refine .cond' (.tmp 29) false [c_ 211, l_ 26, b_ 0, c_ 7] (bF (nF (dT c8))) ?_
              refine .reg' [0, 3] [] ⟨[(0, (S a0)), (3, (I (wrap64 (x1 + 1))))], [], [], []⟩ [l_ 26, b_ 0, c_ 7] aln nocal ?_
              exact ih0 a0 (wrap64 (x1 + 1)) _ h
            · rw [if_neg c8] at h
              refine .cond' (.tmp 29) true [c_ 6732, c_ 6733, b_ 1, c_ 211, l_ 26, b_ 0, c_ 7] (bT (nT (dF c8))) ?_
              refine .reg' [2] [] ⟨[(2, (B false))], [], [], []⟩ [c_ 6733, b_ 1, c_ 211, l_ 26, b_ 0, c_ 7] aln nocal ?_
              have h := Option.some.inj h
              subst h
              exact .fin0 [] (B false) [] aln (.z .s)
          · rw [if_neg c7] at h
            refine .reg' [0, 3, 29] [.no, .no, .v (B false), .no, .no, .no, .no, .no, .no, .no, .v (B false)] ⟨[(0, (S a0)), (3, (I x1)), (29, (B true))], [], [(B (decide ((bt a0 x1) ≥ 97)) : V) = B false, (B (decide ((bt a0 x1) ≥ 48)) : V) = B false], []⟩ [c_ 1683, b_ 1, c_ 211, l_ 26, b_ 0, c_ 7] (alc (bF (dF c3)) (alc (bF (dF c7)) aln)) nocal ?_
            refine .cond' (.tmp 29) true [c_ 6732, c_ 6733, b_ 1, c_ 211, l_ 26, b_ 0, c_ 7] (rfl) ?_
            refine .reg' [2] [] ⟨[(2, (B false))], [], [], []⟩ [c_ 6733, b_ 1, c_ 211, l_ 26, b_ 0, c_ 7] aln nocal ?_
            have h := Option.some.inj h
            subst h
            exact .fin0 [] (B false) [] aln (.z .s)
      · rw [if_neg c2] at h
        cases h
    · rw [if_neg c1] at h
      refine .cond' (.tmp 8) false [c_ 14, c_ 15] (bF (dF c1)) ?_
      obtain ⟨x2, hx2, h⟩ := Option.bind_eq_some_iff.mp h
      refine .reg' [2] [.no, .no, .c ⟨57, [(I (a0.size : Int)), (I 1), (I 12)], [], (B x2), [], [], [], [], (B x2), []⟩] ⟨[(2, (B x2))], [], [COK (hget []) [(I (a0.size : Int)), (I 1), (I 12)] ⟨57, [(I (a0.size : Int)), (I 1), (I 12)], [], (B x2), [], [], [], [], (B x2), []⟩], [⟨57, [(I (a0.size : Int)), (I 1), (I 12)], [], (B x2), [], [], [], [], (B x2), []⟩]⟩ [c_ 15] (alc (cok0 false (a2c (.z .s) (a2c (.z .s) (a2c (.z .s) a2n))) (.z .s) (fun h => absurd h (by decide))) aln) (acal (spec_l01In.J (a0.size : Int) 1 12 _ hx2) nocal) ?_
      have h := Option.some.inj h
      subst h
      exact .fin0 [] (B x2) [] aln (.z .s)
theorem spec_l01Name.J (k : Nat) (a0 : ByteArray) (r : Bool) (h : spec_l01Name.f k a0 = some r) : J prog (.call 90 [(S a0)] [] (B r) []) := by
  unfold spec_l01Name.f at h
  have ih0 := spec_l01Name.lab k
  refine .call' [c_ 2, c_ 3] ?_
  refine .reg' [0] [] ⟨[(0, (S a0))], [], [], []⟩ [c_ 12, c_ 13, c_ 7] aln nocal ?_
  refine .reg' [0, 3] [] ⟨[(0, (S a0)), (3, (I 0))], [], [], []⟩ [l_ 26, b_ 0, c_ 7] aln nocal ?_
  exact ih0 a0 0 _ h
/-! spec_TripOk: function 72 -/
def spec_TripOk.l0 : Nat → S66 → Int → Option Bool
 | 0, _, _ => none
 | k + 1, a0, x3 => (if x3 < (a0.f1.length : Int) then (if 0 ≤ x3 then ((spec_l01In.f ((at_ a0.f1 x3).f0) 0 29).bind fun x4 => (if x4 = true then ((spec_l01In.f ((at_ a0.f1 x3).f2) 0 100000).bind fun x5 => (if x5 = true then ((spec_l01In.f ((at_ a0.f1 x3).f1) 0 ((at_ a0.f1 x3).f2)).bind fun x6 => (if x6 = true then (if x3 > 0 then (if 0 ≤ (wrap64 (x3 - 1)) then (if (wrap64 (x3 - 1)) < (a0.f1.length : Int) then (if (at_ a0.f1 (wrap64 (x3 - 1))).f2 ≥ (at_ a0.f1 x3).f1 then (some false) else (if (at_ a0.f1 (wrap64 (x3 - 1))).f0 = (at_ a0.f1 x3).f0 then (some false) else (spec_TripOk.l0 k a0 (wrap64 (x3 + 1))))) else none) else none) else (spec_TripOk.l0 k a0 (wrap64 (x3 + 1)))) else (some false))) else (some false))) else (some false))) else none) else (some true))
def spec_TripOk.f (k : Nat) (a0 : S66) : Option Bool := ((spec_l01Name.f k a0.f0).bind fun x1 => (if x1 = true then ((spec_l01In.f (a0.f1.length : Int) 2 12).bind fun x2 => (if x2 = true then (spec_TripOk.l0 k a0 0) else (some false))) else (some false)))
theorem spec_TripOk.lab : ∀ k, (∀ (a0 : S66) (x3 : Int) (r : Bool), spec_TripOk.l0 k a0 x3 = some r → J prog (.run 72 [] [l_ 58, b_ 0, c_ 15] [(1, (.pt 256 0 2)), (3, (I x3))] [(256, [(S a0.f0), (.sl true a0.f1.length 3 (a0.f1.flatMap e89))])] (B r) []))
 | 0 => (by intro a0 x3 r h; unfold spec_TripOk.l0 at h; cases h)
 | k + 1 => by
  have ih0 := spec_TripOk.lab k
  · intro a0 x3 r h
    unfold spec_TripOk.l0 at h
    refine .loop' [c_ 464, c_ 465, c_ 233, l_ 58, b_ 0, c_ 15] ?_
    refine .reg' [1, 3, 20] [] ⟨[(1, (.pt 256 0 2)), (3, (I x3)), (20, (B (decide (x3 < (a0.f1.length : Int)))))], [(256, [(S a0.f0), (.sl true a0.f1.length 3 (a0.f1.flatMap e89))])], [2 = 2 ∧ 1 + 1 ≤ 2], []⟩ [c_ 465, c_ 233, l_ 58, b_ 0, c_ 15] (alc ⟨rfl, by decide⟩ aln) nocal ?_
    by_cases c3 : x3 < (a0.f1.length : Int)
    · rw [if_pos c3] at h
      refine .cond' (.tmp 20) true [c_ 1864, c_ 1865, b_ 1, c_ 467, l_ 58, b_ 0, c_ 15] (bT (dT c3)) ?_
      by_cases c4 : 0 ≤ x3
      · rw [if_pos c4] at h
        refine .reg' [1, 3, 4] [.no, .no, .no, .no, .v (.ag [(I (at_ a0.f1 x3).f0), (I (at_ a0.f1 x3).f1), (I (at_ a0.f1 x3).f2)])] ⟨[(1, (.pt 256 0 2)), (3, (I x3)), (4, (.pt 1797 0 3))], [(256, [(S a0.f0), (.sl true a0.f1.length 3 (a0.f1.flatMap e89))]), (1797, [(I (at_ a0.f1 x3).f0), (I (at_ a0.f1 x3).f1), (I (at_ a0.f1 x3).f2)])], [2 = 2 ∧ 1 + 1 ≤ 2, (0 : Int) ≤ x3 ∧ x3 < (a0.f1.length : Int), rdC prog 90 ((a0.f1.flatMap e89).drop (x3.toNat * 3)) = (.ag [(I (at_ a0.f1 x3).f0), (I (at_ a0.f1 x3).f1), (I (at_ a0.f1 x3).f2)]), 3 ≤ ((a0.f1.flatMap e89).drop (x3.toNat * 3)).length, 3 = 3 ∧ 0 + 3 ≤ 3], []⟩ [c_ 7460, c_ 7461, c_ 3731, b_ 1, c_ 467, l_ 58, b_ 0, c_ 15] (alc ⟨rfl, by decide⟩ (alc ⟨c4, c3⟩ (alc (ldA e89_ok rfl rfl c4 c3) (alc (okI e89_ok c4 c3 (by decide)) (alc ⟨rfl, by decide⟩ aln))))) nocal ?_
        obtain ⟨x4, hx4, h⟩ := Option.bind_eq_some_iff.mp h
        by_cases c5 : x4 = true
        · rw [if_pos c5] at h
          obtain ⟨x5, hx5, h⟩ := Option.bind_eq_some_iff.mp h
          by_cases c6 : x5 = true
          · rw [if_pos c6] at h
            obtain ⟨x6, hx6, h⟩ := Option.bind_eq_some_iff.mp h
            refine .reg' [1, 3, 4, 45] [.no, .no, .c ⟨57, [(I (at_ a0.f1 x3).f0), (I 0), (I 29)], [], (B x4), [], [], [], [], (B x4), []⟩, .no, .v (B false), .no, .no, .c ⟨57, [(I (at_ a0.f1 x3).f2), (I 0), (I 100000)], [], (B x5), [], [], [], [], (B x5), []⟩, .no, .no, .v (B false), .no, .no, .no, .no, .c ⟨57, [(I (at_ a0.f1 x3).f1), (I 0), (I (at_ a0.f1 x3).f2)], [], (B x6), [], [], [], [], (B x6), []⟩] ⟨[(1, (.pt 256 0 2)), (3, (I x3)), (4, (.pt 1797 0 3)), (45, (B (!x6)))], [(256, [(S a0.f0), (.sl true a0.f1.length 3 (a0.f1.flatMap e89))]), (1797, [(I (at_ a0.f1 x3).f0), (I (at_ a0.f1 x3).f1), (I (at_ a0.f1 x3).f2)])], [3 = 3 ∧ 0 + 1 ≤ 3, COK (hget [(256, [(S a0.f0), (.sl true a0.f1.length 3 (a0.f1.flatMap e89))]), (1797, [(I (at_ a0.f1 x3).f0), (I (at_ a0.f1 x3).f1), (I (at_ a0.f1 x3).f2)])]) [(I (at_ a0.f1 x3).f0), (I 0), (I 29)] ⟨57, [(I (at_ a0.f1 x3).f0), (I 0), (I 29)], [], (B x4), [], [], [], [], (B x4), []⟩, (B (!x4) : V) = B false, 3 = 3 ∧ 2 + 1 ≤ 3, COK (hget [(256, [(S a0.f0), (.sl true a0.f1.length 3 (a0.f1.flatMap e89))]), (1797, [(I (at_ a0.f1 x3).f0), (I (at_ a0.f1 x3).f1), (I (at_ a0.f1 x3).f2)])]) [(I (at_ a0.f1 x3).f2), (I 0), (I 100000)] ⟨57, [(I (at_ a0.f1 x3).f2), (I 0), (I 100000)], [], (B x5), [], [], [], [], (B x5), []⟩, (B (!x5) : V) = B false, 3 = 3 ∧ 1 + 1 ≤ 3, 3 = 3 ∧ 2 + 1 ≤ 3, COK (hget [(256, [(S a0.f0), (.sl true a0.f1.length 3 (a0.f1.flatMap e89))]), (1797, [(I (at_ a0.f1 x3).f0), (I (at_ a0.f1 x3).f1), (I (at_ a0.f1 x3).f2)])]) [(I (at_ a0.f1 x3).f1), (I 0), (I (at_ a0.f1 x3).f2)] ⟨57, [(I (at_ a0.f1 x3).f1), (I 0), (I (at_ a0.f1 x3).f2)], [], (B x6), [], [], [], [], (B x6), []⟩], [⟨57, [(I (at_ a0.f1 x3).f0), (I 0), (I 29)], [], (B x4), [], [], [], [], (B x4), []⟩, ⟨57, [(I (at_ a0.f1 x3).f2), (I 0), (I 100000)], [], (B x5), [], [], [], [], (B x5), []⟩, ⟨57, [(I (at_ a0.f1 x3).f1), (I 0), (I (at_ a0.f1 x3).f2)], [], (B x6), [], [], [], [], (B x6), []⟩]⟩ [c_ 7461, c_ 3731, b_ 1, c_ 467, l_ 58, b_ 0, c_ 15] (alc ⟨rfl, by decide⟩ (alc (cok0 false (a2c (.z .s) (a2c (.z .s) (a2c (.z .s) a2n))) (.z .s) (fun h => absurd h (by decide))) (alc (bF (nF c5)) (alc ⟨rfl, by decide⟩ (alc (cok0 false (a2c (.z .s) (a2c (.z .s) (a2c (.z .s) a2n))) (.z .s) (fun h => absurd h (by decide))) (alc (bF (nF c6)) (alc ⟨rfl, by decide⟩ (alc ⟨rfl, by decide⟩ (alc (cok0 false (a2c (.z .s) (a2c (.z .s) (a2c (.z .s) a2n))) (.z .s) (fun h => absurd h (by decide))) aln))))))))) (acal (spec_l01In.J ((at_ a0.f1 x3).f0) 0 29 _ hx4) (acal (spec_l01In.J ((at_ a0.f1 x3).f2) 0 100000 _ hx5) (acal (spec_l01In.J ((at_ a0.f1 x3).f1) 0 ((at_ a0.f1 x3).f2) _ hx6) nocal))) ?_
            by_cases c7 : x6 = true
            · rw [if_pos c7] at h
              refine .cond' (.tmp 45) false [c_ 7462, c_ 7463, b_ 1, c_ 467, l_ 58, b_ 0, c_ 15] (bF (nF c7)) ?_
              by_cases c8 : x3 > 0
              · rw [if_pos c8] at h
                by_cases c9 : 0 ≤ (wrap64 (x3 - 1))
                · rw [if_pos c9] at h
                  by_cases c10 : (wrap64 (x3 - 1)) < (a0.f1.length : Int)
                  · rw [if_pos c10] at h
                    by_cases c11 : (at_ a0.f1 (wrap64 (x3 - 1))).f2 ≥ (at_ a0.f1 x3).f1
                    · rw [if_pos c11] at h
                      refine .reg' [1, 3, 71] [.no, .no, .v (B true), .no, .no, .no, .no, .no, .no, .v (I (at_ a0.f1 (wrap64 (x3 - 1))).f2), .no, .no, .no, .v (B true)] ⟨[(1, (.pt 256 0 2)), (3, (I x3)), (71, (B true))], [(256, [(S a0.f0), (.sl true a0.f1.length 3 (a0.f1.flatMap e89))]), (1797, [(I (at_ a0.f1 x3).f0), (I (at_ a0.f1 x3).f1), (I (at_ a0.f1 x3).f2)])], [(B (decide (x3 > 0)) : V) = B true, 2 = 2 ∧ 1 + 1 ≤ 2, (0 : Int) ≤ (wrap64 (x3 - 1)) ∧ (wrap64 (x3 - 1)) < (a0.f1.length : Int), rdC prog 3 (((a0.f1.flatMap e89).drop ((wrap64 (x3 - 1)).toNat * 3)).drop 2) = (I (at_ a0.f1 (wrap64 (x3 - 1))).f2), 1 ≤ (((a0.f1.flatMap e89).drop ((wrap64 (x3 - 1)).toNat * 3)).drop 2).length, 3 = 3 ∧ 1 + 1 ≤ 3, (B (decide ((at_ a0.f1 (wrap64 (x3 - 1))).f2 ≥ (at_ a0.f1 x3).f1)) : V) = B true], []⟩ [c_ 7463, b_ 1, c_ 467, l_ 58, b_ 0, c_ 15] (alc (bT (dT c8)) (alc ⟨rfl, by decide⟩ (alc ⟨c9, c10⟩ (alc (ldC e89_ok 2 (by decide) rfl c9 c10) (alc (okIj e89_ok c9 c10 (by decide)) (alc ⟨rfl, by decide⟩ (alc (bT (dT c11)) aln))))))) nocal ?_
                      refine .cond' (.tmp 71) true [c_ 29852, c_ 29853, b_ 1, c_ 467, l_ 58, b_ 0, c_ 15] (rfl) ?_
                      refine .reg' [2] [] ⟨[(2, (B false))], [(256, [(S a0.f0), (.sl true a0.f1.length 3 (a0.f1.flatMap e89))]), (1797, [(I (at_ a0.f1 x3).f0), (I (at_ a0.f1 x3).f1), (I (at_ a0.f1 x3).f2)])], [], []⟩ [c_ 29853, b_ 1, c_ 467, l_ 58, b_ 0, c_ 15] aln nocal ?_
                      have h := Option.some.inj h
                      subst h
                      exact .fin0 [] (B false) [] aln (.z .s)
                    · rw [if_neg c11] at h
                      refine .reg' [1, 3, 71] [.no, .no, .v (B true), .no, .no, .no, .no, .no, .no, .v (I (at_ a0.f1 (wrap64 (x3 - 1))).f2), .no, .no, .no, .v (B false), .no, .no, .no, .no, .no, .no, .v (I (at_ a0.f1 (wrap64 (x3 - 1))).f0)] ⟨[(1, (.pt 256 0 2)), (3, (I x3)), (71, (B ((at_ a0.f1 (wrap64 (x3 - 1))).f0 == (at_ a0.f1 x3).f0)))], [(256, [(S a0.f0), (.sl true a0.f1.length 3 (a0.f1.flatMap e89))]), (1797, [(I (at_ a0.f1 x3).f0), (I (at_ a0.f1 x3).f1), (I (at_ a0.f1 x3).f2)])], [(B (decide (x3 > 0)) : V) = B true, 2 = 2 ∧ 1 + 1 ≤ 2, (0 : Int) ≤ (wrap64 (x3 - 1)) ∧ (wrap64 (x3 - 1)) < (a0.f1.length : Int), rdC prog 3 (((a0.f1.flatMap e89).drop ((wrap64 (x3 - 1)).toNat * 3)).drop 2) = (I (at_ a0.f1 (wrap64 (x3 - 1))).f2), 1 ≤ (((a0.f1.flatMap e89).drop ((wrap64 (x3 - 1)).toNat * 3)).drop 2).length, 3 = 3 ∧ 1 + 1 ≤ 3, (B (decide ((at_ a0.f1 (wrap64 (x3 - 1))).f2 ≥ (at_ a0.f1 x3).f1)) : V) = B false, 2 = 2 ∧ 1 + 1 ≤ 2, (0 : Int) ≤ (wrap64 (x3 - 1)) ∧ (wrap64 (x3 - 1)) < (a0.f1.length : Int), rdC prog 3 (((a0.f1.flatMap e89).drop ((wrap64 (x3 - 1)).toNat * 3)).drop 0) = (I (at_ a0.f1 (wrap64 (x3 - 1))).f0), 1 ≤ (((a0.f1.flatMap e89).drop ((wrap64 (x3 - 1)).toNat * 3)).drop 0).length, 3 = 3 ∧ 0 + 1 ≤ 3], []⟩ [c_ 7463, b_ 1, c_ 467, l_ 58, b_ 0, c_ 15] (alc (bT (dT c8)) (alc ⟨rfl, by decide⟩ (alc ⟨c9, c10⟩ (alc (ldC e89_ok 2 (by decide) rfl c9 c10) (alc (okIj e89_ok c9 c10 (by decide)) (alc ⟨rfl, by decide⟩ (alc (bF (dF c11)) (alc ⟨rfl, by decide⟩ (alc ⟨c9, c10⟩ (alc (ldC e89_ok 0 (by decide) rfl c9 c10) (alc (okIj e89_ok c9 c10 (by decide)) (alc ⟨rfl, by decide⟩ aln)))))))))))) nocal ?_
                      by_cases c12 : (at_ a0.f1 (wrap64 (x3 - 1))).f0 = (at_ a0.f1 x3).f0
                      · rw [if_pos c12] at h
                        refine .cond' (.tmp 71) true [c_ 29852, c_ 29853, b_ 1, c_ 467, l_ 58, b_ 0, c_ 15] (bT (qT c12)) ?_
                        refine .reg' [2] [] ⟨[(2, (B false))], [(256, [(S a0.f0), (.sl true a0.f1.length 3 (a0.f1.flatMap e89))]), (1797, [(I (at_ a0.f1 x3).f0), (I (at_ a0.f1 x3).f1), (I (at_ a0.f1 x3).f2)])], [], []⟩ [c_ 29853, b_ 1, c_ 467, l_ 58, b_ 0, c_ 15] aln nocal ?_
                        have h := Option.some.inj h
                        subst h
                        exact .fin0 [] (B false) [] aln (.z .s)
                      · rw [if_neg c12] at h
                        refine .cond' (.tmp 71) false [c_ 467, l_ 58, b_ 0, c_ 15] (bF (qF c12)) ?_
                        refine .reg' [1, 3] [] ⟨[(1, (.pt 256 0 2)), (3, (I (wrap64 (x3 + 1))))], [(256, [(S a0.f0), (.sl true a0.f1.length 3 (a0.f1.flatMap e89))]), (1797, [(I (at_ a0.f1 x3).f0), (I (at_ a0.f1 x3).f1), (I (at_ a0.f1 x3).f2)])], [], []⟩ [l_ 58, b_ 0, c_ 15] aln nocal ?_
                        refine .wk' [] [(256, 256)] [(1, (.pt 256 0 2)), (3, (I (wrap64 (x3 + 1))))] [(256, [(S a0.f0), (.sl true a0.f1.length 3 (a0.f1.flatMap e89))])] (shc 256 (a2c (.z .s) (a2c (.z (frz_sl e89_ok (fun h => h))) a2n)) shn) (enc_ (.pt (memP_mem (p := (256, 256)) rfl)) (enc_ (.z .s) enn)) ?_
                        exact ih0 a0 (wrap64 (x3 + 1)) _ h
                  · rw [if_neg c10] at h
                    cases h
                · rw [if_neg c9] at h
                  cases h
              · rw [if_neg c8] at h
                refine .reg' [1, 3, 71] [.no, .no, .v (B false)] ⟨[(1, (.pt 256 0 2)), (3, (I x3)), (71, (B false))], [(256, [(S a0.f0), (.sl true a0.f1.length 3 (a0.f1.flatMap e89))]), (1797, [(I (at_ a0.f1 x3).f0), (I (at_ a0.f1 x3).f1), (I (at_ a0.f1 x3).f2)])], [(B (decide (x3 > 0)) : V) = B false], []⟩ [c_ 7463, b_ 1, c_ 467, l_ 58, b_ 0, c_ 15] (alc (bF (dF c8)) aln) nocal ?_
                refine .cond' (.tmp 71) false [c_ 467, l_ 58, b_ 0, c_ 15] (rfl) ?_
                refine .reg' [1, 3] [] ⟨[(1, (.pt 256 0 2)), (3, (I (wrap64 (x3 + 1))))], [(256, [(S a0.f0), (.sl true a0.f1.length 3 (a0.f1.flatMap e89))]), (1797, [(I (at_ a0.f1 x3).f0), (I (at_ a0.f1 x3).f1), (I (at_ a0.f1 x3).f2)])], [], []⟩ [l_ 58, b_ 0, c_ 15] aln nocal ?_
                refine .wk' [] [(256, 256)] [(1, (.pt 256 0 2)), (3, (I (wrap64 (x3 + 1))))] [(256, [(S a0.f0), (.sl true a0.f1.length 3 (a0.f1.flatMap e89))])] (shc 256 (a2c (.z .s) (a2c (.z (frz_sl e89_ok (fun h => h))) a2n)) shn) (enc_ (.pt (memP_mem (p := (256, 256)) rfl)) (enc_ (.z .s) enn)) ?_
                exact ih0 a0 (wrap64 (x3 + 1)) _ h
            · rw [if_neg c7] at h
              refine .cond' (.tmp 45) true [c_ 29844, c_ 29845, c_ 3731, b_ 1, c_ 467, l_ 58, b_ 0, c_ 15] (bT (nT (vF c7))) ?_
              refine .reg' [2] [] ⟨[(2, (B false))], [(256, [(S a0.f0), (.sl true a0.f1.length 3 (a0.f1.flatMap e89))]), (1797, [(I (at_ a0.f1 x3).f0), (I (at_ a0.f1 x3).f1), (I (at_ a0.f1 x3).f2)])], [], []⟩ [c_ 29845, c_ 3731, b_ 1, c_ 467, l_ 58, b_ 0, c_ 15] aln nocal ?_
              have h := Option.some.inj h
              subst h
              exact .fin0 [] (B false) [] aln (.z .s)
          · rw [if_neg c6] at h
            refine .reg' [1, 3, 4, 45] [.no, .no, .c ⟨57, [(I (at_ a0.f1 x3).f0), (I 0), (I 29)], [], (B x4), [], [], [], [], (B x4), []⟩, .no, .v (B false), .no, .no, .c ⟨57, [(I (at_ a0.f1 x3).f2), (I 0), (I 100000)], [], (B x5), [], [], [], [], (B x5), []⟩, .no, .no, .v (B true)] ⟨[(1, (.pt 256 0 2)), (3, (I x3)), (4, (.pt 1797 0 3)), (45, (B true))], [(256, [(S a0.f0), (.sl true a0.f1.length 3 (a0.f1.flatMap e89))]), (1797, [(I (at_ a0.f1 x3).f0), (I (at_ a0.f1 x3).f1), (I (at_ a0.f1 x3).f2)])], [3 = 3 ∧ 0 + 1 ≤ 3, COK (hget [(256, [(S a0.f0), (.sl true a0.f1.length 3 (a0.f1.flatMap e89))]), (1797, [(I (at_ a0.f1 x3).f0), (I (at_ a0.f1 x3).f1), (I (at_ a0.f1 x3).f2)])]) [(I (at_ a0.f1 x3).f0), (I 0), (I 29)] ⟨57, [(I (at_ a0.f1 x3).f0), (I 0), (I 29)], [], (B x4), [], [], [], [], (B x4), []⟩, (B (!x4) : V) = B false, 3 = 3 ∧ 2 + 1 ≤ 3, COK (hget [(256, [(S a0.f0), (.sl true a0.f1.length 3 (a0.f1.flatMap e89))]), (1797, [(I (at_ a0.f1 x3).f0), (I (at_ a0.f1 x3).f1), (I (at_ a0.f1 x3).f2)])]) [(I (at_ a0.f1 x3).f2), (I 0), (I 100000)] ⟨57, [(I (at_ a0.f1 x3).f2), (I 0), (I 100000)], [], (B x5), [], [], [], [], (B x5), []⟩, (B (!x5) : V) = B true], [⟨57, [(I (at_ a0.f1 x3).f0), (I 0), (I 29)], [], (B x4), [], [], [], [], (B x4), []⟩, ⟨57, [(I (at_ a0.f1 x3).f2), (I 0), (I 100000)], [], (B x5), [], [], [], [], (B x5), []⟩]⟩ [c_ 7461, c_ 3731, b_ 1, c_ 467, l_ 58, b_ 0, c_ 15] (alc ⟨rfl, by decide⟩ (alc (cok0 false (a2c (.z .s) (a2c (.z .s) (a2c (.z .s) a2n))) (.z .s) (fun h => absurd h (by decide))) (alc (bF (nF c5)) (alc ⟨rfl, by decide⟩ (alc (cok0 false (a2c (.z .s) (a2c (.z .s) (a2c (.z .s) a2n))) (.z .s) (fun h => absurd h (by decide))) (alc (bT (nT (vF c6))) aln)))))) (acal (spec_l01In.J ((at_ a0.f1 x3).f0) 0 29 _ hx4) (acal (spec_l01In.J ((at_ a0.f1 x3).f2) 0 100000 _ hx5) nocal)) ?_
            refine .cond' (.tmp 45) true [c_ 29844, c_ 29845, c_ 3731, b_ 1, c_ 467, l_ 58, b_ 0, c_ 15] (rfl) ?_
            refine .reg' [2] [] ⟨[(2, (B false))], [(256, [(S a0.f0), (.sl true a0.f1.length 3 (a0.f1.flatMap e89))]), (1797, [(I (at_ a0.f1 x3).f0), (I (at_ a0.f1 x3).f1), (I (at_ a0.f1 x3).f2)])], [], []⟩ [c_ 29845, c_ 3731, b_ 1, c_ 467, l_ 58, b_ 0, c_ 15] aln nocal ?_
            have h := Option.some.inj h
            subst h
            exact .fin0 [] (B false) [] aln (.z .s)
        · rw [if_neg c5] at h
          refine .reg' [1, 3, 4, 45] [.no, .no, .c ⟨57, [(I (at_ a0.f1 x3).f0), (I 0), (I 29)], [], (B x4), [], [], [], [], (B x4), []⟩, .no, .v (B true)] ⟨[(1, (.pt 256 0 2)), (3, (I x3)), (4, (.pt 1797 0 3)), (45, (B true))], [(256, [(S a0.f0), (.sl true a0.f1.length 3 (a0.f1.flatMap e89))]), (1797, [(I (at_ a0.f1 x3).f0), (I (at_ a0.f1 x3).f1), (I (at_ a0.f1 x3).f2)])], [3 = 3 ∧ 0 + 1 ≤ 3, COK (hget [(256, [(S a0.f0), (.sl true a0.f1.length 3 (a0.f1.flatMap e89))]), (1797, [(I (at_ a0.f1 x3).f0), (I (at_ a0.f1 x3).f1), (I (at_ a0.f1 x3).f2)])]) [(I (at_ a0.f1 x3).f0), (I 0), (I 29)] ⟨57, [(I (at_ a0.f1 x3).f0), (I 0), (I 29)], [], (B x4), [], [], [], [], (B x4), []⟩, (B (!x4) : V) = B true], [⟨57, [(I (at_ a0.f1 x3).f0), (I 0), (I 29)], [], (B x4), [], [], [], [], (B x4), []⟩]⟩ [c_ 7461, c_ 3731, b_ 1, c_ 467, l_ 58, b_ 0, c_ 15] (alc ⟨rfl, by decide⟩ (alc (cok0 false (a2c (.z .s) (a2c (.z .s) (a2c (.z .s) a2n))) (.z .s) (fun h => absurd h (by decide))) (alc (bT (nT (vF c5))) aln))) (acal (spec_l01In.J ((at_ a0.f1 x3).f0) 0 29 _ hx4) nocal) ?_
          refine .cond' (.tmp 45) true [c_ 29844, c_ 29845, c_ 3731, b_ 1, c_ 467, l_ 58, b_ 0, c_ 15] (rfl) ?_
          refine .reg' [2] [] ⟨[(2, (B false))], [(256, [(S a0.f0), (.sl true a0.f1.length 3 (a0.f1.flatMap e89))]), (1797, [(I (at_ a0.f1 x3).f0), (I (at_ a0.f1 x3).f1), (I (at_ a0.f1 x3).f2)])], [], []⟩ [c_ 29845, c_ 3731, b_ 1, c_ 467, l_ 58, b_ 0, c_ 15] aln nocal ?_
          have h := Option.some.inj h
          subst h
          exact .fin0 [] (B false) [] aln (.z .s)
      · rw [if_neg c4] at h
        cases h
    · rw [if_neg c3] at h
      refine .cond' (.tmp 20) false [c_ 30, c_ 31] (bF (dF c3)) ?_
      refine .reg' [2] [] ⟨[(2, (B true))], [(256, [(S a0.f0), (.sl true a0.f1.length 3 (a0.f1.flatMap e89))])], [], []⟩ [c_ 31] aln nocal ?_
      have h := Option.some.inj h
      subst h
      exact .fin0 [] (B true) [] aln (.z .s)
theorem spec_TripOk.J (k : Nat) (a0 : S66) (r : Bool) (h : spec_TripOk.f k a0 = some r) : J prog (.call 72 [(.ag [(S a0.f0), (.sl true a0.f1.length 3 (a0.f1.flatMap e89))])] [] (B r) []) := by
  unfold spec_TripOk.f at h
  have ih0 := spec_TripOk.lab k
  refine .call' [c_ 2, c_ 3] ?_
  refine .reg' [1] [] ⟨[(1, (.pt 256 0 2))], [(256, [(S a0.f0), (.sl true a0.f1.length 3 (a0.f1.flatMap e89))])], [], []⟩ [c_ 12, c_ 13, c_ 7] aln nocal ?_
  obtain ⟨x1, hx1, h⟩ := Option.bind_eq_some_iff.mp h
  by_cases c1 : x1 = true
  · rw [if_pos c1] at h
    obtain ⟨x2, hx2, h⟩ := Option.bind_eq_some_iff.mp h
    refine .reg' [1, 15] [.no, .no, .c ⟨90, [(S a0.f0)], [], (B x1), [], [], [], [], (B x1), []⟩, .no, .v (B false), .no, .no, .no, .c ⟨57, [(I (a0.f1.length : Int)), (I 2), (I 12)], [], (B x2), [], [], [], [], (B x2), []⟩] ⟨[(1, (.pt 256 0 2)), (15, (B (!x2)))], [(256, [(S a0.f0), (.sl true a0.f1.length 3 (a0.f1.flatMap e89))])], [2 = 2 ∧ 0 + 1 ≤ 2, COK (hget [(256, [(S a0.f0), (.sl true a0.f1.length 3 (a0.f1.flatMap e89))])]) [(S a0.f0)] ⟨90, [(S a0.f0)], [], (B x1), [], [], [], [], (B x1), []⟩, (B (!x1) : V) = B false, 2 = 2 ∧ 1 + 1 ≤ 2, COK (hget [(256, [(S a0.f0), (.sl true a0.f1.length 3 (a0.f1.flatMap e89))])]) [(I (a0.f1.length : Int)), (I 2), (I 12)] ⟨57, [(I (a0.f1.length : Int)), (I 2), (I 12)], [], (B x2), [], [], [], [], (B x2), []⟩], [⟨90, [(S a0.f0)], [], (B x1), [], [], [], [], (B x1), []⟩, ⟨57, [(I (a0.f1.length : Int)), (I 2), (I 12)], [], (B x2), [], [], [], [], (B x2), []⟩]⟩ [c_ 13, c_ 7] (alc ⟨rfl, by decide⟩ (alc (cok0 false (a2c (.z .s) a2n) (.z .s) (fun h => absurd h (by decide))) (alc (bF (nF c1)) (alc ⟨rfl, by decide⟩ (alc (cok0 false (a2c (.z .s) (a2c (.z .s) (a2c (.z .s) a2n))) (.z .s) (fun h => absurd h (by decide))) aln))))) (acal (spec_l01Name.J k a0.f0 _ hx1) (acal (spec_l01In.J (a0.f1.length : Int) 2 12 _ hx2) nocal)) ?_
    by_cases c2 : x2 = true
    · rw [if_pos c2] at h
      refine .cond' (.tmp 15) false [c_ 28, c_ 29, c_ 15] (bF (nF c2)) ?_
      refine .reg' [1, 3] [] ⟨[(1, (.pt 256 0 2)), (3, (I 0))], [(256, [(S a0.f0), (.sl true a0.f1.length 3 (a0.f1.flatMap e89))])], [], []⟩ [l_ 58, b_ 0, c_ 15] aln nocal ?_
      exact ih0 a0 0 _ h
    · rw [if_neg c2] at h
      refine .cond' (.tmp 15) true [c_ 52, c_ 53, c_ 7] (bT (nT (vF c2))) ?_
      refine .reg' [2] [] ⟨[(2, (B false))], [(256, [(S a0.f0), (.sl true a0.f1.length 3 (a0.f1.flatMap e89))])], [], []⟩ [c_ 53, c_ 7] aln nocal ?_
      have h := Option.some.inj h
      subst h
      exact .fin0 [] (B false) [] aln (.z .s)
  · rw [if_neg c1] at h
    refine .reg' [1, 15] [.no, .no, .c ⟨90, [(S a0.f0)], [], (B x1), [], [], [], [], (B x1), []⟩, .no, .v (B true)] ⟨[(1, (.pt 256 0 2)), (15, (B true))], [(256, [(S a0.f0), (.sl true a0.f1.length 3 (a0.f1.flatMap e89))])], [2 = 2 ∧ 0 + 1 ≤ 2, COK (hget [(256, [(S a0.f0), (.sl true a0.f1.length 3 (a0.f1.flatMap e89))])]) [(S a0.f0)] ⟨90, [(S a0.f0)], [], (B x1), [], [], [], [], (B x1), []⟩, (B (!x1) : V) = B true], [⟨90, [(S a0.f0)], [], (B x1), [], [], [], [], (B x1), []⟩]⟩ [c_ 13, c_ 7] (alc ⟨rfl, by decide⟩ (alc (cok0 false (a2c (.z .s) a2n) (.z .s) (fun h => absurd h (by decide))) (alc (bT (nT (vF c1))) aln))) (acal (spec_l01Name.J k a0.f0 _ hx1) nocal) ?_
    refine .cond' (.tmp 15) true [c_ 52, c_ 53, c_ 7] (rfl) ?_
    refine .reg' [2] [] ⟨[(2, (B false))], [(256, [(S a0.f0), (.sl true a0.f1.length 3 (a0.f1.flatMap e89))])], [], []⟩ [c_ 53, c_ 7] aln nocal ?_
    have h := Option.some.inj h
    subst h
    exact .fin0 [] (B false) [] aln (.z .s)
/-! spec_TableOk: function 63 -/
mutual
def spec_TableOk.l0 : Nat → (List S66) → Int → Option Bool
 | 0, _, _ => none
 | k + 1, a0, x1 => (if x1 < (a0.length : Int) then (if 0 ≤ x1 then ((spec_TripOk.f k (at_ a0 x1)).bind fun x2 => (if x2 = true then (spec_TableOk.l1 k a0 x1 0) else (some false))) else none) else (some true))
def spec_TableOk.l1 : Nat → (List S66) → Int → Int → Option Bool
 | 0, _, _, _ => none
 | k + 1, a0, x1, x3 => (if x3 < x1 then (if 0 ≤ x3 then (if x3 < (a0.length : Int) then (if 0 ≤ x1 then (if x1 < (a0.length : Int) then (if (sEq (at_ a0 x3).f0 (at_ a0 x1).f0) = true then (some false) else (spec_TableOk.l1 k a0 x1 (wrap64 (x3 + 1)))) else none) else none) else none) else none) else (spec_TableOk.l0 k a0 (wrap64 (x1 + 1))))
end
def spec_TableOk.f (k : Nat) (a0 : (List S66)) : Option Bool := (if (a0.length : Int) > 24 then (some false) else (spec_TableOk.l0 k a0 0))
theorem spec_TableOk.lab : ∀ k, (∀ (a0 : (List S66)) (x1 : Int) (r : Bool), spec_TableOk.l0 k a0 x1 = some r → J prog (.run 63 [] [l_ 58, b_ 0, c_ 15] [(0, (.sl true a0.length 2 (a0.flatMap (e66 true)))), (3, (I x1))] [] (B r) [])) ∧ (∀ (a0 : (List S66)) (x1 : Int) (x3 : Int) (r : Bool), spec_TableOk.l1 k a0 x1 x3 = some r → J prog (.run 63 [] [l_ 7462, b_ 2, b_ 1, c_ 467, l_ 58, b_ 0, c_ 15] [(0, (.sl true a0.length 2 (a0.flatMap (e66 true)))), (3, (I x1)), (4, (I x3))] [] (B r) []))
 | 0 => ⟨(by intro a0 x1 r h; unfold spec_TableOk.l0 at h; cases h), (by intro a0 x1 x3 r h; unfold spec_TableOk.l1 at h; cases h)⟩
 | k + 1 => by
  obtain ⟨ih0, ih1⟩ := spec_TableOk.lab k
  refine ⟨?_, ?_⟩
  · intro a0 x1 r h
    unfold spec_TableOk.l0 at h
    refine .loop' [c_ 464, c_ 465, c_ 233, l_ 58, b_ 0, c_ 15] ?_
    refine .reg' [0, 3, 11] [] ⟨[(0, (.sl true a0.length 2 (a0.flatMap (e66 true)))), (3, (I x1)), (11, (B (decide (x1 < (a0.length : Int)))))], [], [], []⟩ [c_ 465, c_ 233, l_ 58, b_ 0, c_ 15] aln nocal ?_
    by_cases c2 : x1 < (a0.length : Int)
    · rw [if_pos c2] at h
      refine .cond' (.tmp 11) true [c_ 3728, c_ 3729, c_ 1865, b_ 1, c_ 467, l_ 58, b_ 0, c_ 15] (bT (dT c2)) ?_
      by_cases c3 : 0 ≤ x1
      · rw [if_pos c3] at h
        obtain ⟨x2, hx2, h⟩ := Option.bind_eq_some_iff.mp h
        refine .reg' [0, 3, 19] [.no, .no, .no, .v (.ag [(S (at_ a0 x1).f0), (.sl true (at_ a0 x1).f1.length 3 ((at_ a0 x1).f1.flatMap e89))]), .c ⟨72, [(.ag [(S (at_ a0 x1).f0), (.sl true (at_ a0 x1).f1.length 3 ((at_ a0 x1).f1.flatMap e89))])], [], (B x2), [], [], [], [], (B x2), []⟩] ⟨[(0, (.sl true a0.length 2 (a0.flatMap (e66 true)))), (3, (I x1)), (19, (B (!x2)))], [], [(0 : Int) ≤ x1 ∧ x1 < (a0.length : Int), rdC prog 67 ((a0.flatMap (e66 true)).drop (x1.toNat * 2)) = (.ag [(S (at_ a0 x1).f0), (.sl true (at_ a0 x1).f1.length 3 ((at_ a0 x1).f1.flatMap e89))]), 2 ≤ ((a0.flatMap (e66 true)).drop (x1.toNat * 2)).length, COK (hget []) [(.ag [(S (at_ a0 x1).f0), (.sl true (at_ a0 x1).f1.length 3 ((at_ a0 x1).f1.flatMap e89))])] ⟨72, [(.ag [(S (at_ a0 x1).f0), (.sl true (at_ a0 x1).f1.length 3 ((at_ a0 x1).f1.flatMap e89))])], [], (B x2), [], [], [], [], (B x2), []⟩], [⟨72, [(.ag [(S (at_ a0 x1).f0), (.sl true (at_ a0 x1).f1.length 3 ((at_ a0 x1).f1.flatMap e89))])], [], (B x2), [], [], [], [], (B x2), []⟩]⟩ [c_ 3729, c_ 1865, b_ 1, c_ 467, l_ 58, b_ 0, c_ 15] (alc ⟨c3, c2⟩ (alc (ldA (e66_ok true) rfl rfl c3 c2) (alc (okI (e66_ok true) c3 c2 (by decide)) (alc (cok0 false (a2c (.z (frz_ag (a2c .s (a2c (frz_sl e89_ok (fun h => h)) a2n)))) a2n) (.z .s) (fun h => absurd h (by decide))) aln)))) (acal (spec_TripOk.J k (at_ a0 x1) _ hx2) nocal) ?_
        by_cases c4 : x2 = true
        · rw [if_pos c4] at h
          refine .cond' (.tmp 19) false [c_ 3730, c_ 3731, b_ 1, c_ 467, l_ 58, b_ 0, c_ 15] (bF (nF c4)) ?_
          refine .reg' [0, 3, 4] [] ⟨[(0, (.sl true a0.length 2 (a0.flatMap (e66 true)))), (3, (I x1)), (4, (I 0))], [], [], []⟩ [l_ 7462, b_ 2, b_ 1, c_ 467, l_ 58, b_ 0, c_ 15] aln nocal ?_
          exact ih1 a0 x1 0 _ h
        · rw [if_neg c4] at h
          refine .cond' (.tmp 19) true [c_ 14916, c_ 14917, c_ 1865, b_ 1, c_ 467, l_ 58, b_ 0, c_ 15] (bT (nT (vF c4))) ?_
          refine .reg' [2] [] ⟨[(2, (B false))], [], [], []⟩ [c_ 14917, c_ 1865, b_ 1, c_ 467, l_ 58, b_ 0, c_ 15] aln nocal ?_
          have h := Option.some.inj h
          subst h
          exact .fin0 [] (B false) [] aln (.z .s)
      · rw [if_neg c3] at h
        cases h
    · rw [if_neg c2] at h
      refine .cond' (.tmp 11) false [c_ 30, c_ 31] (bF (dF c2)) ?_
      refine .reg' [2] [] ⟨[(2, (B true))], [], [], []⟩ [c_ 31] aln nocal ?_
      have h := Option.some.inj h
      subst h
      exact .fin0 [] (B true) [] aln (.z .s)
  · intro a0 x1 x3 r h
    unfold spec_TableOk.l1 at h
    refine .loop' [c_ 59696, c_ 59697, c_ 29849, l_ 7462, b_ 2, b_ 1, c_ 467, l_ 58, b_ 0, c_ 15] ?_
    refine .reg' [0, 3, 4, 22] [] ⟨[(0, (.sl true a0.length 2 (a0.flatMap (e66 true)))), (3, (I x1)), (4, (I x3)), (22, (B (decide (x3 < x1))))], [], [], []⟩ [c_ 59697, c_ 29849, l_ 7462, b_ 2, b_ 1, c_ 467, l_ 58, b_ 0, c_ 15] aln nocal ?_
    by_cases c5 : x3 < x1
    · rw [if_pos c5] at h
      refine .cond' (.tmp 22) true [c_ 238792, c_ 238793, b_ 3, c_ 59699, l_ 7462, b_ 2, b_ 1, c_ 467, l_ 58, b_ 0, c_ 15] (bT (dT c5)) ?_
      by_cases c6 : 0 ≤ x3
      · rw [if_pos c6] at h
        by_cases c7 : x3 < (a0.length : Int)
        · rw [if_pos c7] at h
          by_cases c8 : 0 ≤ x1
          · rw [if_pos c8] at h
            by_cases c9 : x1 < (a0.length : Int)
            · rw [if_pos c9] at h
              refine .reg' [0, 3, 4, 35] [.no, .no, .no, .no, .v (S (at_ a0 x3).f0), .no, .no, .no, .no, .v (S (at_ a0 x1).f0)] ⟨[(0, (.sl true a0.length 2 (a0.flatMap (e66 true)))), (3, (I x1)), (4, (I x3)), (35, (B (sEq (at_ a0 x3).f0 (at_ a0 x1).f0)))], [], [(0 : Int) ≤ x3 ∧ x3 < (a0.length : Int), rdC prog 9 (((a0.flatMap (e66 true)).drop (x3.toNat * 2)).drop 0) = (S (at_ a0 x3).f0), 1 ≤ (((a0.flatMap (e66 true)).drop (x3.toNat * 2)).drop 0).length, (0 : Int) ≤ x1 ∧ x1 < (a0.length : Int), rdC prog 9 (((a0.flatMap (e66 true)).drop (x1.toNat * 2)).drop 0) = (S (at_ a0 x1).f0), 1 ≤ (((a0.flatMap (e66 true)).drop (x1.toNat * 2)).drop 0).length], []⟩ [c_ 238793, b_ 3, c_ 59699, l_ 7462, b_ 2, b_ 1, c_ 467, l_ 58, b_ 0, c_ 15] (alc ⟨c6, c7⟩ (alc (ldC (e66_ok true) 0 (by decide) rfl c6 c7) (alc (okIj (e66_ok true) c6 c7 (by decide)) (alc ⟨c8, c9⟩ (alc (ldC (e66_ok true) 0 (by decide) rfl c8 c9) (alc (okIj (e66_ok true) c8 c9 (by decide)) aln)))))) nocal ?_
              by_cases c10 : (sEq (at_ a0 x3).f0 (at_ a0 x1).f0) = true
              · rw [if_pos c10] at h
                refine .cond' (.tmp 35) true [c_ 955172, c_ 955173, b_ 3, c_ 59699, l_ 7462, b_ 2, b_ 1, c_ 467, l_ 58, b_ 0, c_ 15] (bT c10) ?_
                refine .reg' [2] [] ⟨[(2, (B false))], [], [], []⟩ [c_ 955173, b_ 3, c_ 59699, l_ 7462, b_ 2, b_ 1, c_ 467, l_ 58, b_ 0, c_ 15] aln nocal ?_
                have h := Option.some.inj h
                subst h
                exact .fin0 [] (B false) [] aln (.z .s)
              · rw [if_neg c10] at h
                refine .cond' (.tmp 35) false [c_ 59699, l_ 7462, b_ 2, b_ 1, c_ 467, l_ 58, b_ 0, c_ 15] (bF (vF c10)) ?_
                refine .reg' [0, 3, 4] [] ⟨[(0, (.sl true a0.length 2 (a0.flatMap (e66 true)))), (3, (I x1)), (4, (I (wrap64 (x3 + 1))))], [], [], []⟩ [l_ 7462, b_ 2, b_ 1, c_ 467, l_ 58, b_ 0, c_ 15] aln nocal ?_
                exact ih1 a0 x1 (wrap64 (x3 + 1)) _ h
            · rw [if_neg c9] at h
              cases h
          · rw [if_neg c8] at h
            cases h
        · rw [if_neg c7] at h
          cases h
      · rw [if_neg c6] at h
        cases h
    · rw [if_neg c5] at h
      refine .cond' (.tmp 22) false [c_ 467, l_ 58, b_ 0, c_ 15] (bF (dF c5)) ?_
      refine .reg' [0, 3] [] ⟨[(0, (.sl true a0.length 2 (a0.flatMap (e66 true)))), (3, (I (wrap64 (x1 + 1))))], [], [], []⟩ [l_ 58, b_ 0, c_ 15] aln nocal ?_
      exact ih0 a0 (wrap64 (x1 + 1)) _ h
theorem spec_TableOk.J (k : Nat) (a0 : (List S66)) (r : Bool) (h : spec_TableOk.f k a0 = some r) : J prog (.call 63 [(.sl true a0.length 2 (a0.flatMap (e66 true)))] [] (B r) []) := by
  unfold spec_TableOk.f at h
  obtain ⟨ih0, ih1⟩ := spec_TableOk.lab k
  refine .call' [c_ 2, c_ 3] ?_
  refine .reg' [0] [] ⟨[(0, (.sl true a0.length 2 (a0.flatMap (e66 true))))], [], [], []⟩ [c_ 12, c_ 13, c_ 7] aln nocal ?_
  refine .reg' [0, 7] [] ⟨[(0, (.sl true a0.length 2 (a0.flatMap (e66 true)))), (7, (B (decide ((a0.length : Int) > 24))))], [], [], []⟩ [c_ 13, c_ 7] aln nocal ?_
  by_cases c1 : (a0.length : Int) > 24
  · rw [if_pos c1] at h
    refine .cond' (.tmp 7) true [c_ 52, c_ 53, c_ 7] (bT (dT c1)) ?_
    refine .reg' [2] [] ⟨[(2, (B false))], [], [], []⟩ [c_ 53, c_ 7] aln nocal ?_
    have h := Option.some.inj h
    subst h
    exact .fin0 [] (B false) [] aln (.z .s)
  · rw [if_neg c1] at h
    refine .cond' (.tmp 7) false [c_ 28, c_ 29, c_ 15] (bF (dF c1)) ?_
    refine .reg' [0, 3] [] ⟨[(0, (.sl true a0.length 2 (a0.flatMap (e66 true)))), (3, (I 0))], [], [], []⟩ [l_ 58, b_ 0, c_ 15] aln nocal ?_
    exact ih0 a0 0 _ h
/-! spec_l09Edge: function 64 -/
def spec_l09Edge.l0 : Nat → S46 → Int → Int → Int → Option Int
 | 0, _, _, _, _ => none
 | k + 1, a0, a1, a2, x1 => (if x1 < (a0.f1.length : Int) then (if 0 ≤ x1 then ((spec_l02Other.f (at_ a0.f1 x1) a1).bind fun x2 => (if x2 = a2 then (some x1) else (spec_l09Edge.l0 k a0 a1 a2 (wrap64 (x1 + 1))))) else none) else (some (-1)))
def spec_l09Edge.f (k : Nat) (a0 : S46) (a1 : Int) (a2 : Int) : Option Int := (spec_l09Edge.l0 k a0 a1 a2 0)
end Go.Proofs.Ytebgaiokpncacaa.Fns
