/- The functions that the law FnExactLegsOk reaches, by the engine. Printed by a program of this seat. -/
import Derived.Test.YtjfjifnmfnlfoaaE5
import Derived.Test.YtjfjifnmfnlfoaaProg
import Derived.Test.YtjfjifnmfnlfoaaFFnExactLegsOkx1
namespace Go.Proofs.Ytjfjifnmfnlfoaa.Fns
open Go.Proofs.Try Go.Proofs.Ytjfjifnmfnlfoaa.Eng Go.RowKit
set_option maxRecDepth 100000
set_option linter.unusedVariables false
set_option linter.unusedSimpArgs false
theorem impl_TableOk.lab : ∀ k, (∀ (a0 : (List S105)) (x1 : Int) (r : Bool), impl_TableOk.l0 k a0 x1 = some r → J prog (.run 74 [] [l_ 58, b_ 0, c_ 15] [(0, (.sl true a0.length 2 (a0.flatMap (e105 true)))), (8, (.sl true a0.length 2 (a0.flatMap (e105 true)))), (9, (I (a0.length : Int))), (10, (I x1))] [] (B r) []))
 | 0 => (by intro a0 x1 r h; unfold impl_TableOk.l0 at h; cases h)
 | k + 1 => by
  have ih0 := impl_TableOk.lab k
  · intro a0 x1 r h
    unfold impl_TableOk.l0 at h
    refine .loop' [c_ 232, c_ 233, l_ 58, b_ 0, c_ 15] ?_
    refine .reg' [0, 8, 9, 10, 11] [] ⟨[(0, (.sl true a0.length 2 (a0.flatMap (e105 true)))), (8, (.sl true a0.length 2 (a0.flatMap (e105 true)))), (9, (I (a0.length : Int))), (10, (I x1)), (11, (B (decide (x1 < (a0.length : Int)))))], [], [], []⟩ [c_ 466, c_ 467, l_ 58, b_ 0, c_ 15] aln nocal ?_
    by_cases c2 : x1 < (a0.length : Int)
    · rw [if_pos c2] at h
      refine .cond' (.tmp 11) true [c_ 3736, c_ 3737, b_ 1, c_ 935, l_ 58, b_ 0, c_ 15] (bT (dT c2)) ?_
      by_cases c3 : 0 ≤ x1
      · rw [if_pos c3] at h
        refine .reg' [0, 3, 4, 8, 9, 10] [.no, .no, .v (.ag [(S (at_ a0 x1).f0), (.sl true (at_ a0 x1).f1.length 3 ((at_ a0 x1).f1.flatMap e107))])] ⟨[(0, (.sl true a0.length 2 (a0.flatMap (e105 true)))), (3, (I x1)), (4, (.pt 1539 0 2)), (8, (.sl true a0.length 2 (a0.flatMap (e105 true)))), (9, (I (a0.length : Int))), (10, (I x1))], [(1539, [(S (at_ a0 x1).f0), (.sl true (at_ a0 x1).f1.length 3 ((at_ a0 x1).f1.flatMap e107))])], [(0 : Int) ≤ x1 ∧ x1 < (a0.length : Int), rdC prog 106 ((a0.flatMap (e105 true)).drop (x1.toNat * 2)) = (.ag [(S (at_ a0 x1).f0), (.sl true (at_ a0 x1).f1.length 3 ((at_ a0 x1).f1.flatMap e107))]), 2 ≤ ((a0.flatMap (e105 true)).drop (x1.toNat * 2)).length, 2 = 2 ∧ 0 + 2 ≤ 2], []⟩ [c_ 7474, c_ 7475, b_ 1, c_ 935, l_ 58, b_ 0, c_ 15] (alc ⟨c3, c2⟩ (alc (ldA (e105_ok true) rfl rfl c3 c2) (alc (okI (e105_ok true) c3 c2 (by decide)) (alc ⟨rfl, by decide⟩ aln)))) nocal ?_
        obtain ⟨x2, hx2, h⟩ := Option.bind_eq_some_iff.mp h
        by_cases c4 : x2 = true
        · rw [if_pos c4] at h
          by_cases c5 : x1 ≤ (a0.length : Int)
          · rw [if_pos c5] at h
            obtain ⟨x3, hx3, h⟩ := Option.bind_eq_some_iff.mp h
            refine .reg' [0, 8, 9, 10, 26] [.no, .c ⟨106, [(.ag [(S (at_ a0 x1).f0), (.sl true (at_ a0 x1).f1.length 3 ((at_ a0 x1).f1.flatMap e107))])], [], (B x2), [], [], [], [], (B x2), []⟩, .no, .v (B false), .no, .no, .v (.sl true ((a0.drop (0 : Int).toNat).take (x1.toNat - (0 : Int).toNat)).length 2 (((a0.drop (0 : Int).toNat).take (x1.toNat - (0 : Int).toNat)).flatMap (e105 true))), .no, .no, .c ⟨107, [(.sl true ((a0.drop (0 : Int).toNat).take (x1.toNat - (0 : Int).toNat)).length 2 (((a0.drop (0 : Int).toNat).take (x1.toNat - (0 : Int).toNat)).flatMap (e105 true))), (S (at_ a0 x1).f0)], [], (I x3), [], [], [], [], (I x3), []⟩] ⟨[(0, (.sl true a0.length 2 (a0.flatMap (e105 true)))), (8, (.sl true a0.length 2 (a0.flatMap (e105 true)))), (9, (I (a0.length : Int))), (10, (I x1)), (26, (B (decide (x3 ≥ 0))))], [(1539, [(S (at_ a0 x1).f0), (.sl true (at_ a0 x1).f1.length 3 ((at_ a0 x1).f1.flatMap e107))])], [2 = 2 ∧ 0 + 2 ≤ 2, COK (hget [(1539, [(S (at_ a0 x1).f0), (.sl true (at_ a0 x1).f1.length 3 ((at_ a0 x1).f1.flatMap e107))])]) [(.ag [(S (at_ a0 x1).f0), (.sl true (at_ a0 x1).f1.length 3 ((at_ a0 x1).f1.flatMap e107))])] ⟨106, [(.ag [(S (at_ a0 x1).f0), (.sl true (at_ a0 x1).f1.length 3 ((at_ a0 x1).f1.flatMap e107))])], [], (B x2), [], [], [], [], (B x2), []⟩, (B (!x2) : V) = B false, V.sl true (x1.toNat - (0 : Int).toNat) 2 (((a0.flatMap (e105 true)).drop ((0 : Int).toNat * 2)).take ((x1.toNat - (0 : Int).toNat) * 2)) = (.sl true ((a0.drop (0 : Int).toNat).take (x1.toNat - (0 : Int).toNat)).length 2 (((a0.drop (0 : Int).toNat).take (x1.toNat - (0 : Int).toNat)).flatMap (e105 true))), 0 ≤ (0 : Int) ∧ 0 ≤ x1 ∧ x1 ≤ (a0.length : Int), 2 = 2 ∧ 0 + 1 ≤ 2, COK (hget [(1539, [(S (at_ a0 x1).f0), (.sl true (at_ a0 x1).f1.length 3 ((at_ a0 x1).f1.flatMap e107))])]) [(.sl true ((a0.drop (0 : Int).toNat).take (x1.toNat - (0 : Int).toNat)).length 2 (((a0.drop (0 : Int).toNat).take (x1.toNat - (0 : Int).toNat)).flatMap (e105 true))), (S (at_ a0 x1).f0)] ⟨107, [(.sl true ((a0.drop (0 : Int).toNat).take (x1.toNat - (0 : Int).toNat)).length 2 (((a0.drop (0 : Int).toNat).take (x1.toNat - (0 : Int).toNat)).flatMap (e105 true))), (S (at_ a0 x1).f0)], [], (I x3), [], [], [], [], (I x3), []⟩], [⟨106, [(.ag [(S (at_ a0 x1).f0), (.sl true (at_ a0 x1).f1.length 3 ((at_ a0 x1).f1.flatMap e107))])], [], (B x2), [], [], [], [], (B x2), []⟩, ⟨107, [(.sl true ((a0.drop (0 : Int).toNat).take (x1.toNat - (0 : Int).toNat)).length 2 (((a0.drop (0 : Int).toNat).take (x1.toNat - (0 : Int).toNat)).flatMap (e105 true))), (S (at_ a0 x1).f0)], [], (I x3), [], [], [], [], (I x3), []⟩]⟩ [c_ 7475, b_ 1, c_ 935, l_ 58, b_ 0, c_ 15] (alc ⟨rfl, by decide⟩ (alc (cok0 false (a2c (.z (frz_ag (a2c .s (a2c (frz_sl e107_ok (fun h => h)) a2n)))) a2n) (.z .s) (fun h => absurd h (by decide))) (alc (bF (nF c4)) (alc (slS (e105_ok true) (by omega) (by omega)) (alc ⟨(by decide), c3, c5⟩ (alc ⟨rfl, by decide⟩ (alc (cok0 false (a2c (.z (frz_sl (e105_ok true) (fun h => h))) (a2c (.z .s) a2n)) (.z .s) (fun h => absurd h (by decide))) aln))))))) (acal (impl_TripOk.J k (at_ a0 x1) _ hx2) (acal (impl_tripNamed.J k ((a0.drop (0 : Int).toNat).take (x1.toNat - (0 : Int).toNat)) ((at_ a0 x1).f0) _ hx3) nocal)) ?_
            by_cases c6 : x3 ≥ 0
            · rw [if_pos c6] at h
              refine .cond' (.tmp 26) true [c_ 29900, c_ 29901, b_ 1, c_ 935, l_ 58, b_ 0, c_ 15] (bT (dT c6)) ?_
              refine .reg' [2] [] ⟨[(2, (B false))], [(1539, [(S (at_ a0 x1).f0), (.sl true (at_ a0 x1).f1.length 3 ((at_ a0 x1).f1.flatMap e107))])], [], []⟩ [c_ 29901, b_ 1, c_ 935, l_ 58, b_ 0, c_ 15] aln nocal ?_
              have h := Option.some.inj h
              subst h
              exact .fin0 [] (B false) [] aln (.z .s)
            · rw [if_neg c6] at h
              refine .cond' (.tmp 26) false [c_ 935, l_ 58, b_ 0, c_ 15] (bF (dF c6)) ?_
              refine .reg' [0, 8, 9, 10] [] ⟨[(0, (.sl true a0.length 2 (a0.flatMap (e105 true)))), (8, (.sl true a0.length 2 (a0.flatMap (e105 true)))), (9, (I (a0.length : Int))), (10, (I (wrap64 (x1 + 1))))], [(1539, [(S (at_ a0 x1).f0), (.sl true (at_ a0 x1).f1.length 3 ((at_ a0 x1).f1.flatMap e107))])], [], []⟩ [l_ 58, b_ 0, c_ 15] aln nocal ?_
              refine .wk' [] [] [(0, (.sl true a0.length 2 (a0.flatMap (e105 true)))), (8, (.sl true a0.length 2 (a0.flatMap (e105 true)))), (9, (I (a0.length : Int))), (10, (I (wrap64 (x1 + 1))))] [] shn (enc_ (.z (frz_sl (e105_ok true) (fun h => h))) (enc_ (.z (frz_sl (e105_ok true) (fun h => h))) (enc_ (.z .s) (enc_ (.z .s) enn)))) ?_
              exact ih0 a0 (wrap64 (x1 + 1)) _ h
          · rw [if_neg c5] at h
            cases h
        · rw [if_neg c4] at h
          refine .reg' [0, 8, 9, 10, 26] [.no, .c ⟨106, [(.ag [(S (at_ a0 x1).f0), (.sl true (at_ a0 x1).f1.length 3 ((at_ a0 x1).f1.flatMap e107))])], [], (B x2), [], [], [], [], (B x2), []⟩, .no, .v (B true)] ⟨[(0, (.sl true a0.length 2 (a0.flatMap (e105 true)))), (8, (.sl true a0.length 2 (a0.flatMap (e105 true)))), (9, (I (a0.length : Int))), (10, (I x1)), (26, (B true))], [(1539, [(S (at_ a0 x1).f0), (.sl true (at_ a0 x1).f1.length 3 ((at_ a0 x1).f1.flatMap e107))])], [2 = 2 ∧ 0 + 2 ≤ 2, COK (hget [(1539, [(S (at_ a0 x1).f0), (.sl true (at_ a0 x1).f1.length 3 ((at_ a0 x1).f1.flatMap e107))])]) [(.ag [(S (at_ a0 x1).f0), (.sl true (at_ a0 x1).f1.length 3 ((at_ a0 x1).f1.flatMap e107))])] ⟨106, [(.ag [(S (at_ a0 x1).f0), (.sl true (at_ a0 x1).f1.length 3 ((at_ a0 x1).f1.flatMap e107))])], [], (B x2), [], [], [], [], (B x2), []⟩, (B (!x2) : V) = B true], [⟨106, [(.ag [(S (at_ a0 x1).f0), (.sl true (at_ a0 x1).f1.length 3 ((at_ a0 x1).f1.flatMap e107))])], [], (B x2), [], [], [], [], (B x2), []⟩]⟩ [c_ 7475, b_ 1, c_ 935, l_ 58, b_ 0, c_ 15] (alc ⟨rfl, by decide⟩ (alc (cok0 false (a2c (.z (frz_ag (a2c .s (a2c (frz_sl e107_ok (fun h => h)) a2n)))) a2n) (.z .s) (fun h => absurd h (by decide))) (alc (bT (nT (vF c4))) aln))) (acal (impl_TripOk.J k (at_ a0 x1) _ hx2) nocal) ?_
          refine .cond' (.tmp 26) true [c_ 29900, c_ 29901, b_ 1, c_ 935, l_ 58, b_ 0, c_ 15] (rfl) ?_
          refine .reg' [2] [] ⟨[(2, (B false))], [(1539, [(S (at_ a0 x1).f0), (.sl true (at_ a0 x1).f1.length 3 ((at_ a0 x1).f1.flatMap e107))])], [], []⟩ [c_ 29901, b_ 1, c_ 935, l_ 58, b_ 0, c_ 15] aln nocal ?_
          have h := Option.some.inj h
          subst h
          exact .fin0 [] (B false) [] aln (.z .s)
      · rw [if_neg c3] at h
        cases h
    · rw [if_neg c2] at h
      refine .cond' (.tmp 11) false [c_ 30, c_ 31] (bF (dF c2)) ?_
      refine .reg' [2] [] ⟨[(2, (B true))], [], [], []⟩ [c_ 31] aln nocal ?_
      have h := Option.some.inj h
      subst h
      exact .fin0 [] (B true) [] aln (.z .s)
theorem impl_TableOk.J (k : Nat) (a0 : (List S105)) (r : Bool) (h : impl_TableOk.f k a0 = some r) : J prog (.call 74 [(.sl true a0.length 2 (a0.flatMap (e105 true)))] [] (B r) []) := by
  unfold impl_TableOk.f at h
  have ih0 := impl_TableOk.lab k
  refine .call' [c_ 2, c_ 3] ?_
  refine .reg' [0] [] ⟨[(0, (.sl true a0.length 2 (a0.flatMap (e105 true))))], [], [], []⟩ [c_ 12, c_ 13, c_ 7] aln nocal ?_
  refine .reg' [0, 7] [] ⟨[(0, (.sl true a0.length 2 (a0.flatMap (e105 true)))), (7, (B (decide ((a0.length : Int) > 24))))], [], [], []⟩ [c_ 13, c_ 7] aln nocal ?_
  by_cases c1 : (a0.length : Int) > 24
  · rw [if_pos c1] at h
    refine .cond' (.tmp 7) true [c_ 52, c_ 53, c_ 7] (bT (dT c1)) ?_
    refine .reg' [2] [] ⟨[(2, (B false))], [], [], []⟩ [c_ 53, c_ 7] aln nocal ?_
    have h := Option.some.inj h
    subst h
    exact .fin0 [] (B false) [] aln (.z .s)
  · rw [if_neg c1] at h
    refine .cond' (.tmp 7) false [c_ 28, c_ 29, c_ 15] (bF (dF c1)) ?_
    refine .reg' [0, 8, 9, 10] [] ⟨[(0, (.sl true a0.length 2 (a0.flatMap (e105 true)))), (8, (.sl true a0.length 2 (a0.flatMap (e105 true)))), (9, (I (a0.length : Int))), (10, (I 0))], [], [], []⟩ [l_ 58, b_ 0, c_ 15] aln nocal ?_
    exact ih0 a0 0 _ h
/-! impl_changeOk: function 75 -/
def impl_changeOk.f (a0 : Int) : Option Bool := ((impl_between.f a0 0 60).bind fun x1 => (some x1))
theorem impl_changeOk.J (a0 : Int) (r : Bool) (h : impl_changeOk.f a0 = some r) : J prog (.call 75 [(I a0)] [] (B r) []) := by
  unfold impl_changeOk.f at h
  refine .call' [c_ 2, c_ 3] ?_
  refine .reg' [0] [] ⟨[(0, (I a0))], [], [], []⟩ [c_ 6, c_ 7] aln nocal ?_
  obtain ⟨x1, hx1, h⟩ := Option.bind_eq_some_iff.mp h
  refine .reg' [2] [.no, .c ⟨57, [(I a0), (I 0), (I 60)], [], (B x1), [], [], [], [], (B x1), []⟩] ⟨[(2, (B x1))], [], [COK (hget []) [(I a0), (I 0), (I 60)] ⟨57, [(I a0), (I 0), (I 60)], [], (B x1), [], [], [], [], (B x1), []⟩], [⟨57, [(I a0), (I 0), (I 60)], [], (B x1), [], [], [], [], (B x1), []⟩]⟩ [c_ 7] (alc (cok0 false (a2c (.z .s) (a2c (.z .s) (a2c (.z .s) a2n))) (.z .s) (fun h => absurd h (by decide))) aln) (acal (impl_between.J a0 0 60 _ hx1) nocal) ?_
  have h := Option.some.inj h
  subst h
  exact .fin0 [] (B x1) [] aln (.z .s)
/-! impl_ends: function 76 -/
def impl_ends.f (a0 : (List S105)) (a1 : S102) : Option Int := (if 0 ≤ a1.f0 then (if a1.f0 < (a0.length : Int) then (if 0 ≤ a1.f2 then (if a1.f2 < ((at_ a0 a1.f0).f1.length : Int) then (some ((at_ (at_ a0 a1.f0).f1 a1.f2).f0)) else none) else none) else none) else none)
theorem impl_ends.J (a0 : (List S105)) (a1 : S102) (r : Int) (h : impl_ends.f a0 a1 = some r) : J prog (.call 76 [(.sl true a0.length 2 (a0.flatMap (e105 true))), (.ag [(I a1.f0), (I a1.f1), (I a1.f2)])] [] (I r) []) := by
  unfold impl_ends.f at h
  refine .call' [c_ 2, c_ 3] ?_
  refine .reg' [0, 3] [] ⟨[(0, (.sl true a0.length 2 (a0.flatMap (e105 true)))), (3, (.pt 256 0 3))], [(256, [(I a1.f0), (I a1.f1), (I a1.f2)])], [], []⟩ [c_ 6, c_ 7] aln nocal ?_
  by_cases c1 : 0 ≤ a1.f0
  · rw [if_pos c1] at h
    by_cases c2 : a1.f0 < (a0.length : Int)
    · rw [if_pos c2] at h
      by_cases c3 : 0 ≤ a1.f2
      · rw [if_pos c3] at h
        by_cases c4 : a1.f2 < ((at_ a0 a1.f0).f1.length : Int)
        · rw [if_pos c4] at h
          refine .reg' [4] [.no, .no, .no, .no, .no, .v (.sl true (at_ a0 a1.f0).f1.length 3 ((at_ a0 a1.f0).f1.flatMap e107)), .no, .no, .no, .no, .v (I (at_ (at_ a0 a1.f0).f1 a1.f2).f0)] ⟨[(4, (I (at_ (at_ a0 a1.f0).f1 a1.f2).f0))], [(256, [(I a1.f0), (I a1.f1), (I a1.f2)])], [3 = 3 ∧ 0 + 1 ≤ 3, (0 : Int) ≤ a1.f0 ∧ a1.f0 < (a0.length : Int), rdC prog 104 (((a0.flatMap (e105 true)).drop (a1.f0.toNat * 2)).drop 1) = (.sl true (at_ a0 a1.f0).f1.length 3 ((at_ a0 a1.f0).f1.flatMap e107)), 1 ≤ (((a0.flatMap (e105 true)).drop (a1.f0.toNat * 2)).drop 1).length, 3 = 3 ∧ 2 + 1 ≤ 3, (0 : Int) ≤ a1.f2 ∧ a1.f2 < ((at_ a0 a1.f0).f1.length : Int), rdC prog 3 ((((at_ a0 a1.f0).f1.flatMap e107).drop (a1.f2.toNat * 3)).drop 0) = (I (at_ (at_ a0 a1.f0).f1 a1.f2).f0), 1 ≤ ((((at_ a0 a1.f0).f1.flatMap e107).drop (a1.f2.toNat * 3)).drop 0).length], []⟩ [c_ 7] (alc ⟨rfl, by decide⟩ (alc ⟨c1, c2⟩ (alc (ldC (e105_ok true) 1 (by decide) rfl c1 c2) (alc (okIj (e105_ok true) c1 c2 (by decide)) (alc ⟨rfl, by decide⟩ (alc ⟨c3, c4⟩ (alc (ldC e107_ok 0 (by decide) rfl c3 c4) (alc (okIj e107_ok c3 c4 (by decide)) aln)))))))) nocal ?_
          have h := Option.some.inj h
          subst h
          exact .fin0 [] (I (at_ (at_ a0 a1.f0).f1 a1.f2).f0) [] aln (.z .s)
        · rw [if_neg c4] at h
          cases h
      · rw [if_neg c3] at h
        cases h
    · rw [if_neg c2] at h
      cases h
  · rw [if_neg c1] at h
    cases h
/-! impl_leaves: function 77 -/
def impl_leaves.f (a0 : (List S105)) (a1 : S102) : Option Int := (if 0 ≤ a1.f0 then (if a1.f0 < (a0.length : Int) then (if 0 ≤ a1.f1 then (if a1.f1 < ((at_ a0 a1.f0).f1.length : Int) then (some ((at_ (at_ a0 a1.f0).f1 a1.f1).f2)) else none) else none) else none) else none)
theorem impl_leaves.J (a0 : (List S105)) (a1 : S102) (r : Int) (h : impl_leaves.f a0 a1 = some r) : J prog (.call 77 [(.sl true a0.length 2 (a0.flatMap (e105 true))), (.ag [(I a1.f0), (I a1.f1), (I a1.f2)])] [] (I r) []) := by
  unfold impl_leaves.f at h
  refine .call' [c_ 2, c_ 3] ?_
  refine .reg' [0, 3] [] ⟨[(0, (.sl true a0.length 2 (a0.flatMap (e105 true)))), (3, (.pt 256 0 3))], [(256, [(I a1.f0), (I a1.f1), (I a1.f2)])], [], []⟩ [c_ 6, c_ 7] aln nocal ?_
  by_cases c1 : 0 ≤ a1.f0
  · rw [if_pos c1] at h
    by_cases c2 : a1.f0 < (a0.length : Int)
    · rw [if_pos c2] at h
      by_cases c3 : 0 ≤ a1.f1
      · rw [if_pos c3] at h
        by_cases c4 : a1.f1 < ((at_ a0 a1.f0).f1.length : Int)
        · rw [if_pos c4] at h
          refine .reg' [4] [.no, .no, .no, .no, .no, .v (.sl true (at_ a0 a1.f0).f1.length 3 ((at_ a0 a1.f0).f1.flatMap e107)), .no, .no, .no, .no, .v (I (at_ (at_ a0 a1.f0).f1 a1.f1).f2)] ⟨[(4, (I (at_ (at_ a0 a1.f0).f1 a1.f1).f2))], [(256, [(I a1.f0), (I a1.f1), (I a1.f2)])], [3 = 3 ∧ 0 + 1 ≤ 3, (0 : Int) ≤ a1.f0 ∧ a1.f0 < (a0.length : Int), rdC prog 104 (((a0.flatMap (e105 true)).drop (a1.f0.toNat * 2)).drop 1) = (.sl true (at_ a0 a1.f0).f1.length 3 ((at_ a0 a1.f0).f1.flatMap e107)), 1 ≤ (((a0.flatMap (e105 true)).drop (a1.f0.toNat * 2)).drop 1).length, 3 = 3 ∧ 1 + 1 ≤ 3, (0 : Int) ≤ a1.f1 ∧ a1.f1 < ((at_ a0 a1.f0).f1.length : Int), rdC prog 3 ((((at_ a0 a1.f0).f1.flatMap e107).drop (a1.f1.toNat * 3)).drop 2) = (I (at_ (at_ a0 a1.f0).f1 a1.f1).f2), 1 ≤ ((((at_ a0 a1.f0).f1.flatMap e107).drop (a1.f1.toNat * 3)).drop 2).length], []⟩ [c_ 7] (alc ⟨rfl, by decide⟩ (alc ⟨c1, c2⟩ (alc (ldC (e105_ok true) 1 (by decide) rfl c1 c2) (alc (okIj (e105_ok true) c1 c2 (by decide)) (alc ⟨rfl, by decide⟩ (alc ⟨c3, c4⟩ (alc (ldC e107_ok 2 (by decide) rfl c3 c4) (alc (okIj e107_ok c3 c4 (by decide)) aln)))))))) nocal ?_
          have h := Option.some.inj h
          subst h
          exact .fin0 [] (I (at_ (at_ a0 a1.f0).f1 a1.f1).f2) [] aln (.z .s)
        · rw [if_neg c4] at h
          cases h
      · rw [if_neg c3] at h
        cases h
    · rw [if_neg c2] at h
      cases h
  · rw [if_neg c1] at h
    cases h
/-! impl_arrives: function 78 -/
def impl_arrives.f (a0 : (List S105)) (a1 : S102) : Option Int := (if 0 ≤ a1.f0 then (if a1.f0 < (a0.length : Int) then (if 0 ≤ a1.f2 then (if a1.f2 < ((at_ a0 a1.f0).f1.length : Int) then (some ((at_ (at_ a0 a1.f0).f1 a1.f2).f1)) else none) else none) else none) else none)
theorem impl_arrives.J (a0 : (List S105)) (a1 : S102) (r : Int) (h : impl_arrives.f a0 a1 = some r) : J prog (.call 78 [(.sl true a0.length 2 (a0.flatMap (e105 true))), (.ag [(I a1.f0), (I a1.f1), (I a1.f2)])] [] (I r) []) := by
  unfold impl_arrives.f at h
  refine .call' [c_ 2, c_ 3] ?_
  refine .reg' [0, 3] [] ⟨[(0, (.sl true a0.length 2 (a0.flatMap (e105 true)))), (3, (.pt 256 0 3))], [(256, [(I a1.f0), (I a1.f1), (I a1.f2)])], [], []⟩ [c_ 6, c_ 7] aln nocal ?_
  by_cases c1 : 0 ≤ a1.f0
  · rw [if_pos c1] at h
    by_cases c2 : a1.f0 < (a0.length : Int)
    · rw [if_pos c2] at h
      by_cases c3 : 0 ≤ a1.f2
      · rw [if_pos c3] at h
        by_cases c4 : a1.f2 < ((at_ a0 a1.f0).f1.length : Int)
        · rw [if_pos c4] at h
          refine .reg' [4] [.no, .no, .no, .no, .no, .v (.sl true (at_ a0 a1.f0).f1.length 3 ((at_ a0 a1.f0).f1.flatMap e107)), .no, .no, .no, .no, .v (I (at_ (at_ a0 a1.f0).f1 a1.f2).f1)] ⟨[(4, (I (at_ (at_ a0 a1.f0).f1 a1.f2).f1))], [(256, [(I a1.f0), (I a1.f1), (I a1.f2)])], [3 = 3 ∧ 0 + 1 ≤ 3, (0 : Int) ≤ a1.f0 ∧ a1.f0 < (a0.length : Int), rdC prog 104 (((a0.flatMap (e105 true)).drop (a1.f0.toNat * 2)).drop 1) = (.sl true (at_ a0 a1.f0).f1.length 3 ((at_ a0 a1.f0).f1.flatMap e107)), 1 ≤ (((a0.flatMap (e105 true)).drop (a1.f0.toNat * 2)).drop 1).length, 3 = 3 ∧ 2 + 1 ≤ 3, (0 : Int) ≤ a1.f2 ∧ a1.f2 < ((at_ a0 a1.f0).f1.length : Int), rdC prog 3 ((((at_ a0 a1.f0).f1.flatMap e107).drop (a1.f2.toNat * 3)).drop 1) = (I (at_ (at_ a0 a1.f0).f1 a1.f2).f1), 1 ≤ ((((at_ a0 a1.f0).f1.flatMap e107).drop (a1.f2.toNat * 3)).drop 1).length], []⟩ [c_ 7] (alc ⟨rfl, by decide⟩ (alc ⟨c1, c2⟩ (alc (ldC (e105_ok true) 1 (by decide) rfl c1 c2) (alc (okIj (e105_ok true) c1 c2 (by decide)) (alc ⟨rfl, by decide⟩ (alc ⟨c3, c4⟩ (alc (ldC e107_ok 1 (by decide) rfl c3 c4) (alc (okIj e107_ok c3 c4 (by decide)) aln)))))))) nocal ?_
          have h := Option.some.inj h
          subst h
          exact .fin0 [] (I (at_ (at_ a0 a1.f0).f1 a1.f2).f1) [] aln (.z .s)
        · rw [if_neg c4] at h
          cases h
      · rw [if_neg c3] at h
        cases h
    · rw [if_neg c2] at h
      cases h
  · rw [if_neg c1] at h
    cases h
/-! impl_LegsOk: function 32 -/
def impl_LegsOk.l0 : Nat → (List S105) → (List S102) → Int → Int → Option Bool
 | 0, _, _, _, _ => none
 | k + 1, a0, a1, a2, x3 => (if x3 < (a1.length : Int) then (if 0 ≤ x3 then ((impl_between.f ((at_ a1 x3).f0) 0 (wrap64 ((a0.length : Int) - 1))).bind fun x4 => (if x4 = true then (if (at_ a1 x3).f1 < 0 then (some false) else (if (at_ a1 x3).f1 ≥ (at_ a1 x3).f2 then (some false) else (if 0 ≤ (at_ a1 x3).f0 then (if (at_ a1 x3).f0 < (a0.length : Int) then (if (at_ a1 x3).f2 ≥ ((at_ a0 (at_ a1 x3).f0).f1.length : Int) then (some false) else (if x3 = 0 then (impl_LegsOk.l0 k a0 a1 a2 (wrap64 (x3 + 1))) else (if 0 ≤ (wrap64 (x3 - 1)) then (if (wrap64 (x3 - 1)) < (a1.length : Int) then (if 0 ≤ (at_ a1 x3).f1 then (if (at_ a1 x3).f1 < ((at_ a0 (at_ a1 x3).f0).f1.length : Int) then ((impl_ends.f a0 (at_ a1 (wrap64 (x3 - 1)))).bind fun x5 => (if (at_ (at_ a0 (at_ a1 x3).f0).f1 (at_ a1 x3).f1).f0 = x5 then ((impl_leaves.f a0 (at_ a1 x3)).bind fun x6 => ((impl_arrives.f a0 (at_ a1 (wrap64 (x3 - 1)))).bind fun x7 => (if x6 < (wrap64 (x7 + a2)) then (some false) else (impl_LegsOk.l0 k a0 a1 a2 (wrap64 (x3 + 1)))))) else (some false))) else none) else none) else none) else none))) else none) else none))) else (some false))) else none) else (some true))
def impl_LegsOk.f (k : Nat) (a0 : (List S105)) (a1 : (List S102)) (a2 : Int) : Option Bool := ((impl_TableOk.f k a0).bind fun x1 => (if x1 = true then ((impl_changeOk.f a2).bind fun x2 => (if x2 = true then (if (a1.length : Int) > 5 then (some false) else (impl_LegsOk.l0 k a0 a1 a2 0)) else (some false))) else (some false)))
theorem impl_LegsOk.lab : ∀ k, (∀ (a0 : (List S105)) (a1 : (List S102)) (a2 : Int) (x3 : Int) (r : Bool), impl_LegsOk.l0 k a0 a1 a2 x3 = some r → J prog (.run 32 [] [l_ 58, b_ 0, c_ 15] [(0, (.sl true a0.length 2 (a0.flatMap (e105 true)))), (1, (.sl true a1.length 3 (a1.flatMap e102))), (2, (I a2)), (23, (.sl true a1.length 3 (a1.flatMap e102))), (24, (I (a1.length : Int))), (25, (I x3))] [] (B r) []))
 | 0 => (by intro a0 a1 a2 x3 r h; unfold impl_LegsOk.l0 at h; cases h)
 | k + 1 => by
  have ih0 := impl_LegsOk.lab k
  · intro a0 a1 a2 x3 r h
    unfold impl_LegsOk.l0 at h
    refine .loop' [c_ 232, c_ 233, l_ 58, b_ 0, c_ 15] ?_
    refine .reg' [0, 1, 2, 23, 24, 25, 26] [] ⟨[(0, (.sl true a0.length 2 (a0.flatMap (e105 true)))), (1, (.sl true a1.length 3 (a1.flatMap e102))), (2, (I a2)), (23, (.sl true a1.length 3 (a1.flatMap e102))), (24, (I (a1.length : Int))), (25, (I x3)), (26, (B (decide (x3 < (a1.length : Int)))))], [], [], []⟩ [c_ 466, c_ 467, l_ 58, b_ 0, c_ 15] aln nocal ?_
    by_cases c4 : x3 < (a1.length : Int)
    · rw [if_pos c4] at h
      refine .cond' (.tmp 26) true [c_ 3736, c_ 3737, b_ 1, c_ 935, l_ 58, b_ 0, c_ 15] (bT (dT c4)) ?_
      by_cases c5 : 0 ≤ x3
      · rw [if_pos c5] at h
        refine .reg' [0, 1, 2, 7, 8, 23, 24, 25] [.no, .no, .v (.ag [(I (at_ a1 x3).f0), (I (at_ a1 x3).f1), (I (at_ a1 x3).f2)])] ⟨[(0, (.sl true a0.length 2 (a0.flatMap (e105 true)))), (1, (.sl true a1.length 3 (a1.flatMap e102))), (2, (I a2)), (7, (I x3)), (8, (.pt 1539 0 3)), (23, (.sl true a1.length 3 (a1.flatMap e102))), (24, (I (a1.length : Int))), (25, (I x3))], [(1539, [(I (at_ a1 x3).f0), (I (at_ a1 x3).f1), (I (at_ a1 x3).f2)])], [(0 : Int) ≤ x3 ∧ x3 < (a1.length : Int), rdC prog 103 ((a1.flatMap e102).drop (x3.toNat * 3)) = (.ag [(I (at_ a1 x3).f0), (I (at_ a1 x3).f1), (I (at_ a1 x3).f2)]), 3 ≤ ((a1.flatMap e102).drop (x3.toNat * 3)).length, 3 = 3 ∧ 0 + 3 ≤ 3], []⟩ [c_ 14948, c_ 14949, c_ 7475, b_ 1, c_ 935, l_ 58, b_ 0, c_ 15] (alc ⟨c5, c4⟩ (alc (ldA e102_ok rfl rfl c5 c4) (alc (okI e102_ok c5 c4 (by decide)) (alc ⟨rfl, by decide⟩ aln)))) nocal ?_
        obtain ⟨x4, hx4, h⟩ := Option.bind_eq_some_iff.mp h
        by_cases c6 : x4 = true
        · rw [if_pos c6] at h
          by_cases c7 : (at_ a1 x3).f1 < 0
          · rw [if_pos c7] at h
            refine .reg' [0, 1, 2, 7, 8, 23, 24, 25, 60] [.no, .no, .no, .no, .no, .c ⟨57, [(I (at_ a1 x3).f0), (I 0), (I (wrap64 ((a0.length : Int) - 1)))], [], (B x4), [], [], [], [], (B x4), []⟩, .no, .v (B false), .no, .no, .no, .no, .v (B true)] ⟨[(0, (.sl true a0.length 2 (a0.flatMap (e105 true)))), (1, (.sl true a1.length 3 (a1.flatMap e102))), (2, (I a2)), (7, (I x3)), (8, (.pt 1539 0 3)), (23, (.sl true a1.length 3 (a1.flatMap e102))), (24, (I (a1.length : Int))), (25, (I x3)), (60, (B true))], [(1539, [(I (at_ a1 x3).f0), (I (at_ a1 x3).f1), (I (at_ a1 x3).f2)])], [3 = 3 ∧ 0 + 1 ≤ 3, COK (hget [(1539, [(I (at_ a1 x3).f0), (I (at_ a1 x3).f1), (I (at_ a1 x3).f2)])]) [(I (at_ a1 x3).f0), (I 0), (I (wrap64 ((a0.length : Int) - 1)))] ⟨57, [(I (at_ a1 x3).f0), (I 0), (I (wrap64 ((a0.length : Int) - 1)))], [], (B x4), [], [], [], [], (B x4), []⟩, (B (!x4) : V) = B false, 3 = 3 ∧ 1 + 1 ≤ 3, (B (decide ((at_ a1 x3).f1 < 0)) : V) = B true], [⟨57, [(I (at_ a1 x3).f0), (I 0), (I (wrap64 ((a0.length : Int) - 1)))], [], (B x4), [], [], [], [], (B x4), []⟩]⟩ [c_ 14949, c_ 7475, b_ 1, c_ 935, l_ 58, b_ 0, c_ 15] (alc ⟨rfl, by decide⟩ (alc (cok0 false (a2c (.z .s) (a2c (.z .s) (a2c (.z .s) a2n))) (.z .s) (fun h => absurd h (by decide))) (alc (bF (nF c6)) (alc ⟨rfl, by decide⟩ (alc (bT (dT c7)) aln))))) (acal (impl_between.J ((at_ a1 x3).f0) 0 (wrap64 ((a0.length : Int) - 1)) _ hx4) nocal) ?_
            refine .cond' (.tmp 60) true [c_ 59796, c_ 59797, c_ 7475, b_ 1, c_ 935, l_ 58, b_ 0, c_ 15] (rfl) ?_
            refine .reg' [6] [] ⟨[(6, (B false))], [(1539, [(I (at_ a1 x3).f0), (I (at_ a1 x3).f1), (I (at_ a1 x3).f2)])], [], []⟩ [c_ 59797, c_ 7475, b_ 1, c_ 935, l_ 58, b_ 0, c_ 15] aln nocal ?_
            have h := Option.some.inj h
            subst h
            exact .fin0 [] (B false) [] aln (.z .s)
          · rw [if_neg c7] at h
            by_cases c8 : (at_ a1 x3).f1 ≥ (at_ a1 x3).f2
            · rw [if_pos c8] at h
              refine .reg' [0, 1, 2, 7, 8, 23, 24, 25, 60] [.no, .no, .no, .no, .no, .c ⟨57, [(I (at_ a1 x3).f0), (I 0), (I (wrap64 ((a0.length : Int) - 1)))], [], (B x4), [], [], [], [], (B x4), []⟩, .no, .v (B false), .no, .no, .no, .no, .v (B false), .no, .no, .no, .no, .no, .no, .v (B true)] ⟨[(0, (.sl true a0.length 2 (a0.flatMap (e105 true)))), (1, (.sl true a1.length 3 (a1.flatMap e102))), (2, (I a2)), (7, (I x3)), (8, (.pt 1539 0 3)), (23, (.sl true a1.length 3 (a1.flatMap e102))), (24, (I (a1.length : Int))), (25, (I x3)), (60, (B true))], [(1539, [(I (at_ a1 x3).f0), (I (at_ a1 x3).f1), (I (at_ a1 x3).f2)])], [3 = 3 ∧ 0 + 1 ≤ 3, COK (hget [(1539, [(I (at_ a1 x3).f0), (I (at_ a1 x3).f1), (I (at_ a1 x3).f2)])]) [(I (at_ a1 x3).f0), (I 0), (I (wrap64 ((a0.length : Int) - 1)))] ⟨57, [(I (at_ a1 x3).f0), (I 0), (I (wrap64 ((a0.length : Int) - 1)))], [], (B x4), [], [], [], [], (B x4), []⟩, (B (!x4) : V) = B false, 3 = 3 ∧ 1 + 1 ≤ 3, (B (decide ((at_ a1 x3).f1 < 0)) : V) = B false, 3 = 3 ∧ 1 + 1 ≤ 3, 3 = 3 ∧ 2 + 1 ≤ 3, (B (decide ((at_ a1 x3).f1 ≥ (at_ a1 x3).f2)) : V) = B true], [⟨57, [(I (at_ a1 x3).f0), (I 0), (I (wrap64 ((a0.length : Int) - 1)))], [], (B x4), [], [], [], [], (B x4), []⟩]⟩ [c_ 14949, c_ 7475, b_ 1, c_ 935, l_ 58, b_ 0, c_ 15] (alc ⟨rfl, by decide⟩ (alc (cok0 false (a2c (.z .s) (a2c (.z .s) (a2c (.z .s) a2n))) (.z .s) (fun h => absurd h (by decide))) (alc (bF (nF c6)) (alc ⟨rfl, by decide⟩ (alc (bF (dF c7)) (alc ⟨rfl, by decide⟩ (alc ⟨rfl, by decide⟩ (alc (bT (dT c8)) aln)))))))) (acal (impl_between.J ((at_ a1 x3).f0) 0 (wrap64 ((a0.length : Int) - 1)) _ hx4) nocal) ?_
              refine .cond' (.tmp 60) true [c_ 59796, c_ 59797, c_ 7475, b_ 1, c_ 935, l_ 58, b_ 0, c_ 15] (rfl) ?_
              refine .reg' [6] [] ⟨[(6, (B false))], [(1539, [(I (at_ a1 x3).f0), (I (at_ a1 x3).f1), (I (at_ a1 x3).f2)])], [], []⟩ [c_ 59797, c_ 7475, b_ 1, c_ 935, l_ 58, b_ 0, c_ 15] aln nocal ?_
              have h := Option.some.inj h
              subst h
              exact .fin0 [] (B false) [] aln (.z .s)
            · rw [if_neg c8] at h
              by_cases c9 : 0 ≤ (at_ a1 x3).f0
              · rw [if_pos c9] at h
                by_cases c10 : (at_ a1 x3).f0 < (a0.length : Int)
                · rw [if_pos c10] at h
                  refine .reg' [0, 1, 2, 7, 8, 23, 24, 25, 60] [.no, .no, .no, .no, .no, .c ⟨57, [(I (at_ a1 x3).f0), (I 0), (I (wrap64 ((a0.length : Int) - 1)))], [], (B x4), [], [], [], [], (B x4), []⟩, .no, .v (B false), .no, .no, .no, .no, .v (B false), .no, .no, .no, .no, .no, .no, .v (B false), .no, .no, .no, .no, .no, .no, .no, .v (.sl true (at_ a0 (at_ a1 x3).f0).f1.length 3 ((at_ a0 (at_ a1 x3).f0).f1.flatMap e107))] ⟨[(0, (.sl true a0.length 2 (a0.flatMap (e105 true)))), (1, (.sl true a1.length 3 (a1.flatMap e102))), (2, (I a2)), (7, (I x3)), (8, (.pt 1539 0 3)), (23, (.sl true a1.length 3 (a1.flatMap e102))), (24, (I (a1.length : Int))), (25, (I x3)), (60, (B (decide ((at_ a1 x3).f2 ≥ ((at_ a0 (at_ a1 x3).f0).f1.length : Int)))))], [(1539, [(I (at_ a1 x3).f0), (I (at_ a1 x3).f1), (I (at_ a1 x3).f2)])], [3 = 3 ∧ 0 + 1 ≤ 3, COK (hget [(1539, [(I (at_ a1 x3).f0), (I (at_ a1 x3).f1), (I (at_ a1 x3).f2)])]) [(I (at_ a1 x3).f0), (I 0), (I (wrap64 ((a0.length : Int) - 1)))] ⟨57, [(I (at_ a1 x3).f0), (I 0), (I (wrap64 ((a0.length : Int) - 1)))], [], (B x4), [], [], [], [], (B x4), []⟩, (B (!x4) : V) = B false, 3 = 3 ∧ 1 + 1 ≤ 3, (B (decide ((at_ a1 x3).f1 < 0)) : V) = B false, 3 = 3 ∧ 1 + 1 ≤ 3, 3 = 3 ∧ 2 + 1 ≤ 3, (B (decide ((at_ a1 x3).f1 ≥ (at_ a1 x3).f2)) : V) = B false, 3 = 3 ∧ 2 + 1 ≤ 3, 3 = 3 ∧ 0 + 1 ≤ 3, (0 : Int) ≤ (at_ a1 x3).f0 ∧ (at_ a1 x3).f0 < (a0.length : Int), rdC prog 104 (((a0.flatMap (e105 true)).drop ((at_ a1 x3).f0.toNat * 2)).drop 1) = (.sl true (at_ a0 (at_ a1 x3).f0).f1.length 3 ((at_ a0 (at_ a1 x3).f0).f1.flatMap e107)), 1 ≤ (((a0.flatMap (e105 true)).drop ((at_ a1 x3).f0.toNat * 2)).drop 1).length], [⟨57, [(I (at_ a1 x3).f0), (I 0), (I (wrap64 ((a0.length : Int) - 1)))], [], (B x4), [], [], [], [], (B x4), []⟩]⟩ [c_ 14949, c_ 7475, b_ 1, c_ 935, l_ 58, b_ 0, c_ 15] (alc ⟨rfl, by decide⟩ (alc (cok0 false (a2c (.z .s) (a2c (.z .s) (a2c (.z .s) a2n))) (.z .s) (fun h => absurd h (by decide))) (alc (bF (nF c6)) (alc ⟨rfl, by decide⟩ (alc (bF (dF c7)) (alc ⟨rfl, by decide⟩ (alc ⟨rfl, by decide⟩ (alc (bF (dF c8)) (alc ⟨rfl, by decide⟩ (alc ⟨rfl, by decide⟩ (alc ⟨c9, c10⟩ (alc (ldC (e105_ok true) 1 (by decide) rfl c9 c10) (alc (okIj (e105_ok true) c9 c10 (by decide)) aln))))))))))))) (acal (impl_between.J ((at_ a1 x3).f0) 0 (wrap64 ((a0.length : Int) - 1)) _ hx4) nocal) ?_
                  by_cases c11 : (at_ a1 x3).f2 ≥ ((at_ a0 (at_ a1 x3).f0).f1.length : Int)
                  · rw [if_pos c11] at h
                    refine .cond' (.tmp 60) true [c_ 59796, c_ 59797, c_ 7475, b_ 1, c_ 935, l_ 58, b_ 0, c_ 15] (bT (dT c11)) ?_
                    refine .reg' [6] [] ⟨[(6, (B false))], [(1539, [(I (at_ a1 x3).f0), (I (at_ a1 x3).f1), (I (at_ a1 x3).f2)])], [], []⟩ [c_ 59797, c_ 7475, b_ 1, c_ 935, l_ 58, b_ 0, c_ 15] aln nocal ?_
                    have h := Option.some.inj h
                    subst h
                    exact .fin0 [] (B false) [] aln (.z .s)
                  · rw [if_neg c11] at h
                    refine .cond' (.tmp 60) false [c_ 29900, c_ 29901, c_ 14951, b_ 1, c_ 935, l_ 58, b_ 0, c_ 15] (bF (dF c11)) ?_
                    refine .reg' [0, 1, 2, 7, 8, 23, 24, 25, 62] [] ⟨[(0, (.sl true a0.length 2 (a0.flatMap (e105 true)))), (1, (.sl true a1.length 3 (a1.flatMap e102))), (2, (I a2)), (7, (I x3)), (8, (.pt 1539 0 3)), (23, (.sl true a1.length 3 (a1.flatMap e102))), (24, (I (a1.length : Int))), (25, (I x3)), (62, (B (x3 == 0)))], [(1539, [(I (at_ a1 x3).f0), (I (at_ a1 x3).f1), (I (at_ a1 x3).f2)])], [], []⟩ [c_ 29901, c_ 14951, b_ 1, c_ 935, l_ 58, b_ 0, c_ 15] aln nocal ?_
                    by_cases c12 : x3 = 0
                    · rw [if_pos c12] at h
                      refine .cond' (.tmp 62) true [c_ 935, l_ 58, b_ 0, c_ 15] (bT (qT c12)) ?_
                      refine .reg' [0, 1, 2, 23, 24, 25] [] ⟨[(0, (.sl true a0.length 2 (a0.flatMap (e105 true)))), (1, (.sl true a1.length 3 (a1.flatMap e102))), (2, (I a2)), (23, (.sl true a1.length 3 (a1.flatMap e102))), (24, (I (a1.length : Int))), (25, (I (wrap64 (x3 + 1))))], [(1539, [(I (at_ a1 x3).f0), (I (at_ a1 x3).f1), (I (at_ a1 x3).f2)])], [], []⟩ [l_ 58, b_ 0, c_ 15] aln nocal ?_
                      refine .wk' [] [] [(0, (.sl true a0.length 2 (a0.flatMap (e105 true)))), (1, (.sl true a1.length 3 (a1.flatMap e102))), (2, (I a2)), (23, (.sl true a1.length 3 (a1.flatMap e102))), (24, (I (a1.length : Int))), (25, (I (wrap64 (x3 + 1))))] [] shn (enc_ (.z (frz_sl (e105_ok true) (fun h => h))) (enc_ (.z (frz_sl e102_ok (fun h => h))) (enc_ (.z .s) (enc_ (.z (frz_sl e102_ok (fun h => h))) (enc_ (.z .s) (enc_ (.z .s) enn)))))) ?_
                      exact ih0 a0 a1 a2 (wrap64 (x3 + 1)) _ h
                    · rw [if_neg c12] at h
                      refine .cond' (.tmp 62) false [c_ 29902, c_ 29903, b_ 1, c_ 935, l_ 58, b_ 0, c_ 15] (bF (qF c12)) ?_
                      by_cases c13 : 0 ≤ (wrap64 (x3 - 1))
                      · rw [if_pos c13] at h
                        by_cases c14 : (wrap64 (x3 - 1)) < (a1.length : Int)
                        · rw [if_pos c14] at h
                          refine .reg' [0, 1, 2, 8, 9, 23, 24, 25] [.no, .no, .no, .no, .v (.ag [(I (at_ a1 (wrap64 (x3 - 1))).f0), (I (at_ a1 (wrap64 (x3 - 1))).f1), (I (at_ a1 (wrap64 (x3 - 1))).f2)])] ⟨[(0, (.sl true a0.length 2 (a0.flatMap (e105 true)))), (1, (.sl true a1.length 3 (a1.flatMap e102))), (2, (I a2)), (8, (.pt 1539 0 3)), (9, (.pt 2565 0 3)), (23, (.sl true a1.length 3 (a1.flatMap e102))), (24, (I (a1.length : Int))), (25, (I x3))], [(1539, [(I (at_ a1 x3).f0), (I (at_ a1 x3).f1), (I (at_ a1 x3).f2)]), (2565, [(I (at_ a1 (wrap64 (x3 - 1))).f0), (I (at_ a1 (wrap64 (x3 - 1))).f1), (I (at_ a1 (wrap64 (x3 - 1))).f2)])], [(0 : Int) ≤ (wrap64 (x3 - 1)) ∧ (wrap64 (x3 - 1)) < (a1.length : Int), rdC prog 103 ((a1.flatMap e102).drop ((wrap64 (x3 - 1)).toNat * 3)) = (.ag [(I (at_ a1 (wrap64 (x3 - 1))).f0), (I (at_ a1 (wrap64 (x3 - 1))).f1), (I (at_ a1 (wrap64 (x3 - 1))).f2)]), 3 ≤ ((a1.flatMap e102).drop ((wrap64 (x3 - 1)).toNat * 3)).length, 3 = 3 ∧ 0 + 3 ≤ 3], []⟩ [c_ 59806, c_ 59807, b_ 1, c_ 935, l_ 58, b_ 0, c_ 15] (alc ⟨c13, c14⟩ (alc (ldA e102_ok rfl rfl c13 c14) (alc (okI e102_ok c13 c14 (by decide)) (alc ⟨rfl, by decide⟩ aln)))) nocal ?_
                          by_cases c15 : 0 ≤ (at_ a1 x3).f1
                          · rw [if_pos c15] at h
                            by_cases c16 : (at_ a1 x3).f1 < ((at_ a0 (at_ a1 x3).f0).f1.length : Int)
                            · rw [if_pos c16] at h
                              obtain ⟨x5, hx5, h⟩ := Option.bind_eq_some_iff.mp h
                              by_cases c17 : (at_ (at_ a0 (at_ a1 x3).f0).f1 (at_ a1 x3).f1).f0 = x5
                              · rw [if_pos c17] at h
                                obtain ⟨x6, hx6, h⟩ := Option.bind_eq_some_iff.mp h
                                obtain ⟨x7, hx7, h⟩ := Option.bind_eq_some_iff.mp h
                                refine .reg' [0, 1, 2, 23, 24, 25, 93] [.no, .no, .no, .no, .no, .v (.sl true (at_ a0 (at_ a1 x3).f0).f1.length 3 ((at_ a0 (at_ a1 x3).f0).f1.flatMap e107)), .no, .no, .no, .no, .v (I (at_ (at_ a0 (at_ a1 x3).f0).f1 (at_ a1 x3).f1).f0), .no, .no, .c ⟨76, [(.sl true a0.length 2 (a0.flatMap (e105 true))), (.ag [(I (at_ a1 (wrap64 (x3 - 1))).f0), (I (at_ a1 (wrap64 (x3 - 1))).f1), (I (at_ a1 (wrap64 (x3 - 1))).f2)])], [], (I x5), [], [], [], [], (I x5), []⟩, .no, .v (B false), .no, .no, .c ⟨77, [(.sl true a0.length 2 (a0.flatMap (e105 true))), (.ag [(I (at_ a1 x3).f0), (I (at_ a1 x3).f1), (I (at_ a1 x3).f2)])], [], (I x6), [], [], [], [], (I x6), []⟩, .no, .no, .c ⟨78, [(.sl true a0.length 2 (a0.flatMap (e105 true))), (.ag [(I (at_ a1 (wrap64 (x3 - 1))).f0), (I (at_ a1 (wrap64 (x3 - 1))).f1), (I (at_ a1 (wrap64 (x3 - 1))).f2)])], [], (I x7), [], [], [], [], (I x7), []⟩] ⟨[(0, (.sl true a0.length 2 (a0.flatMap (e105 true)))), (1, (.sl true a1.length 3 (a1.flatMap e102))), (2, (I a2)), (23, (.sl true a1.length 3 (a1.flatMap e102))), (24, (I (a1.length : Int))), (25, (I x3)), (93, (B (decide (x6 < (wrap64 (x7 + a2))))))], [(1539, [(I (at_ a1 x3).f0), (I (at_ a1 x3).f1), (I (at_ a1 x3).f2)]), (2565, [(I (at_ a1 (wrap64 (x3 - 1))).f0), (I (at_ a1 (wrap64 (x3 - 1))).f1), (I (at_ a1 (wrap64 (x3 - 1))).f2)])], [3 = 3 ∧ 0 + 1 ≤ 3, (0 : Int) ≤ (at_ a1 x3).f0 ∧ (at_ a1 x3).f0 < (a0.length : Int), rdC prog 104 (((a0.flatMap (e105 true)).drop ((at_ a1 x3).f0.toNat * 2)).drop 1) = (.sl true (at_ a0 (at_ a1 x3).f0).f1.length 3 ((at_ a0 (at_ a1 x3).f0).f1.flatMap e107)), 1 ≤ (((a0.flatMap (e105 true)).drop ((at_ a1 x3).f0.toNat * 2)).drop 1).length, 3 = 3 ∧ 1 + 1 ≤ 3, (0 : Int) ≤ (at_ a1 x3).f1 ∧ (at_ a1 x3).f1 < ((at_ a0 (at_ a1 x3).f0).f1.length : Int), rdC prog 3 ((((at_ a0 (at_ a1 x3).f0).f1.flatMap e107).drop ((at_ a1 x3).f1.toNat * 3)).drop 0) = (I (at_ (at_ a0 (at_ a1 x3).f0).f1 (at_ a1 x3).f1).f0), 1 ≤ ((((at_ a0 (at_ a1 x3).f0).f1.flatMap e107).drop ((at_ a1 x3).f1.toNat * 3)).drop 0).length, 3 = 3 ∧ 0 + 3 ≤ 3, COK (hget [(1539, [(I (at_ a1 x3).f0), (I (at_ a1 x3).f1), (I (at_ a1 x3).f2)]), (2565, [(I (at_ a1 (wrap64 (x3 - 1))).f0), (I (at_ a1 (wrap64 (x3 - 1))).f1), (I (at_ a1 (wrap64 (x3 - 1))).f2)])]) [(.sl true a0.length 2 (a0.flatMap (e105 true))), (.ag [(I (at_ a1 (wrap64 (x3 - 1))).f0), (I (at_ a1 (wrap64 (x3 - 1))).f1), (I (at_ a1 (wrap64 (x3 - 1))).f2)])] ⟨76, [(.sl true a0.length 2 (a0.flatMap (e105 true))), (.ag [(I (at_ a1 (wrap64 (x3 - 1))).f0), (I (at_ a1 (wrap64 (x3 - 1))).f1), (I (at_ a1 (wrap64 (x3 - 1))).f2)])], [], (I x5), [], [], [], [], (I x5), []⟩, (B (!((at_ (at_ a0 (at_ a1 x3).f0).f1 (at_ a1 x3).f1).f0 == x5)) : V) = B false, 3 = 3 ∧ 0 + 3 ≤ 3, COK (hget [(1539, [(I (at_ a1 x3).f0), (I (at_ a1 x3).f1), (I (at_ a1 x3).f2)]), (2565, [(I (at_ a1 (wrap64 (x3 - 1))).f0), (I (at_ a1 (wrap64 (x3 - 1))).f1), (I (at_ a1 (wrap64 (x3 - 1))).f2)])]) [(.sl true a0.length 2 (a0.flatMap (e105 true))), (.ag [(I (at_ a1 x3).f0), (I (at_ a1 x3).f1), (I (at_ a1 x3).f2)])] ⟨77, [(.sl true a0.length 2 (a0.flatMap (e105 true))), (.ag [(I (at_ a1 x3).f0), (I (at_ a1 x3).f1), (I (at_ a1 x3).f2)])], [], (I x6), [], [], [], [], (I x6), []⟩, 3 = 3 ∧ 0 + 3 ≤ 3, COK (hget [(1539, [(I (at_ a1 x3).f0), (I (at_ a1 x3).f1), (I (at_ a1 x3).f2)]), (2565, [(I (at_ a1 (wrap64 (x3 - 1))).f0), (I (at_ a1 (wrap64 (x3 - 1))).f1), (I (at_ a1 (wrap64 (x3 - 1))).f2)])]) [(.sl true a0.length 2 (a0.flatMap (e105 true))), (.ag [(I (at_ a1 (wrap64 (x3 - 1))).f0), (I (at_ a1 (wrap64 (x3 - 1))).f1), (I (at_ a1 (wrap64 (x3 - 1))).f2)])] ⟨78, [(.sl true a0.length 2 (a0.flatMap (e105 true))), (.ag [(I (at_ a1 (wrap64 (x3 - 1))).f0), (I (at_ a1 (wrap64 (x3 - 1))).f1), (I (at_ a1 (wrap64 (x3 - 1))).f2)])], [], (I x7), [], [], [], [], (I x7), []⟩], [⟨76, [(.sl true a0.length 2 (a0.flatMap (e105 true))), (.ag [(I (at_ a1 (wrap64 (x3 - 1))).f0), (I (at_ a1 (wrap64 (x3 - 1))).f1), (I (at_ a1 (wrap64 (x3 - 1))).f2)])], [], (I x5), [], [], [], [], (I x5), []⟩, ⟨77, [(.sl true a0.length 2 (a0.flatMap (e105 true))), (.ag [(I (at_ a1 x3).f0), (I (at_ a1 x3).f1), (I (at_ a1 x3).f2)])], [], (I x6), [], [], [], [], (I x6), []⟩, ⟨78, [(.sl true a0.length 2 (a0.flatMap (e105 true))), (.ag [(I (at_ a1 (wrap64 (x3 - 1))).f0), (I (at_ a1 (wrap64 (x3 - 1))).f1), (I (at_ a1 (wrap64 (x3 - 1))).f2)])], [], (I x7), [], [], [], [], (I x7), []⟩]⟩ [c_ 59807, b_ 1, c_ 935, l_ 58, b_ 0, c_ 15] (alc ⟨rfl, by decide⟩ (alc ⟨c9, c10⟩ (alc (ldC (e105_ok true) 1 (by decide) rfl c9 c10) (alc (okIj (e105_ok true) c9 c10 (by decide)) (alc ⟨rfl, by decide⟩ (alc ⟨c15, c16⟩ (alc (ldC e107_ok 0 (by decide) rfl c15 c16) (alc (okIj e107_ok c15 c16 (by decide)) (alc ⟨rfl, by decide⟩ (alc (cok0 false (a2c (.z (frz_sl (e105_ok true) (fun h => h))) (a2c (.z (frz_ag (a2c .s (a2c .s (a2c .s a2n))))) a2n)) (.z .s) (fun h => absurd h (by decide))) (alc (bF (nF (qT c17))) (alc ⟨rfl, by decide⟩ (alc (cok0 false (a2c (.z (frz_sl (e105_ok true) (fun h => h))) (a2c (.z (frz_ag (a2c .s (a2c .s (a2c .s a2n))))) a2n)) (.z .s) (fun h => absurd h (by decide))) (alc ⟨rfl, by decide⟩ (alc (cok0 false (a2c (.z (frz_sl (e105_ok true) (fun h => h))) (a2c (.z (frz_ag (a2c .s (a2c .s (a2c .s a2n))))) a2n)) (.z .s) (fun h => absurd h (by decide))) aln))))))))))))))) (acal (impl_ends.J a0 (at_ a1 (wrap64 (x3 - 1))) _ hx5) (acal (impl_leaves.J a0 (at_ a1 x3) _ hx6) (acal (impl_arrives.J a0 (at_ a1 (wrap64 (x3 - 1))) _ hx7) nocal))) ?_
                                by_cases c18 : x6 < (wrap64 (x7 + a2))
                                · rw [if_pos c18] at h
                                  refine .cond' (.tmp 93) true [c_ 239228, c_ 239229, b_ 1, c_ 935, l_ 58, b_ 0, c_ 15] (bT (dT c18)) ?_
                                  refine .reg' [6] [] ⟨[(6, (B false))], [(1539, [(I (at_ a1 x3).f0), (I (at_ a1 x3).f1), (I (at_ a1 x3).f2)]), (2565, [(I (at_ a1 (wrap64 (x3 - 1))).f0), (I (at_ a1 (wrap64 (x3 - 1))).f1), (I (at_ a1 (wrap64 (x3 - 1))).f2)])], [], []⟩ [c_ 239229, b_ 1, c_ 935, l_ 58, b_ 0, c_ 15] aln nocal ?_
                                  have h := Option.some.inj h
                                  subst h
                                  exact .fin0 [] (B false) [] aln (.z .s)
                                · rw [if_neg c18] at h
                                  refine .cond' (.tmp 93) false [c_ 935, l_ 58, b_ 0, c_ 15] (bF (dF c18)) ?_
                                  refine .reg' [0, 1, 2, 23, 24, 25] [] ⟨[(0, (.sl true a0.length 2 (a0.flatMap (e105 true)))), (1, (.sl true a1.length 3 (a1.flatMap e102))), (2, (I a2)), (23, (.sl true a1.length 3 (a1.flatMap e102))), (24, (I (a1.length : Int))), (25, (I (wrap64 (x3 + 1))))], [(1539, [(I (at_ a1 x3).f0), (I (at_ a1 x3).f1), (I (at_ a1 x3).f2)]), (2565, [(I (at_ a1 (wrap64 (x3 - 1))).f0), (I (at_ a1 (wrap64 (x3 - 1))).f1), (I (at_ a1 (wrap64 (x3 - 1))).f2)])], [], []⟩ [l_ 58, b_ 0, c_ 15] aln nocal ?_
                                  refine .wk' [] [] [(0, (.sl true a0.length 2 (a0.flatMap (e105 true)))), (1, (.sl true a1.length 3 (a1.flatMap e102))), (2, (I a2)), (23, (.sl true a1.length 3 (a1.flatMap e102))), (24, (I (a1.length : Int))), (25, (I (wrap64 (x3 + 1))))] [] shn (enc_ (.z (frz_sl (e105_ok true) (fun h => h))) (enc_ (.z (frz_sl e102_ok (fun h => h))) (enc_ (.z .s) (enc_ (.z (frz_sl e102_ok (fun h => h))) (enc_ (.z .s) (enc_ (.z .s) enn)))))) ?_
                                  exact ih0 a0 a1 a2 (wrap64 (x3 + 1)) _ h
                              · rw [if_neg c17] at h
                                refine .reg' [0, 1, 2, 23, 24, 25, 93] [.no, .no, .no, .no, .no, .v (.sl true (at_ a0 (at_ a1 x3).f0).f1.length 3 ((at_ a0 (at_ a1 x3).f0).f1.flatMap e107)), .no, .no, .no, .no, .v (I (at_ (at_ a0 (at_ a1 x3).f0).f1 (at_ a1 x3).f1).f0), .no, .no, .c ⟨76, [(.sl true a0.length 2 (a0.flatMap (e105 true))), (.ag [(I (at_ a1 (wrap64 (x3 - 1))).f0), (I (at_ a1 (wrap64 (x3 - 1))).f1), (I (at_ a1 (wrap64 (x3 - 1))).f2)])], [], (I x5), [], [], [], [], (I x5), []⟩, .no, .v (B true)] ⟨[(0, (.sl true a0.length 2 (a0.flatMap (e105 true)))), (1, (.sl true a1.length 3 (a1.flatMap e102))), (2, (I a2)), (23, (.sl true a1.length 3 (a1.flatMap e102))), (24, (I (a1.length : Int))), (25, (I x3)), (93, (B true))], [(1539, [(I (at_ a1 x3).f0), (I (at_ a1 x3).f1), (I (at_ a1 x3).f2)]), (2565, [(I (at_ a1 (wrap64 (x3 - 1))).f0), (I (at_ a1 (wrap64 (x3 - 1))).f1), (I (at_ a1 (wrap64 (x3 - 1))).f2)])], [3 = 3 ∧ 0 + 1 ≤ 3, (0 : Int) ≤ (at_ a1 x3).f0 ∧ (at_ a1 x3).f0 < (a0.length : Int), rdC prog 104 (((a0.flatMap (e105 true)).drop ((at_ a1 x3).f0.toNat * 2)).drop 1) = (.sl true (at_ a0 (at_ a1 x3).f0).f1.length 3 ((at_ a0 (at_ a1 x3).f0).f1.flatMap e107)), 1 ≤ (((a0.flatMap (e105 true)).drop ((at_ a1 x3).f0.toNat * 2)).drop 1).length, 3 = 3 ∧ 1 + 1 ≤ 3, (0 : Int) ≤ (at_ a1 x3).f1 ∧ (at_ a1 x3).f1 < ((at_ a0 (at_ a1 x3).f0).f1.length : Int), rdC prog 3 ((((at_ a0 (at_ a1 x3).f0).f1.flatMap e107).drop ((at_ a1 x3).f1.toNat * 3)).drop 0) = (I (at_ (at_ a0 (at_ a1 x3).f0).f1 (at_ a1 x3).f1).f0), 1 ≤ ((((at_ a0 (at_ a1 x3).f0).f1.flatMap e107).drop ((at_ a1 x3).f1.toNat * 3)).drop 0).length, 3 = 3 ∧ 0 + 3 ≤ 3, COK (hget [(1539, [(I (at_ a1 x3).f0), (I (at_ a1 x3).f1), (I (at_ a1 x3).f2)]), (2565, [(I (at_ a1 (wrap64 (x3 - 1))).f0), (I (at_ a1 (wrap64 (x3 - 1))).f1), (I (at_ a1 (wrap64 (x3 - 1))).f2)])]) [(.sl true a0.length 2 (a0.flatMap (e105 true))), (.ag [(I (at_ a1 (wrap64 (x3 - 1))).f0), (I (at_ a1 (wrap64 (x3 - 1))).f1), (I (at_ a1 (wrap64 (x3 - 1))).f2)])] ⟨76, [(.sl true a0.length 2 (a0.flatMap (e105 true))), (.ag [(I (at_ a1 (wrap64 (x3 - 1))).f0), (I (at_ a1 (wrap64 (x3 - 1))).f1), (I (at_ a1 (wrap64 (x3 - 1))).f2)])], [], (I x5), [], [], [], [], (I x5), []⟩, (B (!((at_ (at_ a0 (at_ a1 x3).f0).f1 (at_ a1 x3).f1).f0 == x5)) : V) = B true], [⟨76, [(.sl true a0.length 2 (a0.flatMap (e105 true))), (.ag [(I (at_ a1 (wrap64 (x3 - 1))).f0), (I (at_ a1 (wrap64 (x3 - 1))).f1), (I (at_ a1 (wrap64 (x3 - 1))).f2)])], [], (I x5), [], [], [], [], (I x5), []⟩]⟩ [c_ 59807, b_ 1, c_ 935, l_ 58, b_ 0, c_ 15] (alc ⟨rfl, by decide⟩ (alc ⟨c9, c10⟩ (alc (ldC (e105_ok true) 1 (by decide) rfl c9 c10) (alc (okIj (e105_ok true) c9 c10 (by decide)) (alc ⟨rfl, by decide⟩ (alc ⟨c15, c16⟩ (alc (ldC e107_ok 0 (by decide) rfl c15 c16) (alc (okIj e107_ok c15 c16 (by decide)) (alc ⟨rfl, by decide⟩ (alc (cok0 false (a2c (.z (frz_sl (e105_ok true) (fun h => h))) (a2c (.z (frz_ag (a2c .s (a2c .s (a2c .s a2n))))) a2n)) (.z .s) (fun h => absurd h (by decide))) (alc (bT (nT (qF c17))) aln))))))))))) (acal (impl_ends.J a0 (at_ a1 (wrap64 (x3 - 1))) _ hx5) nocal) ?_
                                refine .cond' (.tmp 93) true [c_ 239228, c_ 239229, b_ 1, c_ 935, l_ 58, b_ 0, c_ 15] (rfl) ?_
                                refine .reg' [6] [] ⟨[(6, (B false))], [(1539, [(I (at_ a1 x3).f0), (I (at_ a1 x3).f1), (I (at_ a1 x3).f2)]), (2565, [(I (at_ a1 (wrap64 (x3 - 1))).f0), (I (at_ a1 (wrap64 (x3 - 1))).f1), (I (at_ a1 (wrap64 (x3 - 1))).f2)])], [], []⟩ [c_ 239229, b_ 1, c_ 935, l_ 58, b_ 0, c_ 15] aln nocal ?_
                                have h := Option.some.inj h
                                subst h
                                exact .fin0 [] (B false) [] aln (.z .s)
                            · rw [if_neg c16] at h
                              cases h
                          · rw [if_neg c15] at h
                            cases h
                        · rw [if_neg c14] at h
                          cases h
                      · rw [if_neg c13] at h
                        cases h
                · rw [if_neg c10] at h
                  cases h
              · rw [if_neg c9] at h
                cases h
        · rw [if_neg c6] at h
          refine .reg' [0, 1, 2, 7, 8, 23, 24, 25, 60] [.no, .no, .no, .no, .no, .c ⟨57, [(I (at_ a1 x3).f0), (I 0), (I (wrap64 ((a0.length : Int) - 1)))], [], (B x4), [], [], [], [], (B x4), []⟩, .no, .v (B true)] ⟨[(0, (.sl true a0.length 2 (a0.flatMap (e105 true)))), (1, (.sl true a1.length 3 (a1.flatMap e102))), (2, (I a2)), (7, (I x3)), (8, (.pt 1539 0 3)), (23, (.sl true a1.length 3 (a1.flatMap e102))), (24, (I (a1.length : Int))), (25, (I x3)), (60, (B true))], [(1539, [(I (at_ a1 x3).f0), (I (at_ a1 x3).f1), (I (at_ a1 x3).f2)])], [3 = 3 ∧ 0 + 1 ≤ 3, COK (hget [(1539, [(I (at_ a1 x3).f0), (I (at_ a1 x3).f1), (I (at_ a1 x3).f2)])]) [(I (at_ a1 x3).f0), (I 0), (I (wrap64 ((a0.length : Int) - 1)))] ⟨57, [(I (at_ a1 x3).f0), (I 0), (I (wrap64 ((a0.length : Int) - 1)))], [], (B x4), [], [], [], [], (B x4), []⟩, (B (!x4) : V) = B true], [⟨57, [(I (at_ a1 x3).f0), (I 0), (I (wrap64 ((a0.length : Int) - 1)))], [], (B x4), [], [], [], [], (B x4), []⟩]⟩ [c_ 14949, c_ 7475, b_ 1, c_ 935, l_ 58, b_ 0, c_ 15] (alc ⟨rfl, by decide⟩ (alc (cok0 false (a2c (.z .s) (a2c (.z .s) (a2c (.z .s) a2n))) (.z .s) (fun h => absurd h (by decide))) (alc (bT (nT (vF c6))) aln))) (acal (impl_between.J ((at_ a1 x3).f0) 0 (wrap64 ((a0.length : Int) - 1)) _ hx4) nocal) ?_
          refine .cond' (.tmp 60) true [c_ 59796, c_ 59797, c_ 7475, b_ 1, c_ 935, l_ 58, b_ 0, c_ 15] (rfl) ?_
          refine .reg' [6] [] ⟨[(6, (B false))], [(1539, [(I (at_ a1 x3).f0), (I (at_ a1 x3).f1), (I (at_ a1 x3).f2)])], [], []⟩ [c_ 59797, c_ 7475, b_ 1, c_ 935, l_ 58, b_ 0, c_ 15] aln nocal ?_
          have h := Option.some.inj h
          subst h
          exact .fin0 [] (B false) [] aln (.z .s)
      · rw [if_neg c5] at h
        cases h
    · rw [if_neg c4] at h
      refine .cond' (.tmp 26) false [c_ 30, c_ 31] (bF (dF c4)) ?_
      refine .reg' [6] [] ⟨[(6, (B true))], [], [], []⟩ [c_ 31] aln nocal ?_
      have h := Option.some.inj h
      subst h
      exact .fin0 [] (B true) [] aln (.z .s)
theorem impl_LegsOk.J (k : Nat) (a0 : (List S105)) (a1 : (List S102)) (a2 : Int) (r : Bool) (h : impl_LegsOk.f k a0 a1 a2 = some r) : J prog (.call 32 [(.sl true a0.length 2 (a0.flatMap (e105 true))), (.sl true a1.length 3 (a1.flatMap e102)), (I a2)] [] (B r) []) := by
  unfold impl_LegsOk.f at h
  have ih0 := impl_LegsOk.lab k
  refine .call' [c_ 2, c_ 3] ?_
  refine .reg' [0, 1, 2] [] ⟨[(0, (.sl true a0.length 2 (a0.flatMap (e105 true)))), (1, (.sl true a1.length 3 (a1.flatMap e102))), (2, (I a2))], [], [], []⟩ [c_ 12, c_ 13, c_ 7] aln nocal ?_
  obtain ⟨x1, hx1, h⟩ := Option.bind_eq_some_iff.mp h
  by_cases c1 : x1 = true
  · rw [if_pos c1] at h
    obtain ⟨x2, hx2, h⟩ := Option.bind_eq_some_iff.mp h
    by_cases c2 : x2 = true
    · rw [if_pos c2] at h
      refine .reg' [0, 1, 2, 22] [.no, .c ⟨74, [(.sl true a0.length 2 (a0.flatMap (e105 true)))], [], (B x1), [], [], [], [], (B x1), []⟩, .no, .v (B false), .no, .c ⟨75, [(I a2)], [], (B x2), [], [], [], [], (B x2), []⟩, .no, .no, .v (B false)] ⟨[(0, (.sl true a0.length 2 (a0.flatMap (e105 true)))), (1, (.sl true a1.length 3 (a1.flatMap e102))), (2, (I a2)), (22, (B (decide ((a1.length : Int) > 5))))], [], [COK (hget []) [(.sl true a0.length 2 (a0.flatMap (e105 true)))] ⟨74, [(.sl true a0.length 2 (a0.flatMap (e105 true)))], [], (B x1), [], [], [], [], (B x1), []⟩, (B (!x1) : V) = B false, COK (hget []) [(I a2)] ⟨75, [(I a2)], [], (B x2), [], [], [], [], (B x2), []⟩, (B (!x2) : V) = B false], [⟨74, [(.sl true a0.length 2 (a0.flatMap (e105 true)))], [], (B x1), [], [], [], [], (B x1), []⟩, ⟨75, [(I a2)], [], (B x2), [], [], [], [], (B x2), []⟩]⟩ [c_ 13, c_ 7] (alc (cok0 false (a2c (.z (frz_sl (e105_ok true) (fun h => h))) a2n) (.z .s) (fun h => absurd h (by decide))) (alc (bF (nF c1)) (alc (cok0 false (a2c (.z .s) a2n) (.z .s) (fun h => absurd h (by decide))) (alc (bF (nF c2)) aln)))) (acal (impl_TableOk.J k a0 _ hx1) (acal (impl_changeOk.J a2 _ hx2) nocal)) ?_
      by_cases c3 : (a1.length : Int) > 5
      · rw [if_pos c3] at h
        refine .cond' (.tmp 22) true [c_ 52, c_ 53, c_ 7] (bT (dT c3)) ?_
        refine .reg' [6] [] ⟨[(6, (B false))], [], [], []⟩ [c_ 53, c_ 7] aln nocal ?_
        have h := Option.some.inj h
        subst h
        exact .fin0 [] (B false) [] aln (.z .s)
      · rw [if_neg c3] at h
        refine .cond' (.tmp 22) false [c_ 28, c_ 29, c_ 15] (bF (dF c3)) ?_
        refine .reg' [0, 1, 2, 23, 24, 25] [] ⟨[(0, (.sl true a0.length 2 (a0.flatMap (e105 true)))), (1, (.sl true a1.length 3 (a1.flatMap e102))), (2, (I a2)), (23, (.sl true a1.length 3 (a1.flatMap e102))), (24, (I (a1.length : Int))), (25, (I 0))], [], [], []⟩ [l_ 58, b_ 0, c_ 15] aln nocal ?_
        exact ih0 a0 a1 a2 0 _ h
    · rw [if_neg c2] at h
      refine .reg' [0, 1, 2, 22] [.no, .c ⟨74, [(.sl true a0.length 2 (a0.flatMap (e105 true)))], [], (B x1), [], [], [], [], (B x1), []⟩, .no, .v (B false), .no, .c ⟨75, [(I a2)], [], (B x2), [], [], [], [], (B x2), []⟩, .no, .no, .v (B true)] ⟨[(0, (.sl true a0.length 2 (a0.flatMap (e105 true)))), (1, (.sl true a1.length 3 (a1.flatMap e102))), (2, (I a2)), (22, (B true))], [], [COK (hget []) [(.sl true a0.length 2 (a0.flatMap (e105 true)))] ⟨74, [(.sl true a0.length 2 (a0.flatMap (e105 true)))], [], (B x1), [], [], [], [], (B x1), []⟩, (B (!x1) : V) = B false, COK (hget []) [(I a2)] ⟨75, [(I a2)], [], (B x2), [], [], [], [], (B x2), []⟩, (B (!x2) : V) = B true], [⟨74, [(.sl true a0.length 2 (a0.flatMap (e105 true)))], [], (B x1), [], [], [], [], (B x1), []⟩, ⟨75, [(I a2)], [], (B x2), [], [], [], [], (B x2), []⟩]⟩ [c_ 13, c_ 7] (alc (cok0 false (a2c (.z (frz_sl (e105_ok true) (fun h => h))) a2n) (.z .s) (fun h => absurd h (by decide))) (alc (bF (nF c1)) (alc (cok0 false (a2c (.z .s) a2n) (.z .s) (fun h => absurd h (by decide))) (alc (bT (nT (vF c2))) aln)))) (acal (impl_TableOk.J k a0 _ hx1) (acal (impl_changeOk.J a2 _ hx2) nocal)) ?_
      refine .cond' (.tmp 22) true [c_ 52, c_ 53, c_ 7] (rfl) ?_
      refine .reg' [6] [] ⟨[(6, (B false))], [], [], []⟩ [c_ 53, c_ 7] aln nocal ?_
      have h := Option.some.inj h
      subst h
      exact .fin0 [] (B false) [] aln (.z .s)
  · rw [if_neg c1] at h
    refine .reg' [0, 1, 2, 22] [.no, .c ⟨74, [(.sl true a0.length 2 (a0.flatMap (e105 true)))], [], (B x1), [], [], [], [], (B x1), []⟩, .no, .v (B true)] ⟨[(0, (.sl true a0.length 2 (a0.flatMap (e105 true)))), (1, (.sl true a1.length 3 (a1.flatMap e102))), (2, (I a2)), (22, (B true))], [], [COK (hget []) [(.sl true a0.length 2 (a0.flatMap (e105 true)))] ⟨74, [(.sl true a0.length 2 (a0.flatMap (e105 true)))], [], (B x1), [], [], [], [], (B x1), []⟩, (B (!x1) : V) = B true], [⟨74, [(.sl true a0.length 2 (a0.flatMap (e105 true)))], [], (B x1), [], [], [], [], (B x1), []⟩]⟩ [c_ 13, c_ 7] (alc (cok0 false (a2c (.z (frz_sl (e105_ok true) (fun h => h))) a2n) (.z .s) (fun h => absurd h (by decide))) (alc (bT (nT (vF c1))) aln)) (acal (impl_TableOk.J k a0 _ hx1) nocal) ?_
    refine .cond' (.tmp 22) true [c_ 52, c_ 53, c_ 7] (rfl) ?_
    refine .reg' [6] [] ⟨[(6, (B false))], [], [], []⟩ [c_ 53, c_ 7] aln nocal ?_
    have h := Option.some.inj h
    subst h
    exact .fin0 [] (B false) [] aln (.z .s)
/-! laws_eqCall: function 124 -/
def laws_eqCall.f (a0 : S107) (a1 : S107) : Option Bool := (if a0.f0 = a1.f0 then (if a0.f1 = a1.f1 then (if a0.f2 = a1.f2 then (some true) else (some false)) else (some false)) else (some false))
theorem laws_eqCall.J (a0 : S107) (a1 : S107) (r : Bool) (h : laws_eqCall.f a0 a1 = some r) : J prog (.call 124 [(.ag [(I a0.f0), (I a0.f1), (I a0.f2)]), (.ag [(I a1.f0), (I a1.f1), (I a1.f2)])] [] (B r) []) := by
  unfold laws_eqCall.f at h
  refine .call' [c_ 2, c_ 3] ?_
  refine .reg' [2, 3] [] ⟨[(2, (.pt 256 0 3)), (3, (.pt 257 0 3))], [(256, [(I a0.f0), (I a0.f1), (I a0.f2)]), (257, [(I a1.f0), (I a1.f1), (I a1.f2)])], [], []⟩ [c_ 12, c_ 13, c_ 7] aln nocal ?_
  refine .reg' [2, 3, 9] [] ⟨[(2, (.pt 256 0 3)), (3, (.pt 257 0 3)), (9, (B (!(a0.f0 == a1.f0))))], [(256, [(I a0.f0), (I a0.f1), (I a0.f2)]), (257, [(I a1.f0), (I a1.f1), (I a1.f2)])], [3 = 3 ∧ 0 + 1 ≤ 3, 3 = 3 ∧ 0 + 1 ≤ 3], []⟩ [c_ 13, c_ 7] (alc ⟨rfl, by decide⟩ (alc ⟨rfl, by decide⟩ aln)) nocal ?_
  by_cases c1 : a0.f0 = a1.f0
  · rw [if_pos c1] at h
    refine .cond' (.tmp 9) false [c_ 28, c_ 29, c_ 15] (bF (nF (qT c1))) ?_
    refine .reg' [2, 3, 14] [] ⟨[(2, (.pt 256 0 3)), (3, (.pt 257 0 3)), (14, (B (!(a0.f1 == a1.f1))))], [(256, [(I a0.f0), (I a0.f1), (I a0.f2)]), (257, [(I a1.f0), (I a1.f1), (I a1.f2)])], [3 = 3 ∧ 1 + 1 ≤ 3, 3 = 3 ∧ 1 + 1 ≤ 3], []⟩ [c_ 29, c_ 15] (alc ⟨rfl, by decide⟩ (alc ⟨rfl, by decide⟩ aln)) nocal ?_
    by_cases c2 : a0.f1 = a1.f1
    · rw [if_pos c2] at h
      refine .cond' (.tmp 14) false [c_ 60, c_ 61, c_ 31] (bF (nF (qT c2))) ?_
      refine .reg' [19] [] ⟨[(19, (B (!(a0.f2 == a1.f2))))], [(256, [(I a0.f0), (I a0.f1), (I a0.f2)]), (257, [(I a1.f0), (I a1.f1), (I a1.f2)])], [3 = 3 ∧ 2 + 1 ≤ 3, 3 = 3 ∧ 2 + 1 ≤ 3], []⟩ [c_ 61, c_ 31] (alc ⟨rfl, by decide⟩ (alc ⟨rfl, by decide⟩ aln)) nocal ?_
      by_cases c3 : a0.f2 = a1.f2
      · rw [if_pos c3] at h
        refine .cond' (.tmp 19) false [c_ 62, c_ 63] (bF (nF (qT c3))) ?_
        refine .reg' [4] [] ⟨[(4, (B true))], [(256, [(I a0.f0), (I a0.f1), (I a0.f2)]), (257, [(I a1.f0), (I a1.f1), (I a1.f2)])], [], []⟩ [c_ 63] aln nocal ?_
        have h := Option.some.inj h
        subst h
        exact .fin0 [] (B true) [] aln (.z .s)
      · rw [if_neg c3] at h
        refine .cond' (.tmp 19) true [c_ 244, c_ 245, c_ 31] (bT (nT (qF c3))) ?_
        refine .reg' [4] [] ⟨[(4, (B false))], [(256, [(I a0.f0), (I a0.f1), (I a0.f2)]), (257, [(I a1.f0), (I a1.f1), (I a1.f2)])], [], []⟩ [c_ 245, c_ 31] aln nocal ?_
        have h := Option.some.inj h
        subst h
        exact .fin0 [] (B false) [] aln (.z .s)
    · rw [if_neg c2] at h
      refine .cond' (.tmp 14) true [c_ 116, c_ 117, c_ 15] (bT (nT (qF c2))) ?_
      refine .reg' [4] [] ⟨[(4, (B false))], [(256, [(I a0.f0), (I a0.f1), (I a0.f2)]), (257, [(I a1.f0), (I a1.f1), (I a1.f2)])], [], []⟩ [c_ 117, c_ 15] aln nocal ?_
      have h := Option.some.inj h
      subst h
      exact .fin0 [] (B false) [] aln (.z .s)
  · rw [if_neg c1] at h
    refine .cond' (.tmp 9) true [c_ 52, c_ 53, c_ 7] (bT (nT (qF c1))) ?_
    refine .reg' [4] [] ⟨[(4, (B false))], [(256, [(I a0.f0), (I a0.f1), (I a0.f2)]), (257, [(I a1.f0), (I a1.f1), (I a1.f2)])], [], []⟩ [c_ 53, c_ 7] aln nocal ?_
    have h := Option.some.inj h
    subst h
    exact .fin0 [] (B false) [] aln (.z .s)
/-! laws_eqCallS: function 108 -/
def laws_eqCallS.l0 : Nat → (List S107) → (List S107) → Int → Option Bool
 | 0, _, _, _ => none
 | k + 1, a0, a1, x1 => (if x1 < (a0.length : Int) then (if 0 ≤ x1 then (if x1 < (a1.length : Int) then ((laws_eqCall.f (at_ a0 x1) (at_ a1 x1)).bind fun x2 => (if x2 = true then (laws_eqCallS.l0 k a0 a1 (wrap64 (x1 + 1))) else (some false))) else none) else none) else (some true))
def laws_eqCallS.f (k : Nat) (a0 : (List S107)) (a1 : (List S107)) : Option Bool := (if (a0.length : Int) = (a1.length : Int) then (laws_eqCallS.l0 k a0 a1 0) else (some false))
theorem laws_eqCallS.lab : ∀ k, (∀ (a0 : (List S107)) (a1 : (List S107)) (x1 : Int) (r : Bool), laws_eqCallS.l0 k a0 a1 x1 = some r → J prog (.run 108 [] [l_ 58, b_ 0, c_ 15] [(0, (.sl true a0.length 3 (a0.flatMap e107))), (1, (.sl true a1.length 3 (a1.flatMap e107))), (5, (I x1))] [] (B r) []))
 | 0 => (by intro a0 a1 x1 r h; unfold laws_eqCallS.l0 at h; cases h)
 | k + 1 => by
  have ih0 := laws_eqCallS.lab k
  · intro a0 a1 x1 r h
    unfold laws_eqCallS.l0 at h
    refine .loop' [c_ 464, c_ 465, c_ 233, l_ 58, b_ 0, c_ 15] ?_
    refine .reg' [0, 1, 5, 14] [] ⟨[(0, (.sl true a0.length 3 (a0.flatMap e107))), (1, (.sl true a1.length 3 (a1.flatMap e107))), (5, (I x1)), (14, (B (decide (x1 < (a0.length : Int)))))], [], [], []⟩ [c_ 465, c_ 233, l_ 58, b_ 0, c_ 15] aln nocal ?_
    by_cases c2 : x1 < (a0.length : Int)
    · rw [if_pos c2] at h
      refine .cond' (.tmp 14) true [c_ 1864, c_ 1865, b_ 1, c_ 467, l_ 58, b_ 0, c_ 15] (bT (dT c2)) ?_
      by_cases c3 : 0 ≤ x1
      · rw [if_pos c3] at h
        by_cases c4 : x1 < (a1.length : Int)
        · rw [if_pos c4] at h
          obtain ⟨x2, hx2, h⟩ := Option.bind_eq_some_iff.mp h
          refine .reg' [0, 1, 5, 26] [.no, .no, .no, .v (.ag [(I (at_ a0 x1).f0), (I (at_ a0 x1).f1), (I (at_ a0 x1).f2)]), .no, .no, .no, .v (.ag [(I (at_ a1 x1).f0), (I (at_ a1 x1).f1), (I (at_ a1 x1).f2)]), .c ⟨124, [(.ag [(I (at_ a0 x1).f0), (I (at_ a0 x1).f1), (I (at_ a0 x1).f2)]), (.ag [(I (at_ a1 x1).f0), (I (at_ a1 x1).f1), (I (at_ a1 x1).f2)])], [], (B x2), [], [], [], [], (B x2), []⟩] ⟨[(0, (.sl true a0.length 3 (a0.flatMap e107))), (1, (.sl true a1.length 3 (a1.flatMap e107))), (5, (I x1)), (26, (B (!x2)))], [], [(0 : Int) ≤ x1 ∧ x1 < (a0.length : Int), rdC prog 108 ((a0.flatMap e107).drop (x1.toNat * 3)) = (.ag [(I (at_ a0 x1).f0), (I (at_ a0 x1).f1), (I (at_ a0 x1).f2)]), 3 ≤ ((a0.flatMap e107).drop (x1.toNat * 3)).length, (0 : Int) ≤ x1 ∧ x1 < (a1.length : Int), rdC prog 108 ((a1.flatMap e107).drop (x1.toNat * 3)) = (.ag [(I (at_ a1 x1).f0), (I (at_ a1 x1).f1), (I (at_ a1 x1).f2)]), 3 ≤ ((a1.flatMap e107).drop (x1.toNat * 3)).length, COK (hget []) [(.ag [(I (at_ a0 x1).f0), (I (at_ a0 x1).f1), (I (at_ a0 x1).f2)]), (.ag [(I (at_ a1 x1).f0), (I (at_ a1 x1).f1), (I (at_ a1 x1).f2)])] ⟨124, [(.ag [(I (at_ a0 x1).f0), (I (at_ a0 x1).f1), (I (at_ a0 x1).f2)]), (.ag [(I (at_ a1 x1).f0), (I (at_ a1 x1).f1), (I (at_ a1 x1).f2)])], [], (B x2), [], [], [], [], (B x2), []⟩], [⟨124, [(.ag [(I (at_ a0 x1).f0), (I (at_ a0 x1).f1), (I (at_ a0 x1).f2)]), (.ag [(I (at_ a1 x1).f0), (I (at_ a1 x1).f1), (I (at_ a1 x1).f2)])], [], (B x2), [], [], [], [], (B x2), []⟩]⟩ [c_ 1865, b_ 1, c_ 467, l_ 58, b_ 0, c_ 15] (alc ⟨c3, c2⟩ (alc (ldA e107_ok rfl rfl c3 c2) (alc (okI e107_ok c3 c2 (by decide)) (alc ⟨c3, c4⟩ (alc (ldA e107_ok rfl rfl c3 c4) (alc (okI e107_ok c3 c4 (by decide)) (alc (cok0 false (a2c (.z (frz_ag (a2c .s (a2c .s (a2c .s a2n))))) (a2c (.z (frz_ag (a2c .s (a2c .s (a2c .s a2n))))) a2n)) (.z .s) (fun h => absurd h (by decide))) aln))))))) (acal (laws_eqCall.J (at_ a0 x1) (at_ a1 x1) _ hx2) nocal) ?_
          by_cases c5 : x2 = true
          · rw [if_pos c5] at h
            refine .cond' (.tmp 26) false [c_ 467, l_ 58, b_ 0, c_ 15] (bF (nF c5)) ?_
            refine .reg' [0, 1, 5] [] ⟨[(0, (.sl true a0.length 3 (a0.flatMap e107))), (1, (.sl true a1.length 3 (a1.flatMap e107))), (5, (I (wrap64 (x1 + 1))))], [], [], []⟩ [l_ 58, b_ 0, c_ 15] aln nocal ?_
            exact ih0 a0 a1 (wrap64 (x1 + 1)) _ h
          · rw [if_neg c5] at h
            refine .cond' (.tmp 26) true [c_ 7460, c_ 7461, b_ 1, c_ 467, l_ 58, b_ 0, c_ 15] (bT (nT (vF c5))) ?_
            refine .reg' [4] [] ⟨[(4, (B false))], [], [], []⟩ [c_ 7461, b_ 1, c_ 467, l_ 58, b_ 0, c_ 15] aln nocal ?_
            have h := Option.some.inj h
            subst h
            exact .fin0 [] (B false) [] aln (.z .s)
        · rw [if_neg c4] at h
          cases h
      · rw [if_neg c3] at h
        cases h
    · rw [if_neg c2] at h
      refine .cond' (.tmp 14) false [c_ 30, c_ 31] (bF (dF c2)) ?_
      refine .reg' [4] [] ⟨[(4, (B true))], [], [], []⟩ [c_ 31] aln nocal ?_
      have h := Option.some.inj h
      subst h
      exact .fin0 [] (B true) [] aln (.z .s)
theorem laws_eqCallS.J (k : Nat) (a0 : (List S107)) (a1 : (List S107)) (r : Bool) (h : laws_eqCallS.f k a0 a1 = some r) : J prog (.call 108 [(.sl true a0.length 3 (a0.flatMap e107)), (.sl true a1.length 3 (a1.flatMap e107))] [] (B r) []) := by
  unfold laws_eqCallS.f at h
  have ih0 := laws_eqCallS.lab k
  refine .call' [c_ 2, c_ 3] ?_
  refine .reg' [0, 1] [] ⟨[(0, (.sl true a0.length 3 (a0.flatMap e107))), (1, (.sl true a1.length 3 (a1.flatMap e107)))], [], [], []⟩ [c_ 12, c_ 13, c_ 7] aln nocal ?_
  refine .reg' [0, 1, 10] [] ⟨[(0, (.sl true a0.length 3 (a0.flatMap e107))), (1, (.sl true a1.length 3 (a1.flatMap e107))), (10, (B (!((a0.length : Int) == (a1.length : Int)))))], [], [], []⟩ [c_ 13, c_ 7] aln nocal ?_
  by_cases c1 : (a0.length : Int) = (a1.length : Int)
  · rw [if_pos c1] at h
    refine .cond' (.tmp 10) false [c_ 28, c_ 29, c_ 15] (bF (nF (qT c1))) ?_
    refine .reg' [0, 1, 5] [] ⟨[(0, (.sl true a0.length 3 (a0.flatMap e107))), (1, (.sl true a1.length 3 (a1.flatMap e107))), (5, (I 0))], [], [], []⟩ [l_ 58, b_ 0, c_ 15] aln nocal ?_
    exact ih0 a0 a1 0 _ h
  · rw [if_neg c1] at h
    refine .cond' (.tmp 10) true [c_ 52, c_ 53, c_ 7] (bT (nT (qF c1))) ?_
    refine .reg' [4] [] ⟨[(4, (B false))], [], [], []⟩ [c_ 53, c_ 7] aln nocal ?_
    have h := Option.some.inj h
    subst h
    exact .fin0 [] (B false) [] aln (.z .s)
/-! laws_eqTrip: function 79 -/
def laws_eqTrip.f (k : Nat) (a0 : S105) (a1 : S105) : Option Bool := (if (sEq a0.f0 a1.f0) = true then ((laws_eqCallS.f k a0.f1 a1.f1).bind fun x1 => (if x1 = true then (some true) else (some false))) else (some false))
theorem laws_eqTrip.J (k : Nat) (a0 : S105) (a1 : S105) (r : Bool) (h : laws_eqTrip.f k a0 a1 = some r) : J prog (.call 79 [(.ag [(S a0.f0), (.sl true a0.f1.length 3 (a0.f1.flatMap e107))]), (.ag [(S a1.f0), (.sl true a1.f1.length 3 (a1.f1.flatMap e107))])] [] (B r) []) := by
  unfold laws_eqTrip.f at h
  refine .call' [c_ 2, c_ 3] ?_
  refine .reg' [2, 3] [] ⟨[(2, (.pt 256 0 2)), (3, (.pt 257 0 2))], [(256, [(S a0.f0), (.sl true a0.f1.length 3 (a0.f1.flatMap e107))]), (257, [(S a1.f0), (.sl true a1.f1.length 3 (a1.f1.flatMap e107))])], [], []⟩ [c_ 12, c_ 13, c_ 7] aln nocal ?_
  refine .reg' [2, 3, 9] [] ⟨[(2, (.pt 256 0 2)), (3, (.pt 257 0 2)), (9, (B (!(sEq a0.f0 a1.f0))))], [(256, [(S a0.f0), (.sl true a0.f1.length 3 (a0.f1.flatMap e107))]), (257, [(S a1.f0), (.sl true a1.f1.length 3 (a1.f1.flatMap e107))])], [2 = 2 ∧ 0 + 1 ≤ 2, 2 = 2 ∧ 0 + 1 ≤ 2], []⟩ [c_ 13, c_ 7] (alc ⟨rfl, by decide⟩ (alc ⟨rfl, by decide⟩ aln)) nocal ?_
  by_cases c1 : (sEq a0.f0 a1.f0) = true
  · rw [if_pos c1] at h
    refine .cond' (.tmp 9) false [c_ 28, c_ 29, c_ 15] (bF (nF c1)) ?_
    obtain ⟨x1, hx1, h⟩ := Option.bind_eq_some_iff.mp h
    refine .reg' [15] [.no, .no, .no, .no, .c ⟨108, [(.sl true a0.f1.length 3 (a0.f1.flatMap e107)), (.sl true a1.f1.length 3 (a1.f1.flatMap e107))], [], (B x1), [], [], [], [], (B x1), []⟩] ⟨[(15, (B (!x1)))], [(256, [(S a0.f0), (.sl true a0.f1.length 3 (a0.f1.flatMap e107))]), (257, [(S a1.f0), (.sl true a1.f1.length 3 (a1.f1.flatMap e107))])], [2 = 2 ∧ 1 + 1 ≤ 2, 2 = 2 ∧ 1 + 1 ≤ 2, COK (hget [(256, [(S a0.f0), (.sl true a0.f1.length 3 (a0.f1.flatMap e107))]), (257, [(S a1.f0), (.sl true a1.f1.length 3 (a1.f1.flatMap e107))])]) [(.sl true a0.f1.length 3 (a0.f1.flatMap e107)), (.sl true a1.f1.length 3 (a1.f1.flatMap e107))] ⟨108, [(.sl true a0.f1.length 3 (a0.f1.flatMap e107)), (.sl true a1.f1.length 3 (a1.f1.flatMap e107))], [], (B x1), [], [], [], [], (B x1), []⟩], [⟨108, [(.sl true a0.f1.length 3 (a0.f1.flatMap e107)), (.sl true a1.f1.length 3 (a1.f1.flatMap e107))], [], (B x1), [], [], [], [], (B x1), []⟩]⟩ [c_ 29, c_ 15] (alc ⟨rfl, by decide⟩ (alc ⟨rfl, by decide⟩ (alc (cok0 false (a2c (.z (frz_sl e107_ok (fun h => h))) (a2c (.z (frz_sl e107_ok (fun h => h))) a2n)) (.z .s) (fun h => absurd h (by decide))) aln))) (acal (laws_eqCallS.J k a0.f1 a1.f1 _ hx1) nocal) ?_
    by_cases c2 : x1 = true
    · rw [if_pos c2] at h
      refine .cond' (.tmp 15) false [c_ 30, c_ 31] (bF (nF c2)) ?_
      refine .reg' [4] [] ⟨[(4, (B true))], [(256, [(S a0.f0), (.sl true a0.f1.length 3 (a0.f1.flatMap e107))]), (257, [(S a1.f0), (.sl true a1.f1.length 3 (a1.f1.flatMap e107))])], [], []⟩ [c_ 31] aln nocal ?_
      have h := Option.some.inj h
      subst h
      exact .fin0 [] (B true) [] aln (.z .s)
    · rw [if_neg c2] at h
      refine .cond' (.tmp 15) true [c_ 116, c_ 117, c_ 15] (bT (nT (vF c2))) ?_
      refine .reg' [4] [] ⟨[(4, (B false))], [(256, [(S a0.f0), (.sl true a0.f1.length 3 (a0.f1.flatMap e107))]), (257, [(S a1.f0), (.sl true a1.f1.length 3 (a1.f1.flatMap e107))])], [], []⟩ [c_ 117, c_ 15] aln nocal ?_
      have h := Option.some.inj h
      subst h
      exact .fin0 [] (B false) [] aln (.z .s)
  · rw [if_neg c1] at h
    refine .cond' (.tmp 9) true [c_ 52, c_ 53, c_ 7] (bT (nT (vF c1))) ?_
    refine .reg' [4] [] ⟨[(4, (B false))], [(256, [(S a0.f0), (.sl true a0.f1.length 3 (a0.f1.flatMap e107))]), (257, [(S a1.f0), (.sl true a1.f1.length 3 (a1.f1.flatMap e107))])], [], []⟩ [c_ 53, c_ 7] aln nocal ?_
    have h := Option.some.inj h
    subst h
    exact .fin0 [] (B false) [] aln (.z .s)
/-! laws_eqTripS: function 33 -/
def laws_eqTripS.l0 : Nat → (List S105) → (List S105) → Int → Option Bool
 | 0, _, _, _ => none
 | k + 1, a0, a1, x1 => (if x1 < (a0.length : Int) then (if 0 ≤ x1 then (if x1 < (a1.length : Int) then ((laws_eqTrip.f k (at_ a0 x1) (at_ a1 x1)).bind fun x2 => (if x2 = true then (laws_eqTripS.l0 k a0 a1 (wrap64 (x1 + 1))) else (some false))) else none) else none) else (some true))
def laws_eqTripS.f (k : Nat) (a0 : (List S105)) (a1 : (List S105)) : Option Bool := (if (a0.length : Int) = (a1.length : Int) then (laws_eqTripS.l0 k a0 a1 0) else (some false))
theorem laws_eqTripS.lab : ∀ k, (∀ (a0 : (List S105)) (a1 : (List S105)) (x1 : Int) (r : Bool), laws_eqTripS.l0 k a0 a1 x1 = some r → J prog (.run 33 [] [l_ 58, b_ 0, c_ 15] [(0, (.sl true a0.length 2 (a0.flatMap (e105 true)))), (1, (.sl true a1.length 2 (a1.flatMap (e105 true)))), (5, (I x1))] [] (B r) []))
 | 0 => (by intro a0 a1 x1 r h; unfold laws_eqTripS.l0 at h; cases h)
 | k + 1 => by
  have ih0 := laws_eqTripS.lab k
  · intro a0 a1 x1 r h
    unfold laws_eqTripS.l0 at h
    refine .loop' [c_ 464, c_ 465, c_ 233, l_ 58, b_ 0, c_ 15] ?_
    refine .reg' [0, 1, 5, 14] [] ⟨[(0, (.sl true a0.length 2 (a0.flatMap (e105 true)))), (1, (.sl true a1.length 2 (a1.flatMap (e105 true)))), (5, (I x1)), (14, (B (decide (x1 < (a0.length : Int)))))], [], [], []⟩ [c_ 465, c_ 233, l_ 58, b_ 0, c_ 15] aln nocal ?_
    by_cases c2 : x1 < (a0.length : Int)
    · rw [if_pos c2] at h
      refine .cond' (.tmp 14) true [c_ 1864, c_ 1865, b_ 1, c_ 467, l_ 58, b_ 0, c_ 15] (bT (dT c2)) ?_
      by_cases c3 : 0 ≤ x1
      · rw [if_pos c3] at h
        by_cases c4 : x1 < (a1.length : Int)
        · rw [if_pos c4] at h
          obtain ⟨x2, hx2, h⟩ := Option.bind_eq_some_iff.mp h
          refine .reg' [0, 1, 5, 26] [.no, .no, .no, .v (.ag [(S (at_ a0 x1).f0), (.sl true (at_ a0 x1).f1.length 3 ((at_ a0 x1).f1.flatMap e107))]), .no, .no, .no, .v (.ag [(S (at_ a1 x1).f0), (.sl true (at_ a1 x1).f1.length 3 ((at_ a1 x1).f1.flatMap e107))]), .c ⟨79, [(.ag [(S (at_ a0 x1).f0), (.sl true (at_ a0 x1).f1.length 3 ((at_ a0 x1).f1.flatMap e107))]), (.ag [(S (at_ a1 x1).f0), (.sl true (at_ a1 x1).f1.length 3 ((at_ a1 x1).f1.flatMap e107))])], [], (B x2), [], [], [], [], (B x2), []⟩] ⟨[(0, (.sl true a0.length 2 (a0.flatMap (e105 true)))), (1, (.sl true a1.length 2 (a1.flatMap (e105 true)))), (5, (I x1)), (26, (B (!x2)))], [], [(0 : Int) ≤ x1 ∧ x1 < (a0.length : Int), rdC prog 106 ((a0.flatMap (e105 true)).drop (x1.toNat * 2)) = (.ag [(S (at_ a0 x1).f0), (.sl true (at_ a0 x1).f1.length 3 ((at_ a0 x1).f1.flatMap e107))]), 2 ≤ ((a0.flatMap (e105 true)).drop (x1.toNat * 2)).length, (0 : Int) ≤ x1 ∧ x1 < (a1.length : Int), rdC prog 106 ((a1.flatMap (e105 true)).drop (x1.toNat * 2)) = (.ag [(S (at_ a1 x1).f0), (.sl true (at_ a1 x1).f1.length 3 ((at_ a1 x1).f1.flatMap e107))]), 2 ≤ ((a1.flatMap (e105 true)).drop (x1.toNat * 2)).length, COK (hget []) [(.ag [(S (at_ a0 x1).f0), (.sl true (at_ a0 x1).f1.length 3 ((at_ a0 x1).f1.flatMap e107))]), (.ag [(S (at_ a1 x1).f0), (.sl true (at_ a1 x1).f1.length 3 ((at_ a1 x1).f1.flatMap e107))])] ⟨79, [(.ag [(S (at_ a0 x1).f0), (.sl true (at_ a0 x1).f1.length 3 ((at_ a0 x1).f1.flatMap e107))]), (.ag [(S (at_ a1 x1).f0), (.sl true (at_ a1 x1).f1.length 3 ((at_ a1 x1).f1.flatMap e107))])], [], (B x2), [], [], [], [], (B x2), []⟩], [⟨79, [(.ag [(S (at_ a0 x1).f0), (.sl true (at_ a0 x1).f1.length 3 ((at_ a0 x1).f1.flatMap e107))]), (.ag [(S (at_ a1 x1).f0), (.sl true (at_ a1 x1).f1.length 3 ((at_ a1 x1).f1.flatMap e107))])], [], (B x2), [], [], [], [], (B x2), []⟩]⟩ [c_ 1865, b_ 1, c_ 467, l_ 58, b_ 0, c_ 15] (alc ⟨c3, c2⟩ (alc (ldA (e105_ok true) rfl rfl c3 c2) (alc (okI (e105_ok true) c3 c2 (by decide)) (alc ⟨c3, c4⟩ (alc (ldA (e105_ok true) rfl rfl c3 c4) (alc (okI (e105_ok true) c3 c4 (by decide)) (alc (cok0 false (a2c (.z (frz_ag (a2c .s (a2c (frz_sl e107_ok (fun h => h)) a2n)))) (a2c (.z (frz_ag (a2c .s (a2c (frz_sl e107_ok (fun h => h)) a2n)))) a2n)) (.z .s) (fun h => absurd h (by decide))) aln))))))) (acal (laws_eqTrip.J k (at_ a0 x1) (at_ a1 x1) _ hx2) nocal) ?_
          by_cases c5 : x2 = true
          · rw [if_pos c5] at h
            refine .cond' (.tmp 26) false [c_ 467, l_ 58, b_ 0, c_ 15] (bF (nF c5)) ?_
            refine .reg' [0, 1, 5] [] ⟨[(0, (.sl true a0.length 2 (a0.flatMap (e105 true)))), (1, (.sl true a1.length 2 (a1.flatMap (e105 true)))), (5, (I (wrap64 (x1 + 1))))], [], [], []⟩ [l_ 58, b_ 0, c_ 15] aln nocal ?_
            exact ih0 a0 a1 (wrap64 (x1 + 1)) _ h
          · rw [if_neg c5] at h
            refine .cond' (.tmp 26) true [c_ 7460, c_ 7461, b_ 1, c_ 467, l_ 58, b_ 0, c_ 15] (bT (nT (vF c5))) ?_
            refine .reg' [4] [] ⟨[(4, (B false))], [], [], []⟩ [c_ 7461, b_ 1, c_ 467, l_ 58, b_ 0, c_ 15] aln nocal ?_
            have h := Option.some.inj h
            subst h
            exact .fin0 [] (B false) [] aln (.z .s)
        · rw [if_neg c4] at h
          cases h
      · rw [if_neg c3] at h
        cases h
    · rw [if_neg c2] at h
      refine .cond' (.tmp 14) false [c_ 30, c_ 31] (bF (dF c2)) ?_
      refine .reg' [4] [] ⟨[(4, (B true))], [], [], []⟩ [c_ 31] aln nocal ?_
      have h := Option.some.inj h
      subst h
      exact .fin0 [] (B true) [] aln (.z .s)
theorem laws_eqTripS.J (k : Nat) (a0 : (List S105)) (a1 : (List S105)) (r : Bool) (h : laws_eqTripS.f k a0 a1 = some r) : J prog (.call 33 [(.sl true a0.length 2 (a0.flatMap (e105 true))), (.sl true a1.length 2 (a1.flatMap (e105 true)))] [] (B r) []) := by
  unfold laws_eqTripS.f at h
  have ih0 := laws_eqTripS.lab k
  refine .call' [c_ 2, c_ 3] ?_
  refine .reg' [0, 1] [] ⟨[(0, (.sl true a0.length 2 (a0.flatMap (e105 true)))), (1, (.sl true a1.length 2 (a1.flatMap (e105 true))))], [], [], []⟩ [c_ 12, c_ 13, c_ 7] aln nocal ?_
  refine .reg' [0, 1, 10] [] ⟨[(0, (.sl true a0.length 2 (a0.flatMap (e105 true)))), (1, (.sl true a1.length 2 (a1.flatMap (e105 true)))), (10, (B (!((a0.length : Int) == (a1.length : Int)))))], [], [], []⟩ [c_ 13, c_ 7] aln nocal ?_
  by_cases c1 : (a0.length : Int) = (a1.length : Int)
  · rw [if_pos c1] at h
    refine .cond' (.tmp 10) false [c_ 28, c_ 29, c_ 15] (bF (nF (qT c1))) ?_
    refine .reg' [0, 1, 5] [] ⟨[(0, (.sl true a0.length 2 (a0.flatMap (e105 true)))), (1, (.sl true a1.length 2 (a1.flatMap (e105 true)))), (5, (I 0))], [], [], []⟩ [l_ 58, b_ 0, c_ 15] aln nocal ?_
    exact ih0 a0 a1 0 _ h
  · rw [if_neg c1] at h
    refine .cond' (.tmp 10) true [c_ 52, c_ 53, c_ 7] (bT (nT (qF c1))) ?_
    refine .reg' [4] [] ⟨[(4, (B false))], [], [], []⟩ [c_ 53, c_ 7] aln nocal ?_
    have h := Option.some.inj h
    subst h
    exact .fin0 [] (B false) [] aln (.z .s)
/-! laws_eqLeg: function 80 -/
def laws_eqLeg.f (a0 : S102) (a1 : S102) : Option Bool := (if a0.f0 = a1.f0 then (if a0.f1 = a1.f1 then (if a0.f2 = a1.f2 then (some true) else (some false)) else (some false)) else (some false))
theorem laws_eqLeg.J (a0 : S102) (a1 : S102) (r : Bool) (h : laws_eqLeg.f a0 a1 = some r) : J prog (.call 80 [(.ag [(I a0.f0), (I a0.f1), (I a0.f2)]), (.ag [(I a1.f0), (I a1.f1), (I a1.f2)])] [] (B r) []) := by
  unfold laws_eqLeg.f at h
  refine .call' [c_ 2, c_ 3] ?_
  refine .reg' [2, 3] [] ⟨[(2, (.pt 256 0 3)), (3, (.pt 257 0 3))], [(256, [(I a0.f0), (I a0.f1), (I a0.f2)]), (257, [(I a1.f0), (I a1.f1), (I a1.f2)])], [], []⟩ [c_ 12, c_ 13, c_ 7] aln nocal ?_
  refine .reg' [2, 3, 9] [] ⟨[(2, (.pt 256 0 3)), (3, (.pt 257 0 3)), (9, (B (!(a0.f0 == a1.f0))))], [(256, [(I a0.f0), (I a0.f1), (I a0.f2)]), (257, [(I a1.f0), (I a1.f1), (I a1.f2)])], [3 = 3 ∧ 0 + 1 ≤ 3, 3 = 3 ∧ 0 + 1 ≤ 3], []⟩ [c_ 13, c_ 7] (alc ⟨rfl, by decide⟩ (alc ⟨rfl, by decide⟩ aln)) nocal ?_
  by_cases c1 : a0.f0 = a1.f0
  · rw [if_pos c1] at h
    refine .cond' (.tmp 9) false [c_ 28, c_ 29, c_ 15] (bF (nF (qT c1))) ?_
    refine .reg' [2, 3, 14] [] ⟨[(2, (.pt 256 0 3)), (3, (.pt 257 0 3)), (14, (B (!(a0.f1 == a1.f1))))], [(256, [(I a0.f0), (I a0.f1), (I a0.f2)]), (257, [(I a1.f0), (I a1.f1), (I a1.f2)])], [3 = 3 ∧ 1 + 1 ≤ 3, 3 = 3 ∧ 1 + 1 ≤ 3], []⟩ [c_ 29, c_ 15] (alc ⟨rfl, by decide⟩ (alc ⟨rfl, by decide⟩ aln)) nocal ?_
    by_cases c2 : a0.f1 = a1.f1
    · rw [if_pos c2] at h
      refine .cond' (.tmp 14) false [c_ 60, c_ 61, c_ 31] (bF (nF (qT c2))) ?_
      refine .reg' [19] [] ⟨[(19, (B (!(a0.f2 == a1.f2))))], [(256, [(I a0.f0), (I a0.f1), (I a0.f2)]), (257, [(I a1.f0), (I a1.f1), (I a1.f2)])], [3 = 3 ∧ 2 + 1 ≤ 3, 3 = 3 ∧ 2 + 1 ≤ 3], []⟩ [c_ 61, c_ 31] (alc ⟨rfl, by decide⟩ (alc ⟨rfl, by decide⟩ aln)) nocal ?_
      by_cases c3 : a0.f2 = a1.f2
      · rw [if_pos c3] at h
        refine .cond' (.tmp 19) false [c_ 62, c_ 63] (bF (nF (qT c3))) ?_
        refine .reg' [4] [] ⟨[(4, (B true))], [(256, [(I a0.f0), (I a0.f1), (I a0.f2)]), (257, [(I a1.f0), (I a1.f1), (I a1.f2)])], [], []⟩ [c_ 63] aln nocal ?_
        have h := Option.some.inj h
        subst h
        exact .fin0 [] (B true) [] aln (.z .s)
      · rw [if_neg c3] at h
        refine .cond' (.tmp 19) true [c_ 244, c_ 245, c_ 31] (bT (nT (qF c3))) ?_
        refine .reg' [4] [] ⟨[(4, (B false))], [(256, [(I a0.f0), (I a0.f1), (I a0.f2)]), (257, [(I a1.f0), (I a1.f1), (I a1.f2)])], [], []⟩ [c_ 245, c_ 31] aln nocal ?_
        have h := Option.some.inj h
        subst h
        exact .fin0 [] (B false) [] aln (.z .s)
    · rw [if_neg c2] at h
      refine .cond' (.tmp 14) true [c_ 116, c_ 117, c_ 15] (bT (nT (qF c2))) ?_
      refine .reg' [4] [] ⟨[(4, (B false))], [(256, [(I a0.f0), (I a0.f1), (I a0.f2)]), (257, [(I a1.f0), (I a1.f1), (I a1.f2)])], [], []⟩ [c_ 117, c_ 15] aln nocal ?_
      have h := Option.some.inj h
      subst h
      exact .fin0 [] (B false) [] aln (.z .s)
  · rw [if_neg c1] at h
    refine .cond' (.tmp 9) true [c_ 52, c_ 53, c_ 7] (bT (nT (qF c1))) ?_
    refine .reg' [4] [] ⟨[(4, (B false))], [(256, [(I a0.f0), (I a0.f1), (I a0.f2)]), (257, [(I a1.f0), (I a1.f1), (I a1.f2)])], [], []⟩ [c_ 53, c_ 7] aln nocal ?_
    have h := Option.some.inj h
    subst h
    exact .fin0 [] (B false) [] aln (.z .s)
/-! laws_eqLegS: function 34 -/
def laws_eqLegS.l0 : Nat → (List S102) → (List S102) → Int → Option Bool
 | 0, _, _, _ => none
 | k + 1, a0, a1, x1 => (if x1 < (a0.length : Int) then (if 0 ≤ x1 then (if x1 < (a1.length : Int) then ((laws_eqLeg.f (at_ a0 x1) (at_ a1 x1)).bind fun x2 => (if x2 = true then (laws_eqLegS.l0 k a0 a1 (wrap64 (x1 + 1))) else (some false))) else none) else none) else (some true))
def laws_eqLegS.f (k : Nat) (a0 : (List S102)) (a1 : (List S102)) : Option Bool := (if (a0.length : Int) = (a1.length : Int) then (laws_eqLegS.l0 k a0 a1 0) else (some false))
theorem laws_eqLegS.lab : ∀ k, (∀ (a0 : (List S102)) (a1 : (List S102)) (x1 : Int) (r : Bool), laws_eqLegS.l0 k a0 a1 x1 = some r → J prog (.run 34 [] [l_ 58, b_ 0, c_ 15] [(0, (.sl true a0.length 3 (a0.flatMap e102))), (1, (.sl true a1.length 3 (a1.flatMap e102))), (5, (I x1))] [] (B r) []))
 | 0 => (by intro a0 a1 x1 r h; unfold laws_eqLegS.l0 at h; cases h)
 | k + 1 => by
  have ih0 := laws_eqLegS.lab k
  · intro a0 a1 x1 r h
    unfold laws_eqLegS.l0 at h
    refine .loop' [c_ 464, c_ 465, c_ 233, l_ 58, b_ 0, c_ 15] ?_
    refine .reg' [0, 1, 5, 14] [] ⟨[(0, (.sl true a0.length 3 (a0.flatMap e102))), (1, (.sl true a1.length 3 (a1.flatMap e102))), (5, (I x1)), (14, (B (decide (x1 < (a0.length : Int)))))], [], [], []⟩ [c_ 465, c_ 233, l_ 58, b_ 0, c_ 15] aln nocal ?_
    by_cases c2 : x1 < (a0.length : Int)
    · rw [if_pos c2] at h
      refine .cond' (.tmp 14) true [c_ 1864, c_ 1865, b_ 1, c_ 467, l_ 58, b_ 0, c_ 15] (bT (dT c2)) ?_
      by_cases c3 : 0 ≤ x1
      · rw [if_pos c3] at h
        by_cases c4 : x1 < (a1.length : Int)
        · rw [if_pos c4] at h
          obtain ⟨x2, hx2, h⟩ := Option.bind_eq_some_iff.mp h
          refine .reg' [0, 1, 5, 26] [.no, .no, .no, .v (.ag [(I (at_ a0 x1).f0), (I (at_ a0 x1).f1), (I (at_ a0 x1).f2)]), .no, .no, .no, .v (.ag [(I (at_ a1 x1).f0), (I (at_ a1 x1).f1), (I (at_ a1 x1).f2)]), .c ⟨80, [(.ag [(I (at_ a0 x1).f0), (I (at_ a0 x1).f1), (I (at_ a0 x1).f2)]), (.ag [(I (at_ a1 x1).f0), (I (at_ a1 x1).f1), (I (at_ a1 x1).f2)])], [], (B x2), [], [], [], [], (B x2), []⟩] ⟨[(0, (.sl true a0.length 3 (a0.flatMap e102))), (1, (.sl true a1.length 3 (a1.flatMap e102))), (5, (I x1)), (26, (B (!x2)))], [], [(0 : Int) ≤ x1 ∧ x1 < (a0.length : Int), rdC prog 103 ((a0.flatMap e102).drop (x1.toNat * 3)) = (.ag [(I (at_ a0 x1).f0), (I (at_ a0 x1).f1), (I (at_ a0 x1).f2)]), 3 ≤ ((a0.flatMap e102).drop (x1.toNat * 3)).length, (0 : Int) ≤ x1 ∧ x1 < (a1.length : Int), rdC prog 103 ((a1.flatMap e102).drop (x1.toNat * 3)) = (.ag [(I (at_ a1 x1).f0), (I (at_ a1 x1).f1), (I (at_ a1 x1).f2)]), 3 ≤ ((a1.flatMap e102).drop (x1.toNat * 3)).length, COK (hget []) [(.ag [(I (at_ a0 x1).f0), (I (at_ a0 x1).f1), (I (at_ a0 x1).f2)]), (.ag [(I (at_ a1 x1).f0), (I (at_ a1 x1).f1), (I (at_ a1 x1).f2)])] ⟨80, [(.ag [(I (at_ a0 x1).f0), (I (at_ a0 x1).f1), (I (at_ a0 x1).f2)]), (.ag [(I (at_ a1 x1).f0), (I (at_ a1 x1).f1), (I (at_ a1 x1).f2)])], [], (B x2), [], [], [], [], (B x2), []⟩], [⟨80, [(.ag [(I (at_ a0 x1).f0), (I (at_ a0 x1).f1), (I (at_ a0 x1).f2)]), (.ag [(I (at_ a1 x1).f0), (I (at_ a1 x1).f1), (I (at_ a1 x1).f2)])], [], (B x2), [], [], [], [], (B x2), []⟩]⟩ [c_ 1865, b_ 1, c_ 467, l_ 58, b_ 0, c_ 15] (alc ⟨c3, c2⟩ (alc (ldA e102_ok rfl rfl c3 c2) (alc (okI e102_ok c3 c2 (by decide)) (alc ⟨c3, c4⟩ (alc (ldA e102_ok rfl rfl c3 c4) (alc (okI e102_ok c3 c4 (by decide)) (alc (cok0 false (a2c (.z (frz_ag (a2c .s (a2c .s (a2c .s a2n))))) (a2c (.z (frz_ag (a2c .s (a2c .s (a2c .s a2n))))) a2n)) (.z .s) (fun h => absurd h (by decide))) aln))))))) (acal (laws_eqLeg.J (at_ a0 x1) (at_ a1 x1) _ hx2) nocal) ?_
          by_cases c5 : x2 = true
          · rw [if_pos c5] at h
            refine .cond' (.tmp 26) false [c_ 467, l_ 58, b_ 0, c_ 15] (bF (nF c5)) ?_
            refine .reg' [0, 1, 5] [] ⟨[(0, (.sl true a0.length 3 (a0.flatMap e102))), (1, (.sl true a1.length 3 (a1.flatMap e102))), (5, (I (wrap64 (x1 + 1))))], [], [], []⟩ [l_ 58, b_ 0, c_ 15] aln nocal ?_
            exact ih0 a0 a1 (wrap64 (x1 + 1)) _ h
          · rw [if_neg c5] at h
            refine .cond' (.tmp 26) true [c_ 7460, c_ 7461, b_ 1, c_ 467, l_ 58, b_ 0, c_ 15] (bT (nT (vF c5))) ?_
            refine .reg' [4] [] ⟨[(4, (B false))], [], [], []⟩ [c_ 7461, b_ 1, c_ 467, l_ 58, b_ 0, c_ 15] aln nocal ?_
            have h := Option.some.inj h
            subst h
            exact .fin0 [] (B false) [] aln (.z .s)
        · rw [if_neg c4] at h
          cases h
      · rw [if_neg c3] at h
        cases h
    · rw [if_neg c2] at h
      refine .cond' (.tmp 14) false [c_ 30, c_ 31] (bF (dF c2)) ?_
      refine .reg' [4] [] ⟨[(4, (B true))], [], [], []⟩ [c_ 31] aln nocal ?_
      have h := Option.some.inj h
      subst h
      exact .fin0 [] (B true) [] aln (.z .s)
theorem laws_eqLegS.J (k : Nat) (a0 : (List S102)) (a1 : (List S102)) (r : Bool) (h : laws_eqLegS.f k a0 a1 = some r) : J prog (.call 34 [(.sl true a0.length 3 (a0.flatMap e102)), (.sl true a1.length 3 (a1.flatMap e102))] [] (B r) []) := by
  unfold laws_eqLegS.f at h
  have ih0 := laws_eqLegS.lab k
  refine .call' [c_ 2, c_ 3] ?_
  refine .reg' [0, 1] [] ⟨[(0, (.sl true a0.length 3 (a0.flatMap e102))), (1, (.sl true a1.length 3 (a1.flatMap e102)))], [], [], []⟩ [c_ 12, c_ 13, c_ 7] aln nocal ?_
  refine .reg' [0, 1, 10] [] ⟨[(0, (.sl true a0.length 3 (a0.flatMap e102))), (1, (.sl true a1.length 3 (a1.flatMap e102))), (10, (B (!((a0.length : Int) == (a1.length : Int)))))], [], [], []⟩ [c_ 13, c_ 7] aln nocal ?_
  by_cases c1 : (a0.length : Int) = (a1.length : Int)
  · rw [if_pos c1] at h
    refine .cond' (.tmp 10) false [c_ 28, c_ 29, c_ 15] (bF (nF (qT c1))) ?_
    refine .reg' [0, 1, 5] [] ⟨[(0, (.sl true a0.length 3 (a0.flatMap e102))), (1, (.sl true a1.length 3 (a1.flatMap e102))), (5, (I 0))], [], [], []⟩ [l_ 58, b_ 0, c_ 15] aln nocal ?_
    exact ih0 a0 a1 0 _ h
  · rw [if_neg c1] at h
    refine .cond' (.tmp 10) true [c_ 52, c_ 53, c_ 7] (bT (nT (qF c1))) ?_
    refine .reg' [4] [] ⟨[(4, (B false))], [], [], []⟩ [c_ 53, c_ 7] aln nocal ?_
    have h := Option.some.inj h
    subst h
    exact .fin0 [] (B false) [] aln (.z .s)
/-! laws_FnExactLegsOk: function 7 -/
def laws_FnExactLegsOk.f (k : Nat) (a0 : (List S98)) (a1 : (List S102)) (a2 : Int) : Option Bool := ((laws_szTripS.f k a0 1048576).bind fun x1 => (if x1 < 0 then (some true) else ((laws_szLegS.f a1 x1).bind fun x2 => (if x2 < 0 then (some true) else ((laws_toTripS.f k a0).bind fun x3 => ((laws_toLegS.f k a1).bind fun x4 => ((spec_LegsOk.f k x3 x4 a2).bind fun x5 => ((laws_toTripS.f k a0).bind fun x6 => ((laws_toLegS.f k a1).bind fun x7 => ((impl_LegsOk.f k x6 x7 a2).bind fun x8 => (if (x8 == x5) = true then ((laws_toTripS.f k a0).bind fun x9 => ((laws_eqTripS.f k x6 x9).bind fun x10 => (if x10 = true then ((laws_toLegS.f k a1).bind fun x11 => ((laws_eqLegS.f k x7 x11).bind fun x12 => (if x12 = true then (some true) else (some false)))) else (some false)))) else (some false))))))))))))
end Go.Proofs.Ytjfjifnmfnlfoaa.Fns
