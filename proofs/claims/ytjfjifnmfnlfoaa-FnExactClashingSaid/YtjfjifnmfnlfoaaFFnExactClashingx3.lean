/- The functions that the law FnExactClashing reaches, by the engine. Printed by a program of this seat. -/
import Derived.Test.YtjfjifnmfnlfoaaE5
import Derived.Test.YtjfjifnmfnlfoaaProg
import Derived.Test.YtjfjifnmfnlfoaaFFnExactClashingx2
namespace Go.Proofs.Ytjfjifnmfnlfoaa.Fns
open Go.Proofs.Try Go.Proofs.Ytjfjifnmfnlfoaa.Eng Go.RowKit
set_option maxRecDepth 100000
set_option linter.unusedVariables false
set_option linter.unusedSimpArgs false
theorem impl_Clashing.J (k : Nat) (a0 : S29) (a1 : Int) (a2 : Int) (r : Bool) (h : impl_Clashing.f k a0 a1 a2 = some r) : J prog (.call 16 [(.ag [(.sl true a0.f0.length 1 (a0.f0.flatMap encI)), (I a0.f1), (.sl true a0.f2.length 2 (a0.f2.flatMap (e83 true)))]), (I a1), (I a2)] [] (B r) []) := by
  unfold impl_Clashing.f at h
  refine .call' [c_ 2, c_ 3] ?_
  refine .reg' [1, 2, 3] [] ⟨[(1, (I a1)), (2, (I a2)), (3, (.pt 256 0 3))], [(256, [(.sl true a0.f0.length 1 (a0.f0.flatMap encI)), (I a0.f1), (.sl true a0.f2.length 2 (a0.f2.flatMap (e83 true)))])], [], []⟩ [c_ 12, c_ 13, c_ 7] aln nocal ?_
  obtain ⟨x1, hx1, h⟩ := Option.bind_eq_some_iff.mp h
  by_cases c1 : x1 = true
  · rw [if_pos c1] at h
    obtain ⟨x2, hx2, h⟩ := Option.bind_eq_some_iff.mp h
    by_cases c2 : x2 = true
    · rw [if_pos c2] at h
      obtain ⟨x3, hx3, h⟩ := Option.bind_eq_some_iff.mp h
      by_cases c3 : x3 = true
      · rw [if_pos c3] at h
        refine .reg' [1, 2, 3, 32] [.no, .c ⟨13, [(.ag [(.sl true a0.f0.length 1 (a0.f0.flatMap encI)), (I a0.f1), (.sl true a0.f2.length 2 (a0.f2.flatMap (e83 true)))])], [], (B x1), [], [], [], [], (B x1), []⟩, .no, .v (B false), .no, .no, .no, .no, .no, .c ⟨57, [(I a1), (I 0), (I (wrap64 ((a0.f2.length : Int) - 1)))], [], (B x2), [], [], [], [], (B x2), []⟩, .no, .no, .v (B false), .no, .no, .no, .no, .no, .c ⟨57, [(I a2), (I 0), (I (wrap64 ((a0.f2.length : Int) - 1)))], [], (B x3), [], [], [], [], (B x3), []⟩, .no, .no, .v (B false)] ⟨[(1, (I a1)), (2, (I a2)), (3, (.pt 256 0 3)), (32, (B (a1 == a2)))], [(256, [(.sl true a0.f0.length 1 (a0.f0.flatMap encI)), (I a0.f1), (.sl true a0.f2.length 2 (a0.f2.flatMap (e83 true)))])], [3 = 3 ∧ 0 + 3 ≤ 3, COK (hget [(256, [(.sl true a0.f0.length 1 (a0.f0.flatMap encI)), (I a0.f1), (.sl true a0.f2.length 2 (a0.f2.flatMap (e83 true)))])]) [(.ag [(.sl true a0.f0.length 1 (a0.f0.flatMap encI)), (I a0.f1), (.sl true a0.f2.length 2 (a0.f2.flatMap (e83 true)))])] ⟨13, [(.ag [(.sl true a0.f0.length 1 (a0.f0.flatMap encI)), (I a0.f1), (.sl true a0.f2.length 2 (a0.f2.flatMap (e83 true)))])], [], (B x1), [], [], [], [], (B x1), []⟩, (B (!x1) : V) = B false, 3 = 3 ∧ 2 + 1 ≤ 3, COK (hget [(256, [(.sl true a0.f0.length 1 (a0.f0.flatMap encI)), (I a0.f1), (.sl true a0.f2.length 2 (a0.f2.flatMap (e83 true)))])]) [(I a1), (I 0), (I (wrap64 ((a0.f2.length : Int) - 1)))] ⟨57, [(I a1), (I 0), (I (wrap64 ((a0.f2.length : Int) - 1)))], [], (B x2), [], [], [], [], (B x2), []⟩, (B (!x2) : V) = B false, 3 = 3 ∧ 2 + 1 ≤ 3, COK (hget [(256, [(.sl true a0.f0.length 1 (a0.f0.flatMap encI)), (I a0.f1), (.sl true a0.f2.length 2 (a0.f2.flatMap (e83 true)))])]) [(I a2), (I 0), (I (wrap64 ((a0.f2.length : Int) - 1)))] ⟨57, [(I a2), (I 0), (I (wrap64 ((a0.f2.length : Int) - 1)))], [], (B x3), [], [], [], [], (B x3), []⟩, (B (!x3) : V) = B false], [⟨13, [(.ag [(.sl true a0.f0.length 1 (a0.f0.flatMap encI)), (I a0.f1), (.sl true a0.f2.length 2 (a0.f2.flatMap (e83 true)))])], [], (B x1), [], [], [], [], (B x1), []⟩, ⟨57, [(I a1), (I 0), (I (wrap64 ((a0.f2.length : Int) - 1)))], [], (B x2), [], [], [], [], (B x2), []⟩, ⟨57, [(I a2), (I 0), (I (wrap64 ((a0.f2.length : Int) - 1)))], [], (B x3), [], [], [], [], (B x3), []⟩]⟩ [c_ 13, c_ 7] (alc ⟨rfl, by decide⟩ (alc (cok0 false (a2c (.z (frz_ag (a2c (frz_sl encI_ok (fun h => h)) (a2c .s (a2c (frz_sl (e83_ok true) (fun h => h)) a2n))))) a2n) (.z .s) (fun h => absurd h (by decide))) (alc (bF (nF c1)) (alc ⟨rfl, by decide⟩ (alc (cok0 false (a2c (.z .s) (a2c (.z .s) (a2c (.z .s) a2n))) (.z .s) (fun h => absurd h (by decide))) (alc (bF (nF c2)) (alc ⟨rfl, by decide⟩ (alc (cok0 false (a2c (.z .s) (a2c (.z .s) (a2c (.z .s) a2n))) (.z .s) (fun h => absurd h (by decide))) (alc (bF (nF c3)) aln))))))))) (acal (impl_PlantOk.J k a0 _ hx1) (acal (impl_between.J a1 0 (wrap64 ((a0.f2.length : Int) - 1)) _ hx2) (acal (impl_between.J a2 0 (wrap64 ((a0.f2.length : Int) - 1)) _ hx3) nocal))) ?_
        by_cases c4 : a1 = a2
        · rw [if_pos c4] at h
          refine .cond' (.tmp 32) true [c_ 52, c_ 53, c_ 7] (bT (qT c4)) ?_
          refine .reg' [6] [] ⟨[(6, (B false))], [(256, [(.sl true a0.f0.length 1 (a0.f0.flatMap encI)), (I a0.f1), (.sl true a0.f2.length 2 (a0.f2.flatMap (e83 true)))])], [], []⟩ [c_ 53, c_ 7] aln nocal ?_
          have h := Option.some.inj h
          subst h
          exact .fin0 [] (B false) [] aln (.z .s)
        · rw [if_neg c4] at h
          refine .cond' (.tmp 32) false [c_ 14, c_ 15] (bF (qF c4)) ?_
          by_cases c5 : 0 ≤ a1
          · rw [if_pos c5] at h
            by_cases c6 : a1 < (a0.f2.length : Int)
            · rw [if_pos c6] at h
              by_cases c7 : 0 ≤ a2
              · rw [if_pos c7] at h
                by_cases c8 : a2 < (a0.f2.length : Int)
                · rw [if_pos c8] at h
                  obtain ⟨x4, hx4, h⟩ := Option.bind_eq_some_iff.mp h
                  refine .reg' [6] [.no, .no, .no, .no, .v (.ag [(.sl true (at_ a0.f2 a1).f0.length 2 ((at_ a0.f2 a1).f0.flatMap e93)), (.sl true (at_ a0.f2 a1).f1.length 1 ((at_ a0.f2 a1).f1.flatMap encI))]), .no, .no, .no, .no, .v (.ag [(.sl true (at_ a0.f2 a2).f0.length 2 ((at_ a0.f2 a2).f0.flatMap e93)), (.sl true (at_ a0.f2 a2).f1.length 1 ((at_ a0.f2 a2).f1.flatMap encI))]), .c ⟨61, [(.ag [(.sl true (at_ a0.f2 a1).f0.length 2 ((at_ a0.f2 a1).f0.flatMap e93)), (.sl true (at_ a0.f2 a1).f1.length 1 ((at_ a0.f2 a1).f1.flatMap encI))]), (.ag [(.sl true (at_ a0.f2 a2).f0.length 2 ((at_ a0.f2 a2).f0.flatMap e93)), (.sl true (at_ a0.f2 a2).f1.length 1 ((at_ a0.f2 a2).f1.flatMap encI))])], [], (B x4), [], [], [], [], (B x4), []⟩] ⟨[(6, (B x4))], [(256, [(.sl true a0.f0.length 1 (a0.f0.flatMap encI)), (I a0.f1), (.sl true a0.f2.length 2 (a0.f2.flatMap (e83 true)))])], [3 = 3 ∧ 2 + 1 ≤ 3, (0 : Int) ≤ a1 ∧ a1 < (a0.f2.length : Int), rdC prog 84 ((a0.f2.flatMap (e83 true)).drop (a1.toNat * 2)) = (.ag [(.sl true (at_ a0.f2 a1).f0.length 2 ((at_ a0.f2 a1).f0.flatMap e93)), (.sl true (at_ a0.f2 a1).f1.length 1 ((at_ a0.f2 a1).f1.flatMap encI))]), 2 ≤ ((a0.f2.flatMap (e83 true)).drop (a1.toNat * 2)).length, 3 = 3 ∧ 2 + 1 ≤ 3, (0 : Int) ≤ a2 ∧ a2 < (a0.f2.length : Int), rdC prog 84 ((a0.f2.flatMap (e83 true)).drop (a2.toNat * 2)) = (.ag [(.sl true (at_ a0.f2 a2).f0.length 2 ((at_ a0.f2 a2).f0.flatMap e93)), (.sl true (at_ a0.f2 a2).f1.length 1 ((at_ a0.f2 a2).f1.flatMap encI))]), 2 ≤ ((a0.f2.flatMap (e83 true)).drop (a2.toNat * 2)).length, COK (hget [(256, [(.sl true a0.f0.length 1 (a0.f0.flatMap encI)), (I a0.f1), (.sl true a0.f2.length 2 (a0.f2.flatMap (e83 true)))])]) [(.ag [(.sl true (at_ a0.f2 a1).f0.length 2 ((at_ a0.f2 a1).f0.flatMap e93)), (.sl true (at_ a0.f2 a1).f1.length 1 ((at_ a0.f2 a1).f1.flatMap encI))]), (.ag [(.sl true (at_ a0.f2 a2).f0.length 2 ((at_ a0.f2 a2).f0.flatMap e93)), (.sl true (at_ a0.f2 a2).f1.length 1 ((at_ a0.f2 a2).f1.flatMap encI))])] ⟨61, [(.ag [(.sl true (at_ a0.f2 a1).f0.length 2 ((at_ a0.f2 a1).f0.flatMap e93)), (.sl true (at_ a0.f2 a1).f1.length 1 ((at_ a0.f2 a1).f1.flatMap encI))]), (.ag [(.sl true (at_ a0.f2 a2).f0.length 2 ((at_ a0.f2 a2).f0.flatMap e93)), (.sl true (at_ a0.f2 a2).f1.length 1 ((at_ a0.f2 a2).f1.flatMap encI))])], [], (B x4), [], [], [], [], (B x4), []⟩], [⟨61, [(.ag [(.sl true (at_ a0.f2 a1).f0.length 2 ((at_ a0.f2 a1).f0.flatMap e93)), (.sl true (at_ a0.f2 a1).f1.length 1 ((at_ a0.f2 a1).f1.flatMap encI))]), (.ag [(.sl true (at_ a0.f2 a2).f0.length 2 ((at_ a0.f2 a2).f0.flatMap e93)), (.sl true (at_ a0.f2 a2).f1.length 1 ((at_ a0.f2 a2).f1.flatMap encI))])], [], (B x4), [], [], [], [], (B x4), []⟩]⟩ [c_ 15] (alc ⟨rfl, by decide⟩ (alc ⟨c5, c6⟩ (alc (ldA (e83_ok true) rfl rfl c5 c6) (alc (okI (e83_ok true) c5 c6 (by decide)) (alc ⟨rfl, by decide⟩ (alc ⟨c7, c8⟩ (alc (ldA (e83_ok true) rfl rfl c7 c8) (alc (okI (e83_ok true) c7 c8 (by decide)) (alc (cok0 false (a2c (.z (frz_ag (a2c (frz_sl e93_ok (fun h => h)) (a2c (frz_sl encI_ok (fun h => h)) a2n)))) (a2c (.z (frz_ag (a2c (frz_sl e93_ok (fun h => h)) (a2c (frz_sl encI_ok (fun h => h)) a2n)))) a2n)) (.z .s) (fun h => absurd h (by decide))) aln))))))))) (acal (impl_Route_against.J k (at_ a0.f2 a1) (at_ a0.f2 a2) _ hx4) nocal) ?_
                  have h := Option.some.inj h
                  subst h
                  exact .fin0 [] (B x4) [] aln (.z .s)
                · rw [if_neg c8] at h
                  cases h
              · rw [if_neg c7] at h
                cases h
            · rw [if_neg c6] at h
              cases h
          · rw [if_neg c5] at h
            cases h
      · rw [if_neg c3] at h
        refine .reg' [1, 2, 3, 32] [.no, .c ⟨13, [(.ag [(.sl true a0.f0.length 1 (a0.f0.flatMap encI)), (I a0.f1), (.sl true a0.f2.length 2 (a0.f2.flatMap (e83 true)))])], [], (B x1), [], [], [], [], (B x1), []⟩, .no, .v (B false), .no, .no, .no, .no, .no, .c ⟨57, [(I a1), (I 0), (I (wrap64 ((a0.f2.length : Int) - 1)))], [], (B x2), [], [], [], [], (B x2), []⟩, .no, .no, .v (B false), .no, .no, .no, .no, .no, .c ⟨57, [(I a2), (I 0), (I (wrap64 ((a0.f2.length : Int) - 1)))], [], (B x3), [], [], [], [], (B x3), []⟩, .no, .no, .v (B true)] ⟨[(1, (I a1)), (2, (I a2)), (3, (.pt 256 0 3)), (32, (B true))], [(256, [(.sl true a0.f0.length 1 (a0.f0.flatMap encI)), (I a0.f1), (.sl true a0.f2.length 2 (a0.f2.flatMap (e83 true)))])], [3 = 3 ∧ 0 + 3 ≤ 3, COK (hget [(256, [(.sl true a0.f0.length 1 (a0.f0.flatMap encI)), (I a0.f1), (.sl true a0.f2.length 2 (a0.f2.flatMap (e83 true)))])]) [(.ag [(.sl true a0.f0.length 1 (a0.f0.flatMap encI)), (I a0.f1), (.sl true a0.f2.length 2 (a0.f2.flatMap (e83 true)))])] ⟨13, [(.ag [(.sl true a0.f0.length 1 (a0.f0.flatMap encI)), (I a0.f1), (.sl true a0.f2.length 2 (a0.f2.flatMap (e83 true)))])], [], (B x1), [], [], [], [], (B x1), []⟩, (B (!x1) : V) = B false, 3 = 3 ∧ 2 + 1 ≤ 3, COK (hget [(256, [(.sl true a0.f0.length 1 (a0.f0.flatMap encI)), (I a0.f1), (.sl true a0.f2.length 2 (a0.f2.flatMap (e83 true)))])]) [(I a1), (I 0), (I (wrap64 ((a0.f2.length : Int) - 1)))] ⟨57, [(I a1), (I 0), (I (wrap64 ((a0.f2.length : Int) - 1)))], [], (B x2), [], [], [], [], (B x2), []⟩, (B (!x2) : V) = B false, 3 = 3 ∧ 2 + 1 ≤ 3, COK (hget [(256, [(.sl true a0.f0.length 1 (a0.f0.flatMap encI)), (I a0.f1), (.sl true a0.f2.length 2 (a0.f2.flatMap (e83 true)))])]) [(I a2), (I 0), (I (wrap64 ((a0.f2.length : Int) - 1)))] ⟨57, [(I a2), (I 0), (I (wrap64 ((a0.f2.length : Int) - 1)))], [], (B x3), [], [], [], [], (B x3), []⟩, (B (!x3) : V) = B true], [⟨13, [(.ag [(.sl true a0.f0.length 1 (a0.f0.flatMap encI)), (I a0.f1), (.sl true a0.f2.length 2 (a0.f2.flatMap (e83 true)))])], [], (B x1), [], [], [], [], (B x1), []⟩, ⟨57, [(I a1), (I 0), (I (wrap64 ((a0.f2.length : Int) - 1)))], [], (B x2), [], [], [], [], (B x2), []⟩, ⟨57, [(I a2), (I 0), (I (wrap64 ((a0.f2.length : Int) - 1)))], [], (B x3), [], [], [], [], (B x3), []⟩]⟩ [c_ 13, c_ 7] (alc ⟨rfl, by decide⟩ (alc (cok0 false (a2c (.z (frz_ag (a2c (frz_sl encI_ok (fun h => h)) (a2c .s (a2c (frz_sl (e83_ok true) (fun h => h)) a2n))))) a2n) (.z .s) (fun h => absurd h (by decide))) (alc (bF (nF c1)) (alc ⟨rfl, by decide⟩ (alc (cok0 false (a2c (.z .s) (a2c (.z .s) (a2c (.z .s) a2n))) (.z .s) (fun h => absurd h (by decide))) (alc (bF (nF c2)) (alc ⟨rfl, by decide⟩ (alc (cok0 false (a2c (.z .s) (a2c (.z .s) (a2c (.z .s) a2n))) (.z .s) (fun h => absurd h (by decide))) (alc (bT (nT (vF c3))) aln))))))))) (acal (impl_PlantOk.J k a0 _ hx1) (acal (impl_between.J a1 0 (wrap64 ((a0.f2.length : Int) - 1)) _ hx2) (acal (impl_between.J a2 0 (wrap64 ((a0.f2.length : Int) - 1)) _ hx3) nocal))) ?_
        refine .cond' (.tmp 32) true [c_ 52, c_ 53, c_ 7] (rfl) ?_
        refine .reg' [6] [] ⟨[(6, (B false))], [(256, [(.sl true a0.f0.length 1 (a0.f0.flatMap encI)), (I a0.f1), (.sl true a0.f2.length 2 (a0.f2.flatMap (e83 true)))])], [], []⟩ [c_ 53, c_ 7] aln nocal ?_
        have h := Option.some.inj h
        subst h
        exact .fin0 [] (B false) [] aln (.z .s)
    · rw [if_neg c2] at h
      refine .reg' [1, 2, 3, 32] [.no, .c ⟨13, [(.ag [(.sl true a0.f0.length 1 (a0.f0.flatMap encI)), (I a0.f1), (.sl true a0.f2.length 2 (a0.f2.flatMap (e83 true)))])], [], (B x1), [], [], [], [], (B x1), []⟩, .no, .v (B false), .no, .no, .no, .no, .no, .c ⟨57, [(I a1), (I 0), (I (wrap64 ((a0.f2.length : Int) - 1)))], [], (B x2), [], [], [], [], (B x2), []⟩, .no, .no, .v (B true)] ⟨[(1, (I a1)), (2, (I a2)), (3, (.pt 256 0 3)), (32, (B true))], [(256, [(.sl true a0.f0.length 1 (a0.f0.flatMap encI)), (I a0.f1), (.sl true a0.f2.length 2 (a0.f2.flatMap (e83 true)))])], [3 = 3 ∧ 0 + 3 ≤ 3, COK (hget [(256, [(.sl true a0.f0.length 1 (a0.f0.flatMap encI)), (I a0.f1), (.sl true a0.f2.length 2 (a0.f2.flatMap (e83 true)))])]) [(.ag [(.sl true a0.f0.length 1 (a0.f0.flatMap encI)), (I a0.f1), (.sl true a0.f2.length 2 (a0.f2.flatMap (e83 true)))])] ⟨13, [(.ag [(.sl true a0.f0.length 1 (a0.f0.flatMap encI)), (I a0.f1), (.sl true a0.f2.length 2 (a0.f2.flatMap (e83 true)))])], [], (B x1), [], [], [], [], (B x1), []⟩, (B (!x1) : V) = B false, 3 = 3 ∧ 2 + 1 ≤ 3, COK (hget [(256, [(.sl true a0.f0.length 1 (a0.f0.flatMap encI)), (I a0.f1), (.sl true a0.f2.length 2 (a0.f2.flatMap (e83 true)))])]) [(I a1), (I 0), (I (wrap64 ((a0.f2.length : Int) - 1)))] ⟨57, [(I a1), (I 0), (I (wrap64 ((a0.f2.length : Int) - 1)))], [], (B x2), [], [], [], [], (B x2), []⟩, (B (!x2) : V) = B true], [⟨13, [(.ag [(.sl true a0.f0.length 1 (a0.f0.flatMap encI)), (I a0.f1), (.sl true a0.f2.length 2 (a0.f2.flatMap (e83 true)))])], [], (B x1), [], [], [], [], (B x1), []⟩, ⟨57, [(I a1), (I 0), (I (wrap64 ((a0.f2.length : Int) - 1)))], [], (B x2), [], [], [], [], (B x2), []⟩]⟩ [c_ 13, c_ 7] (alc ⟨rfl, by decide⟩ (alc (cok0 false (a2c (.z (frz_ag (a2c (frz_sl encI_ok (fun h => h)) (a2c .s (a2c (frz_sl (e83_ok true) (fun h => h)) a2n))))) a2n) (.z .s) (fun h => absurd h (by decide))) (alc (bF (nF c1)) (alc ⟨rfl, by decide⟩ (alc (cok0 false (a2c (.z .s) (a2c (.z .s) (a2c (.z .s) a2n))) (.z .s) (fun h => absurd h (by decide))) (alc (bT (nT (vF c2))) aln)))))) (acal (impl_PlantOk.J k a0 _ hx1) (acal (impl_between.J a1 0 (wrap64 ((a0.f2.length : Int) - 1)) _ hx2) nocal)) ?_
      refine .cond' (.tmp 32) true [c_ 52, c_ 53, c_ 7] (rfl) ?_
      refine .reg' [6] [] ⟨[(6, (B false))], [(256, [(.sl true a0.f0.length 1 (a0.f0.flatMap encI)), (I a0.f1), (.sl true a0.f2.length 2 (a0.f2.flatMap (e83 true)))])], [], []⟩ [c_ 53, c_ 7] aln nocal ?_
      have h := Option.some.inj h
      subst h
      exact .fin0 [] (B false) [] aln (.z .s)
  · rw [if_neg c1] at h
    refine .reg' [1, 2, 3, 32] [.no, .c ⟨13, [(.ag [(.sl true a0.f0.length 1 (a0.f0.flatMap encI)), (I a0.f1), (.sl true a0.f2.length 2 (a0.f2.flatMap (e83 true)))])], [], (B x1), [], [], [], [], (B x1), []⟩, .no, .v (B true)] ⟨[(1, (I a1)), (2, (I a2)), (3, (.pt 256 0 3)), (32, (B true))], [(256, [(.sl true a0.f0.length 1 (a0.f0.flatMap encI)), (I a0.f1), (.sl true a0.f2.length 2 (a0.f2.flatMap (e83 true)))])], [3 = 3 ∧ 0 + 3 ≤ 3, COK (hget [(256, [(.sl true a0.f0.length 1 (a0.f0.flatMap encI)), (I a0.f1), (.sl true a0.f2.length 2 (a0.f2.flatMap (e83 true)))])]) [(.ag [(.sl true a0.f0.length 1 (a0.f0.flatMap encI)), (I a0.f1), (.sl true a0.f2.length 2 (a0.f2.flatMap (e83 true)))])] ⟨13, [(.ag [(.sl true a0.f0.length 1 (a0.f0.flatMap encI)), (I a0.f1), (.sl true a0.f2.length 2 (a0.f2.flatMap (e83 true)))])], [], (B x1), [], [], [], [], (B x1), []⟩, (B (!x1) : V) = B true], [⟨13, [(.ag [(.sl true a0.f0.length 1 (a0.f0.flatMap encI)), (I a0.f1), (.sl true a0.f2.length 2 (a0.f2.flatMap (e83 true)))])], [], (B x1), [], [], [], [], (B x1), []⟩]⟩ [c_ 13, c_ 7] (alc ⟨rfl, by decide⟩ (alc (cok0 false (a2c (.z (frz_ag (a2c (frz_sl encI_ok (fun h => h)) (a2c .s (a2c (frz_sl (e83_ok true) (fun h => h)) a2n))))) a2n) (.z .s) (fun h => absurd h (by decide))) (alc (bT (nT (vF c1))) aln))) (acal (impl_PlantOk.J k a0 _ hx1) nocal) ?_
    refine .cond' (.tmp 32) true [c_ 52, c_ 53, c_ 7] (rfl) ?_
    refine .reg' [6] [] ⟨[(6, (B false))], [(256, [(.sl true a0.f0.length 1 (a0.f0.flatMap encI)), (I a0.f1), (.sl true a0.f2.length 2 (a0.f2.flatMap (e83 true)))])], [], []⟩ [c_ 53, c_ 7] aln nocal ?_
    have h := Option.some.inj h
    subst h
    exact .fin0 [] (B false) [] aln (.z .s)
/-! laws_eqIntS: function 41 -/
def laws_eqIntS.l0 : Nat → (List Int) → (List Int) → Int → Option Bool
 | 0, _, _, _ => none
 | k + 1, a0, a1, x1 => (if x1 < (a0.length : Int) then (if 0 ≤ x1 then (if x1 < (a1.length : Int) then (if (at_ a0 x1) = (at_ a1 x1) then (laws_eqIntS.l0 k a0 a1 (wrap64 (x1 + 1))) else (some false)) else none) else none) else (some true))
def laws_eqIntS.f (k : Nat) (a0 : (List Int)) (a1 : (List Int)) : Option Bool := (if (a0.length : Int) = (a1.length : Int) then (laws_eqIntS.l0 k a0 a1 0) else (some false))
theorem laws_eqIntS.lab : ∀ k, (∀ (a0 : (List Int)) (a1 : (List Int)) (x1 : Int) (r : Bool), laws_eqIntS.l0 k a0 a1 x1 = some r → J prog (.run 41 [] [l_ 58, b_ 0, c_ 15] [(0, (.sl true a0.length 1 (a0.flatMap encI))), (1, (.sl true a1.length 1 (a1.flatMap encI))), (5, (I x1))] [] (B r) []))
 | 0 => (by intro a0 a1 x1 r h; unfold laws_eqIntS.l0 at h; cases h)
 | k + 1 => by
  have ih := laws_eqIntS.lab k
  have ih0 := ih
  · intro a0 a1 x1 r h
    unfold laws_eqIntS.l0 at h
    refine .loop' [c_ 464, c_ 465, c_ 233, l_ 58, b_ 0, c_ 15] ?_
    refine .reg' [0, 1, 5, 14] [] ⟨[(0, (.sl true a0.length 1 (a0.flatMap encI))), (1, (.sl true a1.length 1 (a1.flatMap encI))), (5, (I x1)), (14, (B (decide (x1 < (a0.length : Int)))))], [], [], []⟩ [c_ 465, c_ 233, l_ 58, b_ 0, c_ 15] aln nocal ?_
    by_cases c2 : x1 < (a0.length : Int)
    · rw [if_pos c2] at h
      refine .cond' (.tmp 14) true [c_ 1864, c_ 1865, b_ 1, c_ 467, l_ 58, b_ 0, c_ 15] (bT (dT c2)) ?_
      by_cases c3 : 0 ≤ x1
      · rw [if_pos c3] at h
        by_cases c4 : x1 < (a1.length : Int)
        · rw [if_pos c4] at h
          refine .reg' [0, 1, 5, 25] [.no, .no, .no, .v (I (at_ a0 x1)), .no, .no, .no, .v (I (at_ a1 x1))] ⟨[(0, (.sl true a0.length 1 (a0.flatMap encI))), (1, (.sl true a1.length 1 (a1.flatMap encI))), (5, (I x1)), (25, (B (!((at_ a0 x1) == (at_ a1 x1)))))], [], [(0 : Int) ≤ x1 ∧ x1 < (a0.length : Int), rdC prog 3 ((a0.flatMap encI).drop (x1.toNat * 1)) = (I (at_ a0 x1)), 1 ≤ ((a0.flatMap encI).drop (x1.toNat * 1)).length, (0 : Int) ≤ x1 ∧ x1 < (a1.length : Int), rdC prog 3 ((a1.flatMap encI).drop (x1.toNat * 1)) = (I (at_ a1 x1)), 1 ≤ ((a1.flatMap encI).drop (x1.toNat * 1)).length], []⟩ [c_ 1865, b_ 1, c_ 467, l_ 58, b_ 0, c_ 15] (alc ⟨c3, c2⟩ (alc (ldC1 encI_ok rfl c3 c2) (alc (okI encI_ok c3 c2 (by decide)) (alc ⟨c3, c4⟩ (alc (ldC1 encI_ok rfl c3 c4) (alc (okI encI_ok c3 c4 (by decide)) aln)))))) nocal ?_
          by_cases c5 : (at_ a0 x1) = (at_ a1 x1)
          · rw [if_pos c5] at h
            refine .cond' (.tmp 25) false [c_ 467, l_ 58, b_ 0, c_ 15] (bF (nF (qT c5))) ?_
            refine .reg' [0, 1, 5] [] ⟨[(0, (.sl true a0.length 1 (a0.flatMap encI))), (1, (.sl true a1.length 1 (a1.flatMap encI))), (5, (I (wrap64 (x1 + 1))))], [], [], []⟩ [l_ 58, b_ 0, c_ 15] aln nocal ?_
            exact ih0 a0 a1 (wrap64 (x1 + 1)) _ h
          · rw [if_neg c5] at h
            refine .cond' (.tmp 25) true [c_ 7460, c_ 7461, b_ 1, c_ 467, l_ 58, b_ 0, c_ 15] (bT (nT (qF c5))) ?_
            refine .reg' [4] [] ⟨[(4, (B false))], [], [], []⟩ [c_ 7461, b_ 1, c_ 467, l_ 58, b_ 0, c_ 15] aln nocal ?_
            have h := Option.some.inj h
            subst h
            exact .fin0 [] (B false) [] aln (.z .s)
        · rw [if_neg c4] at h
          cases h
      · rw [if_neg c3] at h
        cases h
    · rw [if_neg c2] at h
      refine .cond' (.tmp 14) false [c_ 30, c_ 31] (bF (dF c2)) ?_
      refine .reg' [4] [] ⟨[(4, (B true))], [], [], []⟩ [c_ 31] aln nocal ?_
      have h := Option.some.inj h
      subst h
      exact .fin0 [] (B true) [] aln (.z .s)
theorem laws_eqIntS.J (k : Nat) (a0 : (List Int)) (a1 : (List Int)) (r : Bool) (h : laws_eqIntS.f k a0 a1 = some r) : J prog (.call 41 [(.sl true a0.length 1 (a0.flatMap encI)), (.sl true a1.length 1 (a1.flatMap encI))] [] (B r) []) := by
  unfold laws_eqIntS.f at h
  have ih0 := laws_eqIntS.lab k
  refine .call' [c_ 2, c_ 3] ?_
  refine .reg' [0, 1] [] ⟨[(0, (.sl true a0.length 1 (a0.flatMap encI))), (1, (.sl true a1.length 1 (a1.flatMap encI)))], [], [], []⟩ [c_ 12, c_ 13, c_ 7] aln nocal ?_
  refine .reg' [0, 1, 10] [] ⟨[(0, (.sl true a0.length 1 (a0.flatMap encI))), (1, (.sl true a1.length 1 (a1.flatMap encI))), (10, (B (!((a0.length : Int) == (a1.length : Int)))))], [], [], []⟩ [c_ 13, c_ 7] aln nocal ?_
  by_cases c1 : (a0.length : Int) = (a1.length : Int)
  · rw [if_pos c1] at h
    refine .cond' (.tmp 10) false [c_ 28, c_ 29, c_ 15] (bF (nF (qT c1))) ?_
    refine .reg' [0, 1, 5] [] ⟨[(0, (.sl true a0.length 1 (a0.flatMap encI))), (1, (.sl true a1.length 1 (a1.flatMap encI))), (5, (I 0))], [], [], []⟩ [l_ 58, b_ 0, c_ 15] aln nocal ?_
    exact ih0 a0 a1 0 _ h
  · rw [if_neg c1] at h
    refine .cond' (.tmp 10) true [c_ 52, c_ 53, c_ 7] (bT (nT (qF c1))) ?_
    refine .reg' [4] [] ⟨[(4, (B false))], [], [], []⟩ [c_ 53, c_ 7] aln nocal ?_
    have h := Option.some.inj h
    subst h
    exact .fin0 [] (B false) [] aln (.z .s)
/-! laws_eqNeed: function 130 -/
def laws_eqNeed.f (a0 : S93) (a1 : S93) : Option Bool := (if a0.f0 = a1.f0 then (if a0.f1 = a1.f1 then (some true) else (some false)) else (some false))
theorem laws_eqNeed.J (a0 : S93) (a1 : S93) (r : Bool) (h : laws_eqNeed.f a0 a1 = some r) : J prog (.call 130 [(.ag [(I a0.f0), (I a0.f1)]), (.ag [(I a1.f0), (I a1.f1)])] [] (B r) []) := by
  unfold laws_eqNeed.f at h
  refine .call' [c_ 2, c_ 3] ?_
  refine .reg' [2, 3] [] ⟨[(2, (.pt 256 0 2)), (3, (.pt 257 0 2))], [(256, [(I a0.f0), (I a0.f1)]), (257, [(I a1.f0), (I a1.f1)])], [], []⟩ [c_ 12, c_ 13, c_ 7] aln nocal ?_
  refine .reg' [2, 3, 9] [] ⟨[(2, (.pt 256 0 2)), (3, (.pt 257 0 2)), (9, (B (!(a0.f0 == a1.f0))))], [(256, [(I a0.f0), (I a0.f1)]), (257, [(I a1.f0), (I a1.f1)])], [2 = 2 ∧ 0 + 1 ≤ 2, 2 = 2 ∧ 0 + 1 ≤ 2], []⟩ [c_ 13, c_ 7] (alc ⟨rfl, by decide⟩ (alc ⟨rfl, by decide⟩ aln)) nocal ?_
  by_cases c1 : a0.f0 = a1.f0
  · rw [if_pos c1] at h
    refine .cond' (.tmp 9) false [c_ 28, c_ 29, c_ 15] (bF (nF (qT c1))) ?_
    refine .reg' [14] [] ⟨[(14, (B (!(a0.f1 == a1.f1))))], [(256, [(I a0.f0), (I a0.f1)]), (257, [(I a1.f0), (I a1.f1)])], [2 = 2 ∧ 1 + 1 ≤ 2, 2 = 2 ∧ 1 + 1 ≤ 2], []⟩ [c_ 29, c_ 15] (alc ⟨rfl, by decide⟩ (alc ⟨rfl, by decide⟩ aln)) nocal ?_
    by_cases c2 : a0.f1 = a1.f1
    · rw [if_pos c2] at h
      refine .cond' (.tmp 14) false [c_ 30, c_ 31] (bF (nF (qT c2))) ?_
      refine .reg' [4] [] ⟨[(4, (B true))], [(256, [(I a0.f0), (I a0.f1)]), (257, [(I a1.f0), (I a1.f1)])], [], []⟩ [c_ 31] aln nocal ?_
      have h := Option.some.inj h
      subst h
      exact .fin0 [] (B true) [] aln (.z .s)
    · rw [if_neg c2] at h
      refine .cond' (.tmp 14) true [c_ 116, c_ 117, c_ 15] (bT (nT (qF c2))) ?_
      refine .reg' [4] [] ⟨[(4, (B false))], [(256, [(I a0.f0), (I a0.f1)]), (257, [(I a1.f0), (I a1.f1)])], [], []⟩ [c_ 117, c_ 15] aln nocal ?_
      have h := Option.some.inj h
      subst h
      exact .fin0 [] (B false) [] aln (.z .s)
  · rw [if_neg c1] at h
    refine .cond' (.tmp 9) true [c_ 52, c_ 53, c_ 7] (bT (nT (qF c1))) ?_
    refine .reg' [4] [] ⟨[(4, (B false))], [(256, [(I a0.f0), (I a0.f1)]), (257, [(I a1.f0), (I a1.f1)])], [], []⟩ [c_ 53, c_ 7] aln nocal ?_
    have h := Option.some.inj h
    subst h
    exact .fin0 [] (B false) [] aln (.z .s)
/-! laws_eqNeedS: function 118 -/
def laws_eqNeedS.l0 : Nat → (List S93) → (List S93) → Int → Option Bool
 | 0, _, _, _ => none
 | k + 1, a0, a1, x1 => (if x1 < (a0.length : Int) then (if 0 ≤ x1 then (if x1 < (a1.length : Int) then ((laws_eqNeed.f (at_ a0 x1) (at_ a1 x1)).bind fun x2 => (if x2 = true then (laws_eqNeedS.l0 k a0 a1 (wrap64 (x1 + 1))) else (some false))) else none) else none) else (some true))
def laws_eqNeedS.f (k : Nat) (a0 : (List S93)) (a1 : (List S93)) : Option Bool := (if (a0.length : Int) = (a1.length : Int) then (laws_eqNeedS.l0 k a0 a1 0) else (some false))
theorem laws_eqNeedS.lab : ∀ k, (∀ (a0 : (List S93)) (a1 : (List S93)) (x1 : Int) (r : Bool), laws_eqNeedS.l0 k a0 a1 x1 = some r → J prog (.run 118 [] [l_ 58, b_ 0, c_ 15] [(0, (.sl true a0.length 2 (a0.flatMap e93))), (1, (.sl true a1.length 2 (a1.flatMap e93))), (5, (I x1))] [] (B r) []))
 | 0 => (by intro a0 a1 x1 r h; unfold laws_eqNeedS.l0 at h; cases h)
 | k + 1 => by
  have ih := laws_eqNeedS.lab k
  have ih0 := ih
  · intro a0 a1 x1 r h
    unfold laws_eqNeedS.l0 at h
    refine .loop' [c_ 464, c_ 465, c_ 233, l_ 58, b_ 0, c_ 15] ?_
    refine .reg' [0, 1, 5, 14] [] ⟨[(0, (.sl true a0.length 2 (a0.flatMap e93))), (1, (.sl true a1.length 2 (a1.flatMap e93))), (5, (I x1)), (14, (B (decide (x1 < (a0.length : Int)))))], [], [], []⟩ [c_ 465, c_ 233, l_ 58, b_ 0, c_ 15] aln nocal ?_
    by_cases c2 : x1 < (a0.length : Int)
    · rw [if_pos c2] at h
      refine .cond' (.tmp 14) true [c_ 1864, c_ 1865, b_ 1, c_ 467, l_ 58, b_ 0, c_ 15] (bT (dT c2)) ?_
      by_cases c3 : 0 ≤ x1
      · rw [if_pos c3] at h
        by_cases c4 : x1 < (a1.length : Int)
        · rw [if_pos c4] at h
          obtain ⟨x2, hx2, h⟩ := Option.bind_eq_some_iff.mp h
          refine .reg' [0, 1, 5, 26] [.no, .no, .no, .v (.ag [(I (at_ a0 x1).f0), (I (at_ a0 x1).f1)]), .no, .no, .no, .v (.ag [(I (at_ a1 x1).f0), (I (at_ a1 x1).f1)]), .c ⟨130, [(.ag [(I (at_ a0 x1).f0), (I (at_ a0 x1).f1)]), (.ag [(I (at_ a1 x1).f0), (I (at_ a1 x1).f1)])], [], (B x2), [], [], [], [], (B x2), []⟩] ⟨[(0, (.sl true a0.length 2 (a0.flatMap e93))), (1, (.sl true a1.length 2 (a1.flatMap e93))), (5, (I x1)), (26, (B (!x2)))], [], [(0 : Int) ≤ x1 ∧ x1 < (a0.length : Int), rdC prog 94 ((a0.flatMap e93).drop (x1.toNat * 2)) = (.ag [(I (at_ a0 x1).f0), (I (at_ a0 x1).f1)]), 2 ≤ ((a0.flatMap e93).drop (x1.toNat * 2)).length, (0 : Int) ≤ x1 ∧ x1 < (a1.length : Int), rdC prog 94 ((a1.flatMap e93).drop (x1.toNat * 2)) = (.ag [(I (at_ a1 x1).f0), (I (at_ a1 x1).f1)]), 2 ≤ ((a1.flatMap e93).drop (x1.toNat * 2)).length, COK (hget []) [(.ag [(I (at_ a0 x1).f0), (I (at_ a0 x1).f1)]), (.ag [(I (at_ a1 x1).f0), (I (at_ a1 x1).f1)])] ⟨130, [(.ag [(I (at_ a0 x1).f0), (I (at_ a0 x1).f1)]), (.ag [(I (at_ a1 x1).f0), (I (at_ a1 x1).f1)])], [], (B x2), [], [], [], [], (B x2), []⟩], [⟨130, [(.ag [(I (at_ a0 x1).f0), (I (at_ a0 x1).f1)]), (.ag [(I (at_ a1 x1).f0), (I (at_ a1 x1).f1)])], [], (B x2), [], [], [], [], (B x2), []⟩]⟩ [c_ 1865, b_ 1, c_ 467, l_ 58, b_ 0, c_ 15] (alc ⟨c3, c2⟩ (alc (ldA e93_ok rfl rfl c3 c2) (alc (okI e93_ok c3 c2 (by decide)) (alc ⟨c3, c4⟩ (alc (ldA e93_ok rfl rfl c3 c4) (alc (okI e93_ok c3 c4 (by decide)) (alc (cok0 false (a2c (.z (frz_ag (a2c .s (a2c .s a2n)))) (a2c (.z (frz_ag (a2c .s (a2c .s a2n)))) a2n)) (.z .s) (fun h => absurd h (by decide))) aln))))))) (acal (laws_eqNeed.J (at_ a0 x1) (at_ a1 x1) _ hx2) nocal) ?_
          by_cases c5 : x2 = true
          · rw [if_pos c5] at h
            refine .cond' (.tmp 26) false [c_ 467, l_ 58, b_ 0, c_ 15] (bF (nF c5)) ?_
            refine .reg' [0, 1, 5] [] ⟨[(0, (.sl true a0.length 2 (a0.flatMap e93))), (1, (.sl true a1.length 2 (a1.flatMap e93))), (5, (I (wrap64 (x1 + 1))))], [], [], []⟩ [l_ 58, b_ 0, c_ 15] aln nocal ?_
            exact ih0 a0 a1 (wrap64 (x1 + 1)) _ h
          · rw [if_neg c5] at h
            refine .cond' (.tmp 26) true [c_ 7460, c_ 7461, b_ 1, c_ 467, l_ 58, b_ 0, c_ 15] (bT (nT (vF c5))) ?_
            refine .reg' [4] [] ⟨[(4, (B false))], [], [], []⟩ [c_ 7461, b_ 1, c_ 467, l_ 58, b_ 0, c_ 15] aln nocal ?_
            have h := Option.some.inj h
            subst h
            exact .fin0 [] (B false) [] aln (.z .s)
        · rw [if_neg c4] at h
          cases h
      · rw [if_neg c3] at h
        cases h
    · rw [if_neg c2] at h
      refine .cond' (.tmp 14) false [c_ 30, c_ 31] (bF (dF c2)) ?_
      refine .reg' [4] [] ⟨[(4, (B true))], [], [], []⟩ [c_ 31] aln nocal ?_
      have h := Option.some.inj h
      subst h
      exact .fin0 [] (B true) [] aln (.z .s)
theorem laws_eqNeedS.J (k : Nat) (a0 : (List S93)) (a1 : (List S93)) (r : Bool) (h : laws_eqNeedS.f k a0 a1 = some r) : J prog (.call 118 [(.sl true a0.length 2 (a0.flatMap e93)), (.sl true a1.length 2 (a1.flatMap e93))] [] (B r) []) := by
  unfold laws_eqNeedS.f at h
  have ih0 := laws_eqNeedS.lab k
  refine .call' [c_ 2, c_ 3] ?_
  refine .reg' [0, 1] [] ⟨[(0, (.sl true a0.length 2 (a0.flatMap e93))), (1, (.sl true a1.length 2 (a1.flatMap e93)))], [], [], []⟩ [c_ 12, c_ 13, c_ 7] aln nocal ?_
  refine .reg' [0, 1, 10] [] ⟨[(0, (.sl true a0.length 2 (a0.flatMap e93))), (1, (.sl true a1.length 2 (a1.flatMap e93))), (10, (B (!((a0.length : Int) == (a1.length : Int)))))], [], [], []⟩ [c_ 13, c_ 7] aln nocal ?_
  by_cases c1 : (a0.length : Int) = (a1.length : Int)
  · rw [if_pos c1] at h
    refine .cond' (.tmp 10) false [c_ 28, c_ 29, c_ 15] (bF (nF (qT c1))) ?_
    refine .reg' [0, 1, 5] [] ⟨[(0, (.sl true a0.length 2 (a0.flatMap e93))), (1, (.sl true a1.length 2 (a1.flatMap e93))), (5, (I 0))], [], [], []⟩ [l_ 58, b_ 0, c_ 15] aln nocal ?_
    exact ih0 a0 a1 0 _ h
  · rw [if_neg c1] at h
    refine .cond' (.tmp 10) true [c_ 52, c_ 53, c_ 7] (bT (nT (qF c1))) ?_
    refine .reg' [4] [] ⟨[(4, (B false))], [], [], []⟩ [c_ 53, c_ 7] aln nocal ?_
    have h := Option.some.inj h
    subst h
    exact .fin0 [] (B false) [] aln (.z .s)
/-! laws_eqRoute: function 101 -/
def laws_eqRoute.f (k : Nat) (a0 : S83) (a1 : S83) : Option Bool := ((laws_eqNeedS.f k a0.f0 a1.f0).bind fun x1 => (if x1 = true then ((laws_eqIntS.f k a0.f1 a1.f1).bind fun x2 => (if x2 = true then (some true) else (some false))) else (some false)))
theorem laws_eqRoute.J (k : Nat) (a0 : S83) (a1 : S83) (r : Bool) (h : laws_eqRoute.f k a0 a1 = some r) : J prog (.call 101 [(.ag [(.sl true a0.f0.length 2 (a0.f0.flatMap e93)), (.sl true a0.f1.length 1 (a0.f1.flatMap encI))]), (.ag [(.sl true a1.f0.length 2 (a1.f0.flatMap e93)), (.sl true a1.f1.length 1 (a1.f1.flatMap encI))])] [] (B r) []) := by
  unfold laws_eqRoute.f at h
  refine .call' [c_ 2, c_ 3] ?_
  refine .reg' [2, 3] [] ⟨[(2, (.pt 256 0 2)), (3, (.pt 257 0 2))], [(256, [(.sl true a0.f0.length 2 (a0.f0.flatMap e93)), (.sl true a0.f1.length 1 (a0.f1.flatMap encI))]), (257, [(.sl true a1.f0.length 2 (a1.f0.flatMap e93)), (.sl true a1.f1.length 1 (a1.f1.flatMap encI))])], [], []⟩ [c_ 12, c_ 13, c_ 7] aln nocal ?_
  obtain ⟨x1, hx1, h⟩ := Option.bind_eq_some_iff.mp h
  refine .reg' [2, 3, 10] [.no, .no, .no, .no, .c ⟨118, [(.sl true a0.f0.length 2 (a0.f0.flatMap e93)), (.sl true a1.f0.length 2 (a1.f0.flatMap e93))], [], (B x1), [], [], [], [], (B x1), []⟩] ⟨[(2, (.pt 256 0 2)), (3, (.pt 257 0 2)), (10, (B (!x1)))], [(256, [(.sl true a0.f0.length 2 (a0.f0.flatMap e93)), (.sl true a0.f1.length 1 (a0.f1.flatMap encI))]), (257, [(.sl true a1.f0.length 2 (a1.f0.flatMap e93)), (.sl true a1.f1.length 1 (a1.f1.flatMap encI))])], [2 = 2 ∧ 0 + 1 ≤ 2, 2 = 2 ∧ 0 + 1 ≤ 2, COK (hget [(256, [(.sl true a0.f0.length 2 (a0.f0.flatMap e93)), (.sl true a0.f1.length 1 (a0.f1.flatMap encI))]), (257, [(.sl true a1.f0.length 2 (a1.f0.flatMap e93)), (.sl true a1.f1.length 1 (a1.f1.flatMap encI))])]) [(.sl true a0.f0.length 2 (a0.f0.flatMap e93)), (.sl true a1.f0.length 2 (a1.f0.flatMap e93))] ⟨118, [(.sl true a0.f0.length 2 (a0.f0.flatMap e93)), (.sl true a1.f0.length 2 (a1.f0.flatMap e93))], [], (B x1), [], [], [], [], (B x1), []⟩], [⟨118, [(.sl true a0.f0.length 2 (a0.f0.flatMap e93)), (.sl true a1.f0.length 2 (a1.f0.flatMap e93))], [], (B x1), [], [], [], [], (B x1), []⟩]⟩ [c_ 13, c_ 7] (alc ⟨rfl, by decide⟩ (alc ⟨rfl, by decide⟩ (alc (cok0 false (a2c (.z (frz_sl e93_ok (fun h => h))) (a2c (.z (frz_sl e93_ok (fun h => h))) a2n)) (.z .s) (fun h => absurd h (by decide))) aln))) (acal (laws_eqNeedS.J k a0.f0 a1.f0 _ hx1) nocal) ?_
  by_cases c1 : x1 = true
  · rw [if_pos c1] at h
    refine .cond' (.tmp 10) false [c_ 28, c_ 29, c_ 15] (bF (nF c1)) ?_
    obtain ⟨x2, hx2, h⟩ := Option.bind_eq_some_iff.mp h
    refine .reg' [16] [.no, .no, .no, .no, .c ⟨41, [(.sl true a0.f1.length 1 (a0.f1.flatMap encI)), (.sl true a1.f1.length 1 (a1.f1.flatMap encI))], [], (B x2), [], [], [], [], (B x2), []⟩] ⟨[(16, (B (!x2)))], [(256, [(.sl true a0.f0.length 2 (a0.f0.flatMap e93)), (.sl true a0.f1.length 1 (a0.f1.flatMap encI))]), (257, [(.sl true a1.f0.length 2 (a1.f0.flatMap e93)), (.sl true a1.f1.length 1 (a1.f1.flatMap encI))])], [2 = 2 ∧ 1 + 1 ≤ 2, 2 = 2 ∧ 1 + 1 ≤ 2, COK (hget [(256, [(.sl true a0.f0.length 2 (a0.f0.flatMap e93)), (.sl true a0.f1.length 1 (a0.f1.flatMap encI))]), (257, [(.sl true a1.f0.length 2 (a1.f0.flatMap e93)), (.sl true a1.f1.length 1 (a1.f1.flatMap encI))])]) [(.sl true a0.f1.length 1 (a0.f1.flatMap encI)), (.sl true a1.f1.length 1 (a1.f1.flatMap encI))] ⟨41, [(.sl true a0.f1.length 1 (a0.f1.flatMap encI)), (.sl true a1.f1.length 1 (a1.f1.flatMap encI))], [], (B x2), [], [], [], [], (B x2), []⟩], [⟨41, [(.sl true a0.f1.length 1 (a0.f1.flatMap encI)), (.sl true a1.f1.length 1 (a1.f1.flatMap encI))], [], (B x2), [], [], [], [], (B x2), []⟩]⟩ [c_ 29, c_ 15] (alc ⟨rfl, by decide⟩ (alc ⟨rfl, by decide⟩ (alc (cok0 false (a2c (.z (frz_sl encI_ok (fun h => h))) (a2c (.z (frz_sl encI_ok (fun h => h))) a2n)) (.z .s) (fun h => absurd h (by decide))) aln))) (acal (laws_eqIntS.J k a0.f1 a1.f1 _ hx2) nocal) ?_
    by_cases c2 : x2 = true
    · rw [if_pos c2] at h
      refine .cond' (.tmp 16) false [c_ 30, c_ 31] (bF (nF c2)) ?_
      refine .reg' [4] [] ⟨[(4, (B true))], [(256, [(.sl true a0.f0.length 2 (a0.f0.flatMap e93)), (.sl true a0.f1.length 1 (a0.f1.flatMap encI))]), (257, [(.sl true a1.f0.length 2 (a1.f0.flatMap e93)), (.sl true a1.f1.length 1 (a1.f1.flatMap encI))])], [], []⟩ [c_ 31] aln nocal ?_
      have h := Option.some.inj h
      subst h
      exact .fin0 [] (B true) [] aln (.z .s)
    · rw [if_neg c2] at h
      refine .cond' (.tmp 16) true [c_ 116, c_ 117, c_ 15] (bT (nT (vF c2))) ?_
      refine .reg' [4] [] ⟨[(4, (B false))], [(256, [(.sl true a0.f0.length 2 (a0.f0.flatMap e93)), (.sl true a0.f1.length 1 (a0.f1.flatMap encI))]), (257, [(.sl true a1.f0.length 2 (a1.f0.flatMap e93)), (.sl true a1.f1.length 1 (a1.f1.flatMap encI))])], [], []⟩ [c_ 117, c_ 15] aln nocal ?_
      have h := Option.some.inj h
      subst h
      exact .fin0 [] (B false) [] aln (.z .s)
  · rw [if_neg c1] at h
    refine .cond' (.tmp 10) true [c_ 52, c_ 53, c_ 7] (bT (nT (vF c1))) ?_
    refine .reg' [4] [] ⟨[(4, (B false))], [(256, [(.sl true a0.f0.length 2 (a0.f0.flatMap e93)), (.sl true a0.f1.length 1 (a0.f1.flatMap encI))]), (257, [(.sl true a1.f0.length 2 (a1.f0.flatMap e93)), (.sl true a1.f1.length 1 (a1.f1.flatMap encI))])], [], []⟩ [c_ 53, c_ 7] aln nocal ?_
    have h := Option.some.inj h
    subst h
    exact .fin0 [] (B false) [] aln (.z .s)
/-! laws_eqRouteS: function 59 -/
def laws_eqRouteS.l0 : Nat → (List S83) → (List S83) → Int → Option Bool
 | 0, _, _, _ => none
 | k + 1, a0, a1, x1 => (if x1 < (a0.length : Int) then (if 0 ≤ x1 then (if x1 < (a1.length : Int) then ((laws_eqRoute.f k (at_ a0 x1) (at_ a1 x1)).bind fun x2 => (if x2 = true then (laws_eqRouteS.l0 k a0 a1 (wrap64 (x1 + 1))) else (some false))) else none) else none) else (some true))
def laws_eqRouteS.f (k : Nat) (a0 : (List S83)) (a1 : (List S83)) : Option Bool := (if (a0.length : Int) = (a1.length : Int) then (laws_eqRouteS.l0 k a0 a1 0) else (some false))
theorem laws_eqRouteS.lab : ∀ k, (∀ (a0 : (List S83)) (a1 : (List S83)) (x1 : Int) (r : Bool), laws_eqRouteS.l0 k a0 a1 x1 = some r → J prog (.run 59 [] [l_ 58, b_ 0, c_ 15] [(0, (.sl true a0.length 2 (a0.flatMap (e83 true)))), (1, (.sl true a1.length 2 (a1.flatMap (e83 true)))), (5, (I x1))] [] (B r) []))
 | 0 => (by intro a0 a1 x1 r h; unfold laws_eqRouteS.l0 at h; cases h)
 | k + 1 => by
  have ih := laws_eqRouteS.lab k
  have ih0 := ih
  · intro a0 a1 x1 r h
    unfold laws_eqRouteS.l0 at h
    refine .loop' [c_ 464, c_ 465, c_ 233, l_ 58, b_ 0, c_ 15] ?_
    refine .reg' [0, 1, 5, 14] [] ⟨[(0, (.sl true a0.length 2 (a0.flatMap (e83 true)))), (1, (.sl true a1.length 2 (a1.flatMap (e83 true)))), (5, (I x1)), (14, (B (decide (x1 < (a0.length : Int)))))], [], [], []⟩ [c_ 465, c_ 233, l_ 58, b_ 0, c_ 15] aln nocal ?_
    by_cases c2 : x1 < (a0.length : Int)
    · rw [if_pos c2] at h
      refine .cond' (.tmp 14) true [c_ 1864, c_ 1865, b_ 1, c_ 467, l_ 58, b_ 0, c_ 15] (bT (dT c2)) ?_
      by_cases c3 : 0 ≤ x1
      · rw [if_pos c3] at h
        by_cases c4 : x1 < (a1.length : Int)
        · rw [if_pos c4] at h
          obtain ⟨x2, hx2, h⟩ := Option.bind_eq_some_iff.mp h
          refine .reg' [0, 1, 5, 26] [.no, .no, .no, .v (.ag [(.sl true (at_ a0 x1).f0.length 2 ((at_ a0 x1).f0.flatMap e93)), (.sl true (at_ a0 x1).f1.length 1 ((at_ a0 x1).f1.flatMap encI))]), .no, .no, .no, .v (.ag [(.sl true (at_ a1 x1).f0.length 2 ((at_ a1 x1).f0.flatMap e93)), (.sl true (at_ a1 x1).f1.length 1 ((at_ a1 x1).f1.flatMap encI))]), .c ⟨101, [(.ag [(.sl true (at_ a0 x1).f0.length 2 ((at_ a0 x1).f0.flatMap e93)), (.sl true (at_ a0 x1).f1.length 1 ((at_ a0 x1).f1.flatMap encI))]), (.ag [(.sl true (at_ a1 x1).f0.length 2 ((at_ a1 x1).f0.flatMap e93)), (.sl true (at_ a1 x1).f1.length 1 ((at_ a1 x1).f1.flatMap encI))])], [], (B x2), [], [], [], [], (B x2), []⟩] ⟨[(0, (.sl true a0.length 2 (a0.flatMap (e83 true)))), (1, (.sl true a1.length 2 (a1.flatMap (e83 true)))), (5, (I x1)), (26, (B (!x2)))], [], [(0 : Int) ≤ x1 ∧ x1 < (a0.length : Int), rdC prog 84 ((a0.flatMap (e83 true)).drop (x1.toNat * 2)) = (.ag [(.sl true (at_ a0 x1).f0.length 2 ((at_ a0 x1).f0.flatMap e93)), (.sl true (at_ a0 x1).f1.length 1 ((at_ a0 x1).f1.flatMap encI))]), 2 ≤ ((a0.flatMap (e83 true)).drop (x1.toNat * 2)).length, (0 : Int) ≤ x1 ∧ x1 < (a1.length : Int), rdC prog 84 ((a1.flatMap (e83 true)).drop (x1.toNat * 2)) = (.ag [(.sl true (at_ a1 x1).f0.length 2 ((at_ a1 x1).f0.flatMap e93)), (.sl true (at_ a1 x1).f1.length 1 ((at_ a1 x1).f1.flatMap encI))]), 2 ≤ ((a1.flatMap (e83 true)).drop (x1.toNat * 2)).length, COK (hget []) [(.ag [(.sl true (at_ a0 x1).f0.length 2 ((at_ a0 x1).f0.flatMap e93)), (.sl true (at_ a0 x1).f1.length 1 ((at_ a0 x1).f1.flatMap encI))]), (.ag [(.sl true (at_ a1 x1).f0.length 2 ((at_ a1 x1).f0.flatMap e93)), (.sl true (at_ a1 x1).f1.length 1 ((at_ a1 x1).f1.flatMap encI))])] ⟨101, [(.ag [(.sl true (at_ a0 x1).f0.length 2 ((at_ a0 x1).f0.flatMap e93)), (.sl true (at_ a0 x1).f1.length 1 ((at_ a0 x1).f1.flatMap encI))]), (.ag [(.sl true (at_ a1 x1).f0.length 2 ((at_ a1 x1).f0.flatMap e93)), (.sl true (at_ a1 x1).f1.length 1 ((at_ a1 x1).f1.flatMap encI))])], [], (B x2), [], [], [], [], (B x2), []⟩], [⟨101, [(.ag [(.sl true (at_ a0 x1).f0.length 2 ((at_ a0 x1).f0.flatMap e93)), (.sl true (at_ a0 x1).f1.length 1 ((at_ a0 x1).f1.flatMap encI))]), (.ag [(.sl true (at_ a1 x1).f0.length 2 ((at_ a1 x1).f0.flatMap e93)), (.sl true (at_ a1 x1).f1.length 1 ((at_ a1 x1).f1.flatMap encI))])], [], (B x2), [], [], [], [], (B x2), []⟩]⟩ [c_ 1865, b_ 1, c_ 467, l_ 58, b_ 0, c_ 15] (alc ⟨c3, c2⟩ (alc (ldA (e83_ok true) rfl rfl c3 c2) (alc (okI (e83_ok true) c3 c2 (by decide)) (alc ⟨c3, c4⟩ (alc (ldA (e83_ok true) rfl rfl c3 c4) (alc (okI (e83_ok true) c3 c4 (by decide)) (alc (cok0 false (a2c (.z (frz_ag (a2c (frz_sl e93_ok (fun h => h)) (a2c (frz_sl encI_ok (fun h => h)) a2n)))) (a2c (.z (frz_ag (a2c (frz_sl e93_ok (fun h => h)) (a2c (frz_sl encI_ok (fun h => h)) a2n)))) a2n)) (.z .s) (fun h => absurd h (by decide))) aln))))))) (acal (laws_eqRoute.J k (at_ a0 x1) (at_ a1 x1) _ hx2) nocal) ?_
          by_cases c5 : x2 = true
          · rw [if_pos c5] at h
            refine .cond' (.tmp 26) false [c_ 467, l_ 58, b_ 0, c_ 15] (bF (nF c5)) ?_
            refine .reg' [0, 1, 5] [] ⟨[(0, (.sl true a0.length 2 (a0.flatMap (e83 true)))), (1, (.sl true a1.length 2 (a1.flatMap (e83 true)))), (5, (I (wrap64 (x1 + 1))))], [], [], []⟩ [l_ 58, b_ 0, c_ 15] aln nocal ?_
            exact ih0 a0 a1 (wrap64 (x1 + 1)) _ h
          · rw [if_neg c5] at h
            refine .cond' (.tmp 26) true [c_ 7460, c_ 7461, b_ 1, c_ 467, l_ 58, b_ 0, c_ 15] (bT (nT (vF c5))) ?_
            refine .reg' [4] [] ⟨[(4, (B false))], [], [], []⟩ [c_ 7461, b_ 1, c_ 467, l_ 58, b_ 0, c_ 15] aln nocal ?_
            have h := Option.some.inj h
            subst h
            exact .fin0 [] (B false) [] aln (.z .s)
        · rw [if_neg c4] at h
          cases h
      · rw [if_neg c3] at h
        cases h
    · rw [if_neg c2] at h
      refine .cond' (.tmp 14) false [c_ 30, c_ 31] (bF (dF c2)) ?_
      refine .reg' [4] [] ⟨[(4, (B true))], [], [], []⟩ [c_ 31] aln nocal ?_
      have h := Option.some.inj h
      subst h
      exact .fin0 [] (B true) [] aln (.z .s)
theorem laws_eqRouteS.J (k : Nat) (a0 : (List S83)) (a1 : (List S83)) (r : Bool) (h : laws_eqRouteS.f k a0 a1 = some r) : J prog (.call 59 [(.sl true a0.length 2 (a0.flatMap (e83 true))), (.sl true a1.length 2 (a1.flatMap (e83 true)))] [] (B r) []) := by
  unfold laws_eqRouteS.f at h
  have ih0 := laws_eqRouteS.lab k
  refine .call' [c_ 2, c_ 3] ?_
  refine .reg' [0, 1] [] ⟨[(0, (.sl true a0.length 2 (a0.flatMap (e83 true)))), (1, (.sl true a1.length 2 (a1.flatMap (e83 true))))], [], [], []⟩ [c_ 12, c_ 13, c_ 7] aln nocal ?_
  refine .reg' [0, 1, 10] [] ⟨[(0, (.sl true a0.length 2 (a0.flatMap (e83 true)))), (1, (.sl true a1.length 2 (a1.flatMap (e83 true)))), (10, (B (!((a0.length : Int) == (a1.length : Int)))))], [], [], []⟩ [c_ 13, c_ 7] aln nocal ?_
  by_cases c1 : (a0.length : Int) = (a1.length : Int)
  · rw [if_pos c1] at h
    refine .cond' (.tmp 10) false [c_ 28, c_ 29, c_ 15] (bF (nF (qT c1))) ?_
    refine .reg' [0, 1, 5] [] ⟨[(0, (.sl true a0.length 2 (a0.flatMap (e83 true)))), (1, (.sl true a1.length 2 (a1.flatMap (e83 true)))), (5, (I 0))], [], [], []⟩ [l_ 58, b_ 0, c_ 15] aln nocal ?_
    exact ih0 a0 a1 0 _ h
  · rw [if_neg c1] at h
    refine .cond' (.tmp 10) true [c_ 52, c_ 53, c_ 7] (bT (nT (qF c1))) ?_
    refine .reg' [4] [] ⟨[(4, (B false))], [], [], []⟩ [c_ 53, c_ 7] aln nocal ?_
    have h := Option.some.inj h
    subst h
    exact .fin0 [] (B false) [] aln (.z .s)
/-! laws_eqPlant: function 14 -/
def laws_eqPlant.f (k : Nat) (a0 : S29) (a1 : S29) : Option Bool := ((laws_eqIntS.f k a0.f0 a1.f0).bind fun x1 => (if x1 = true then (if a0.f1 = a1.f1 then ((laws_eqRouteS.f k a0.f2 a1.f2).bind fun x2 => (if x2 = true then (some true) else (some false))) else (some false)) else (some false)))
theorem laws_eqPlant.J (k : Nat) (a0 : S29) (a1 : S29) (r : Bool) (h : laws_eqPlant.f k a0 a1 = some r) : J prog (.call 14 [(.ag [(.sl true a0.f0.length 1 (a0.f0.flatMap encI)), (I a0.f1), (.sl true a0.f2.length 2 (a0.f2.flatMap (e83 true)))]), (.ag [(.sl true a1.f0.length 1 (a1.f0.flatMap encI)), (I a1.f1), (.sl true a1.f2.length 2 (a1.f2.flatMap (e83 true)))])] [] (B r) []) := by
  unfold laws_eqPlant.f at h
  refine .call' [c_ 2, c_ 3] ?_
  refine .reg' [2, 3] [] ⟨[(2, (.pt 256 0 3)), (3, (.pt 257 0 3))], [(256, [(.sl true a0.f0.length 1 (a0.f0.flatMap encI)), (I a0.f1), (.sl true a0.f2.length 2 (a0.f2.flatMap (e83 true)))]), (257, [(.sl true a1.f0.length 1 (a1.f0.flatMap encI)), (I a1.f1), (.sl true a1.f2.length 2 (a1.f2.flatMap (e83 true)))])], [], []⟩ [c_ 12, c_ 13, c_ 7] aln nocal ?_
  obtain ⟨x1, hx1, h⟩ := Option.bind_eq_some_iff.mp h
  refine .reg' [2, 3, 10] [.no, .no, .no, .no, .c ⟨41, [(.sl true a0.f0.length 1 (a0.f0.flatMap encI)), (.sl true a1.f0.length 1 (a1.f0.flatMap encI))], [], (B x1), [], [], [], [], (B x1), []⟩] ⟨[(2, (.pt 256 0 3)), (3, (.pt 257 0 3)), (10, (B (!x1)))], [(256, [(.sl true a0.f0.length 1 (a0.f0.flatMap encI)), (I a0.f1), (.sl true a0.f2.length 2 (a0.f2.flatMap (e83 true)))]), (257, [(.sl true a1.f0.length 1 (a1.f0.flatMap encI)), (I a1.f1), (.sl true a1.f2.length 2 (a1.f2.flatMap (e83 true)))])], [3 = 3 ∧ 0 + 1 ≤ 3, 3 = 3 ∧ 0 + 1 ≤ 3, COK (hget [(256, [(.sl true a0.f0.length 1 (a0.f0.flatMap encI)), (I a0.f1), (.sl true a0.f2.length 2 (a0.f2.flatMap (e83 true)))]), (257, [(.sl true a1.f0.length 1 (a1.f0.flatMap encI)), (I a1.f1), (.sl true a1.f2.length 2 (a1.f2.flatMap (e83 true)))])]) [(.sl true a0.f0.length 1 (a0.f0.flatMap encI)), (.sl true a1.f0.length 1 (a1.f0.flatMap encI))] ⟨41, [(.sl true a0.f0.length 1 (a0.f0.flatMap encI)), (.sl true a1.f0.length 1 (a1.f0.flatMap encI))], [], (B x1), [], [], [], [], (B x1), []⟩], [⟨41, [(.sl true a0.f0.length 1 (a0.f0.flatMap encI)), (.sl true a1.f0.length 1 (a1.f0.flatMap encI))], [], (B x1), [], [], [], [], (B x1), []⟩]⟩ [c_ 13, c_ 7] (alc ⟨rfl, by decide⟩ (alc ⟨rfl, by decide⟩ (alc (cok0 false (a2c (.z (frz_sl encI_ok (fun h => h))) (a2c (.z (frz_sl encI_ok (fun h => h))) a2n)) (.z .s) (fun h => absurd h (by decide))) aln))) (acal (laws_eqIntS.J k a0.f0 a1.f0 _ hx1) nocal) ?_
  by_cases c1 : x1 = true
  · rw [if_pos c1] at h
    refine .cond' (.tmp 10) false [c_ 28, c_ 29, c_ 15] (bF (nF c1)) ?_
    refine .reg' [2, 3, 15] [] ⟨[(2, (.pt 256 0 3)), (3, (.pt 257 0 3)), (15, (B (!(a0.f1 == a1.f1))))], [(256, [(.sl true a0.f0.length 1 (a0.f0.flatMap encI)), (I a0.f1), (.sl true a0.f2.length 2 (a0.f2.flatMap (e83 true)))]), (257, [(.sl true a1.f0.length 1 (a1.f0.flatMap encI)), (I a1.f1), (.sl true a1.f2.length 2 (a1.f2.flatMap (e83 true)))])], [3 = 3 ∧ 1 + 1 ≤ 3, 3 = 3 ∧ 1 + 1 ≤ 3], []⟩ [c_ 29, c_ 15] (alc ⟨rfl, by decide⟩ (alc ⟨rfl, by decide⟩ aln)) nocal ?_
    by_cases c2 : a0.f1 = a1.f1
    · rw [if_pos c2] at h
      refine .cond' (.tmp 15) false [c_ 60, c_ 61, c_ 31] (bF (nF (qT c2))) ?_
      obtain ⟨x2, hx2, h⟩ := Option.bind_eq_some_iff.mp h
      refine .reg' [21] [.no, .no, .no, .no, .c ⟨59, [(.sl true a0.f2.length 2 (a0.f2.flatMap (e83 true))), (.sl true a1.f2.length 2 (a1.f2.flatMap (e83 true)))], [], (B x2), [], [], [], [], (B x2), []⟩] ⟨[(21, (B (!x2)))], [(256, [(.sl true a0.f0.length 1 (a0.f0.flatMap encI)), (I a0.f1), (.sl true a0.f2.length 2 (a0.f2.flatMap (e83 true)))]), (257, [(.sl true a1.f0.length 1 (a1.f0.flatMap encI)), (I a1.f1), (.sl true a1.f2.length 2 (a1.f2.flatMap (e83 true)))])], [3 = 3 ∧ 2 + 1 ≤ 3, 3 = 3 ∧ 2 + 1 ≤ 3, COK (hget [(256, [(.sl true a0.f0.length 1 (a0.f0.flatMap encI)), (I a0.f1), (.sl true a0.f2.length 2 (a0.f2.flatMap (e83 true)))]), (257, [(.sl true a1.f0.length 1 (a1.f0.flatMap encI)), (I a1.f1), (.sl true a1.f2.length 2 (a1.f2.flatMap (e83 true)))])]) [(.sl true a0.f2.length 2 (a0.f2.flatMap (e83 true))), (.sl true a1.f2.length 2 (a1.f2.flatMap (e83 true)))] ⟨59, [(.sl true a0.f2.length 2 (a0.f2.flatMap (e83 true))), (.sl true a1.f2.length 2 (a1.f2.flatMap (e83 true)))], [], (B x2), [], [], [], [], (B x2), []⟩], [⟨59, [(.sl true a0.f2.length 2 (a0.f2.flatMap (e83 true))), (.sl true a1.f2.length 2 (a1.f2.flatMap (e83 true)))], [], (B x2), [], [], [], [], (B x2), []⟩]⟩ [c_ 61, c_ 31] (alc ⟨rfl, by decide⟩ (alc ⟨rfl, by decide⟩ (alc (cok0 false (a2c (.z (frz_sl (e83_ok true) (fun h => h))) (a2c (.z (frz_sl (e83_ok true) (fun h => h))) a2n)) (.z .s) (fun h => absurd h (by decide))) aln))) (acal (laws_eqRouteS.J k a0.f2 a1.f2 _ hx2) nocal) ?_
      by_cases c3 : x2 = true
      · rw [if_pos c3] at h
        refine .cond' (.tmp 21) false [c_ 62, c_ 63] (bF (nF c3)) ?_
        refine .reg' [4] [] ⟨[(4, (B true))], [(256, [(.sl true a0.f0.length 1 (a0.f0.flatMap encI)), (I a0.f1), (.sl true a0.f2.length 2 (a0.f2.flatMap (e83 true)))]), (257, [(.sl true a1.f0.length 1 (a1.f0.flatMap encI)), (I a1.f1), (.sl true a1.f2.length 2 (a1.f2.flatMap (e83 true)))])], [], []⟩ [c_ 63] aln nocal ?_
        have h := Option.some.inj h
        subst h
        exact .fin0 [] (B true) [] aln (.z .s)
      · rw [if_neg c3] at h
        refine .cond' (.tmp 21) true [c_ 244, c_ 245, c_ 31] (bT (nT (vF c3))) ?_
        refine .reg' [4] [] ⟨[(4, (B false))], [(256, [(.sl true a0.f0.length 1 (a0.f0.flatMap encI)), (I a0.f1), (.sl true a0.f2.length 2 (a0.f2.flatMap (e83 true)))]), (257, [(.sl true a1.f0.length 1 (a1.f0.flatMap encI)), (I a1.f1), (.sl true a1.f2.length 2 (a1.f2.flatMap (e83 true)))])], [], []⟩ [c_ 245, c_ 31] aln nocal ?_
        have h := Option.some.inj h
        subst h
        exact .fin0 [] (B false) [] aln (.z .s)
    · rw [if_neg c2] at h
      refine .cond' (.tmp 15) true [c_ 116, c_ 117, c_ 15] (bT (nT (qF c2))) ?_
      refine .reg' [4] [] ⟨[(4, (B false))], [(256, [(.sl true a0.f0.length 1 (a0.f0.flatMap encI)), (I a0.f1), (.sl true a0.f2.length 2 (a0.f2.flatMap (e83 true)))]), (257, [(.sl true a1.f0.length 1 (a1.f0.flatMap encI)), (I a1.f1), (.sl true a1.f2.length 2 (a1.f2.flatMap (e83 true)))])], [], []⟩ [c_ 117, c_ 15] aln nocal ?_
      have h := Option.some.inj h
      subst h
      exact .fin0 [] (B false) [] aln (.z .s)
  · rw [if_neg c1] at h
    refine .cond' (.tmp 10) true [c_ 52, c_ 53, c_ 7] (bT (nT (vF c1))) ?_
    refine .reg' [4] [] ⟨[(4, (B false))], [(256, [(.sl true a0.f0.length 1 (a0.f0.flatMap encI)), (I a0.f1), (.sl true a0.f2.length 2 (a0.f2.flatMap (e83 true)))]), (257, [(.sl true a1.f0.length 1 (a1.f0.flatMap encI)), (I a1.f1), (.sl true a1.f2.length 2 (a1.f2.flatMap (e83 true)))])], [], []⟩ [c_ 53, c_ 7] aln nocal ?_
    have h := Option.some.inj h
    subst h
    exact .fin0 [] (B false) [] aln (.z .s)
/-! laws_FnExactClashing: function 4 -/
def laws_FnExactClashing.f (k : Nat) (a0 : S24) (a1 : Int) (a2 : Int) : Option Bool := ((laws_szPlant.f k a0 1048576).bind fun x1 => (if x1 < 0 then (some true) else ((laws_toPlant.f k a0).bind fun x2 => ((spec_Clashing.f k x2 a1 a2).bind fun x3 => ((laws_toPlant.f k a0).bind fun x4 => ((impl_Clashing.f k x4 a1 a2).bind fun x5 => (if (x5 == x3) = true then ((laws_toPlant.f k a0).bind fun x6 => ((laws_eqPlant.f k x4 x6).bind fun x7 => (if x7 = true then (some true) else (some false)))) else (some false))))))))
theorem laws_FnExactClashing.J (k : Nat) (a0 : S24) (a1 : Int) (a2 : Int) (r : Bool) (h : laws_FnExactClashing.f k a0 a1 a2 = some r) : J prog (.call 4 [(.ag [(.sl true a0.f0.length 1 (a0.f0.flatMap encI)), (I a0.f1), (.sl true a0.f2.length 2 (a0.f2.flatMap (e142 true)))]), (I a1), (I a2)] [] (B r) []) := by
  unfold laws_FnExactClashing.f at h
  refine .call' [c_ 2, c_ 3] ?_
  refine .reg' [1, 2, 3] [] ⟨[(1, (I a1)), (2, (I a2)), (3, (.pt 256 0 3))], [(256, [(.sl true a0.f0.length 1 (a0.f0.flatMap encI)), (I a0.f1), (.sl true a0.f2.length 2 (a0.f2.flatMap (e142 true)))])], [], []⟩ [c_ 6, c_ 7] aln nocal ?_
  refine .reg' [1, 2, 3, 7] [] ⟨[(1, (I a1)), (2, (I a2)), (3, (.pt 256 0 3)), (7, (I 1048576))], [(256, [(.sl true a0.f0.length 1 (a0.f0.flatMap encI)), (I a0.f1), (.sl true a0.f2.length 2 (a0.f2.flatMap (e142 true)))])], [], []⟩ [c_ 14, c_ 15] aln nocal ?_
  obtain ⟨x1, hx1, h⟩ := Option.bind_eq_some_iff.mp h
  refine .reg' [1, 2, 3, 7] [.no, .no, .c ⟨10, [(.ag [(.sl true a0.f0.length 1 (a0.f0.flatMap encI)), (I a0.f1), (.sl true a0.f2.length 2 (a0.f2.flatMap (e142 true)))]), (I 1048576)], [], (I x1), [], [], [], [], (I x1), []⟩] ⟨[(1, (I a1)), (2, (I a2)), (3, (.pt 256 0 3)), (7, (I x1))], [(256, [(.sl true a0.f0.length 1 (a0.f0.flatMap encI)), (I a0.f1), (.sl true a0.f2.length 2 (a0.f2.flatMap (e142 true)))])], [3 = 3 ∧ 0 + 3 ≤ 3, COK (hget [(256, [(.sl true a0.f0.length 1 (a0.f0.flatMap encI)), (I a0.f1), (.sl true a0.f2.length 2 (a0.f2.flatMap (e142 true)))])]) [(.ag [(.sl true a0.f0.length 1 (a0.f0.flatMap encI)), (I a0.f1), (.sl true a0.f2.length 2 (a0.f2.flatMap (e142 true)))]), (I 1048576)] ⟨10, [(.ag [(.sl true a0.f0.length 1 (a0.f0.flatMap encI)), (I a0.f1), (.sl true a0.f2.length 2 (a0.f2.flatMap (e142 true)))]), (I 1048576)], [], (I x1), [], [], [], [], (I x1), []⟩], [⟨10, [(.ag [(.sl true a0.f0.length 1 (a0.f0.flatMap encI)), (I a0.f1), (.sl true a0.f2.length 2 (a0.f2.flatMap (e142 true)))]), (I 1048576)], [], (I x1), [], [], [], [], (I x1), []⟩]⟩ [c_ 60, c_ 61, c_ 31] (alc ⟨rfl, by decide⟩ (alc (cok0 false (a2c (.z (frz_ag (a2c (frz_sl encI_ok (fun h => h)) (a2c .s (a2c (frz_sl (e142_ok true) (fun h => h)) a2n))))) (a2c (.z .s) a2n)) (.z .s) (fun h => absurd h (by decide))) aln)) (acal (laws_szPlant.J k a0 1048576 _ hx1) nocal) ?_
  refine .reg' [1, 2, 3, 15] [] ⟨[(1, (I a1)), (2, (I a2)), (3, (.pt 256 0 3)), (15, (B (decide (x1 < 0))))], [(256, [(.sl true a0.f0.length 1 (a0.f0.flatMap encI)), (I a0.f1), (.sl true a0.f2.length 2 (a0.f2.flatMap (e142 true)))])], [], []⟩ [c_ 61, c_ 31] aln nocal ?_
  by_cases c1 : x1 < 0
  · rw [if_pos c1] at h
    refine .cond' (.tmp 15) true [c_ 244, c_ 245, c_ 31] (bT (dT c1)) ?_
    refine .reg' [6] [] ⟨[(6, (B true))], [(256, [(.sl true a0.f0.length 1 (a0.f0.flatMap encI)), (I a0.f1), (.sl true a0.f2.length 2 (a0.f2.flatMap (e142 true)))])], [], []⟩ [c_ 245, c_ 31] aln nocal ?_
    have h := Option.some.inj h
    subst h
    exact .fin0 [] (B true) [] aln (.z .s)
  · rw [if_neg c1] at h
    refine .cond' (.tmp 15) false [c_ 62, c_ 63] (bF (dF c1)) ?_
    obtain ⟨x2, hx2, h⟩ := Option.bind_eq_some_iff.mp h
    obtain ⟨x3, hx3, h⟩ := Option.bind_eq_some_iff.mp h
    refine .reg' [1, 2, 3, 8] [.no, .c ⟨12, [(.ag [(.sl true a0.f0.length 1 (a0.f0.flatMap encI)), (I a0.f1), (.sl true a0.f2.length 2 (a0.f2.flatMap (e142 true)))])], [], (.ag [(.rf 1000770 0 x2.f0.length 1 (x2.f0.length * 1)), (I x2.f1), (.rf 1001282 0 x2.f2.length 2 (x2.f2.length * 2))]), [(1000770, (x2.f0.flatMap encI)), (1001282, (x2.f2.flatMap (e83 false)))], [], [], [(1001537, 1000770), (2001537, 1001282)], (.ag [(.rf 1001537 0 x2.f0.length 1 (x2.f0.length * 1)), (I x2.f1), (.rf 2001537 0 x2.f2.length 2 (x2.f2.length * 2))]), [(1001537, (x2.f0.flatMap encI)), (2001537, (x2.f2.flatMap (e83 false)))]⟩, .no, .no, .c ⟨15, [(.ag [(.sl true x2.f0.length 1 (x2.f0.flatMap encI)), (I x2.f1), (.sl true x2.f2.length 2 (x2.f2.flatMap (e83 true)))]), (I a1), (I a2)], [], (B x3), [], [1001537, 2001537], [], [], (B x3), []⟩] ⟨[(1, (I a1)), (2, (I a2)), (3, (.pt 256 0 3)), (8, (B x3))], [(256, [(.sl true a0.f0.length 1 (a0.f0.flatMap encI)), (I a0.f1), (.sl true a0.f2.length 2 (a0.f2.flatMap (e142 true)))]), (2001537, (x2.f2.flatMap (e83 false))), (1001537, (x2.f0.flatMap encI))], [3 = 3 ∧ 0 + 3 ≤ 3, COK (hget [(256, [(.sl true a0.f0.length 1 (a0.f0.flatMap encI)), (I a0.f1), (.sl true a0.f2.length 2 (a0.f2.flatMap (e142 true)))])]) [(.ag [(.sl true a0.f0.length 1 (a0.f0.flatMap encI)), (I a0.f1), (.sl true a0.f2.length 2 (a0.f2.flatMap (e142 true)))])] ⟨12, [(.ag [(.sl true a0.f0.length 1 (a0.f0.flatMap encI)), (I a0.f1), (.sl true a0.f2.length 2 (a0.f2.flatMap (e142 true)))])], [], (.ag [(.rf 1000770 0 x2.f0.length 1 (x2.f0.length * 1)), (I x2.f1), (.rf 1001282 0 x2.f2.length 2 (x2.f2.length * 2))]), [(1000770, (x2.f0.flatMap encI)), (1001282, (x2.f2.flatMap (e83 false)))], [], [], [(1001537, 1000770), (2001537, 1001282)], (.ag [(.rf 1001537 0 x2.f0.length 1 (x2.f0.length * 1)), (I x2.f1), (.rf 2001537 0 x2.f2.length 2 (x2.f2.length * 2))]), [(1001537, (x2.f0.flatMap encI)), (2001537, (x2.f2.flatMap (e83 false)))]⟩, COK (hget [(256, [(.sl true a0.f0.length 1 (a0.f0.flatMap encI)), (I a0.f1), (.sl true a0.f2.length 2 (a0.f2.flatMap (e142 true)))]), (2001537, (x2.f2.flatMap (e83 false))), (1001537, (x2.f0.flatMap encI))]) [(.ag [(.rf 1001537 0 x2.f0.length 1 (x2.f0.length * 1)), (I x2.f1), (.rf 2001537 0 x2.f2.length 2 (x2.f2.length * 2))]), (I a1), (I a2)] ⟨15, [(.ag [(.sl true x2.f0.length 1 (x2.f0.flatMap encI)), (I x2.f1), (.sl true x2.f2.length 2 (x2.f2.flatMap (e83 true)))]), (I a1), (I a2)], [], (B x3), [], [1001537, 2001537], [], [], (B x3), []⟩], [⟨12, [(.ag [(.sl true a0.f0.length 1 (a0.f0.flatMap encI)), (I a0.f1), (.sl true a0.f2.length 2 (a0.f2.flatMap (e142 true)))])], [], (.ag [(.rf 1000770 0 x2.f0.length 1 (x2.f0.length * 1)), (I x2.f1), (.rf 1001282 0 x2.f2.length 2 (x2.f2.length * 2))]), [(1000770, (x2.f0.flatMap encI)), (1001282, (x2.f2.flatMap (e83 false)))], [], [], [(1001537, 1000770), (2001537, 1001282)], (.ag [(.rf 1001537 0 x2.f0.length 1 (x2.f0.length * 1)), (I x2.f1), (.rf 2001537 0 x2.f2.length 2 (x2.f2.length * 2))]), [(1001537, (x2.f0.flatMap encI)), (2001537, (x2.f2.flatMap (e83 false)))]⟩, ⟨15, [(.ag [(.sl true x2.f0.length 1 (x2.f0.flatMap encI)), (I x2.f1), (.sl true x2.f2.length 2 (x2.f2.flatMap (e83 true)))]), (I a1), (I a2)], [], (B x3), [], [1001537, 2001537], [], [], (B x3), []⟩]⟩ [c_ 126, c_ 127] (alc ⟨rfl, by decide⟩ (alc (cokW false (a2c (.z (frz_ag (a2c (frz_sl encI_ok (fun h => h)) (a2c .s (a2c (frz_sl (e142_ok true) (fun h => h)) a2n))))) a2n) akn (akc (.inr rfl) (akc (.inr rfl) akn)) (bck_ag (a2c (.rf (memP_mem (p := (1001537, 1000770)) rfl)) (a2c (.z .s) (a2c (.rf (memP_mem (p := (2001537, 1001282)) rfl)) a2n)))) (akc ⟨_, _, rfl, rfl, rowB encI_c _⟩ (akc ⟨_, _, rfl, rfl, rowB e83_c0 _⟩ akn)) (fun h => absurd h (by decide))) (alc (cok0 false (a2c (cnv_ag (a2c (.z (frz_rf encI_ok (by simp) rfl rfl (row_len encI_ok _).symm)) (a2c (.z .s) (a2c (.z (frz_rfT (fun x => e83_to x) (e83_ok false) (by simp) rfl rfl (row_len (e83_ok false) _).symm)) a2n)))) (a2c (.z .s) (a2c (.z .s) a2n))) (.z .s) (fun h => absurd h (by decide))) aln))) (acal (laws_toPlant.J k a0 _ hx2) (acal (spec_Clashing.J k x2 a1 a2 _ hx3) nocal)) ?_
    obtain ⟨x4, hx4, h⟩ := Option.bind_eq_some_iff.mp h
    refine .reg' [1, 2, 3, 8, 9] [.no, .c ⟨12, [(.ag [(.sl true a0.f0.length 1 (a0.f0.flatMap encI)), (I a0.f1), (.sl true a0.f2.length 2 (a0.f2.flatMap (e142 true)))])], [], (.ag [(.rf 1000770 0 x4.f0.length 1 (x4.f0.length * 1)), (I x4.f1), (.rf 1001282 0 x4.f2.length 2 (x4.f2.length * 2))]), [(1000770, (x4.f0.flatMap encI)), (1001282, (x4.f2.flatMap (e83 false)))], [], [], [(1001793, 1000770), (2001793, 1001282)], (.ag [(.rf 1001793 0 x4.f0.length 1 (x4.f0.length * 1)), (I x4.f1), (.rf 2001793 0 x4.f2.length 2 (x4.f2.length * 2))]), [(1001793, (x4.f0.flatMap encI)), (2001793, (x4.f2.flatMap (e83 false)))]⟩] ⟨[(1, (I a1)), (2, (I a2)), (3, (.pt 256 0 3)), (8, (B x3)), (9, (.pt 1794 0 3))], [(256, [(.sl true a0.f0.length 1 (a0.f0.flatMap encI)), (I a0.f1), (.sl true a0.f2.length 2 (a0.f2.flatMap (e142 true)))]), (2001537, (x2.f2.flatMap (e83 false))), (1001537, (x2.f0.flatMap encI)), (2001793, (x4.f2.flatMap (e83 false))), (1001793, (x4.f0.flatMap encI)), (1794, [(.rf 1001793 0 x4.f0.length 1 (x4.f0.length * 1)), (I x4.f1), (.rf 2001793 0 x4.f2.length 2 (x4.f2.length * 2))])], [3 = 3 ∧ 0 + 3 ≤ 3, COK (hget [(256, [(.sl true a0.f0.length 1 (a0.f0.flatMap encI)), (I a0.f1), (.sl true a0.f2.length 2 (a0.f2.flatMap (e142 true)))]), (2001537, (x2.f2.flatMap (e83 false))), (1001537, (x2.f0.flatMap encI))]) [(.ag [(.sl true a0.f0.length 1 (a0.f0.flatMap encI)), (I a0.f1), (.sl true a0.f2.length 2 (a0.f2.flatMap (e142 true)))])] ⟨12, [(.ag [(.sl true a0.f0.length 1 (a0.f0.flatMap encI)), (I a0.f1), (.sl true a0.f2.length 2 (a0.f2.flatMap (e142 true)))])], [], (.ag [(.rf 1000770 0 x4.f0.length 1 (x4.f0.length * 1)), (I x4.f1), (.rf 1001282 0 x4.f2.length 2 (x4.f2.length * 2))]), [(1000770, (x4.f0.flatMap encI)), (1001282, (x4.f2.flatMap (e83 false)))], [], [], [(1001793, 1000770), (2001793, 1001282)], (.ag [(.rf 1001793 0 x4.f0.length 1 (x4.f0.length * 1)), (I x4.f1), (.rf 2001793 0 x4.f2.length 2 (x4.f2.length * 2))]), [(1001793, (x4.f0.flatMap encI)), (2001793, (x4.f2.flatMap (e83 false)))]⟩, 3 = 3 ∧ 0 + 3 ≤ 3], [⟨12, [(.ag [(.sl true a0.f0.length 1 (a0.f0.flatMap encI)), (I a0.f1), (.sl true a0.f2.length 2 (a0.f2.flatMap (e142 true)))])], [], (.ag [(.rf 1000770 0 x4.f0.length 1 (x4.f0.length * 1)), (I x4.f1), (.rf 1001282 0 x4.f2.length 2 (x4.f2.length * 2))]), [(1000770, (x4.f0.flatMap encI)), (1001282, (x4.f2.flatMap (e83 false)))], [], [], [(1001793, 1000770), (2001793, 1001282)], (.ag [(.rf 1001793 0 x4.f0.length 1 (x4.f0.length * 1)), (I x4.f1), (.rf 2001793 0 x4.f2.length 2 (x4.f2.length * 2))]), [(1001793, (x4.f0.flatMap encI)), (2001793, (x4.f2.flatMap (e83 false)))]⟩]⟩ [c_ 254, c_ 255] (alc ⟨rfl, by decide⟩ (alc (cokW false (a2c (.z (frz_ag (a2c (frz_sl encI_ok (fun h => h)) (a2c .s (a2c (frz_sl (e142_ok true) (fun h => h)) a2n))))) a2n) akn (akc (.inr rfl) (akc (.inr rfl) akn)) (bck_ag (a2c (.rf (memP_mem (p := (1001793, 1000770)) rfl)) (a2c (.z .s) (a2c (.rf (memP_mem (p := (2001793, 1001282)) rfl)) a2n)))) (akc ⟨_, _, rfl, rfl, rowB encI_c _⟩ (akc ⟨_, _, rfl, rfl, rowB e83_c0 _⟩ akn)) (fun h => absurd h (by decide))) (alc ⟨rfl, by decide⟩ aln))) (acal (laws_toPlant.J k a0 _ hx4) nocal) ?_
    obtain ⟨x5, hx5, h⟩ := Option.bind_eq_some_iff.mp h
    refine .reg' [3, 8, 9, 10] [.no, .no, .no, .c ⟨16, [(.ag [(.sl true x4.f0.length 1 (x4.f0.flatMap encI)), (I x4.f1), (.sl true x4.f2.length 2 (x4.f2.flatMap (e83 true)))]), (I a1), (I a2)], [], (B x5), [], [1001793, 2001793], [], [], (B x5), []⟩] ⟨[(3, (.pt 256 0 3)), (8, (B x3)), (9, (.pt 1794 0 3)), (10, (B x5))], [(256, [(.sl true a0.f0.length 1 (a0.f0.flatMap encI)), (I a0.f1), (.sl true a0.f2.length 2 (a0.f2.flatMap (e142 true)))]), (2001537, (x2.f2.flatMap (e83 false))), (1001537, (x2.f0.flatMap encI)), (2001793, (x4.f2.flatMap (e83 false))), (1001793, (x4.f0.flatMap encI)), (1794, [(.rf 1001793 0 x4.f0.length 1 (x4.f0.length * 1)), (I x4.f1), (.rf 2001793 0 x4.f2.length 2 (x4.f2.length * 2))])], [3 = 3 ∧ 0 + 3 ≤ 3, COK (hget [(256, [(.sl true a0.f0.length 1 (a0.f0.flatMap encI)), (I a0.f1), (.sl true a0.f2.length 2 (a0.f2.flatMap (e142 true)))]), (2001537, (x2.f2.flatMap (e83 false))), (1001537, (x2.f0.flatMap encI)), (2001793, (x4.f2.flatMap (e83 false))), (1001793, (x4.f0.flatMap encI)), (1794, [(.rf 1001793 0 x4.f0.length 1 (x4.f0.length * 1)), (I x4.f1), (.rf 2001793 0 x4.f2.length 2 (x4.f2.length * 2))])]) [(.ag [(.rf 1001793 0 x4.f0.length 1 (x4.f0.length * 1)), (I x4.f1), (.rf 2001793 0 x4.f2.length 2 (x4.f2.length * 2))]), (I a1), (I a2)] ⟨16, [(.ag [(.sl true x4.f0.length 1 (x4.f0.flatMap encI)), (I x4.f1), (.sl true x4.f2.length 2 (x4.f2.flatMap (e83 true)))]), (I a1), (I a2)], [], (B x5), [], [1001793, 2001793], [], [], (B x5), []⟩], [⟨16, [(.ag [(.sl true x4.f0.length 1 (x4.f0.flatMap encI)), (I x4.f1), (.sl true x4.f2.length 2 (x4.f2.flatMap (e83 true)))]), (I a1), (I a2)], [], (B x5), [], [1001793, 2001793], [], [], (B x5), []⟩]⟩ [c_ 1020, c_ 1021, c_ 511] (alc ⟨rfl, by decide⟩ (alc (cok0 false (a2c (cnv_ag (a2c (.z (frz_rf encI_ok (by simp) rfl rfl (row_len encI_ok _).symm)) (a2c (.z .s) (a2c (.z (frz_rfT (fun x => e83_to x) (e83_ok false) (by simp) rfl rfl (row_len (e83_ok false) _).symm)) a2n)))) (a2c (.z .s) (a2c (.z .s) a2n))) (.z .s) (fun h => absurd h (by decide))) aln)) (acal (impl_Clashing.J k x4 a1 a2 _ hx5) nocal) ?_
    refine .reg' [3, 9, 29] [] ⟨[(3, (.pt 256 0 3)), (9, (.pt 1794 0 3)), (29, (B (!(x5 == x3))))], [(256, [(.sl true a0.f0.length 1 (a0.f0.flatMap encI)), (I a0.f1), (.sl true a0.f2.length 2 (a0.f2.flatMap (e142 true)))]), (2001537, (x2.f2.flatMap (e83 false))), (1001537, (x2.f0.flatMap encI)), (2001793, (x4.f2.flatMap (e83 false))), (1001793, (x4.f0.flatMap encI)), (1794, [(.rf 1001793 0 x4.f0.length 1 (x4.f0.length * 1)), (I x4.f1), (.rf 2001793 0 x4.f2.length 2 (x4.f2.length * 2))])], [], []⟩ [c_ 1021, c_ 511] aln nocal ?_
    by_cases c2 : (x5 == x3) = true
    · rw [if_pos c2] at h
      refine .cond' (.tmp 29) false [c_ 2044, c_ 2045, c_ 1023] (bF (nF c2)) ?_
      obtain ⟨x6, hx6, h⟩ := Option.bind_eq_some_iff.mp h
      obtain ⟨x7, hx7, h⟩ := Option.bind_eq_some_iff.mp h
      refine .reg' [34] [.no, .no, .c ⟨12, [(.ag [(.sl true a0.f0.length 1 (a0.f0.flatMap encI)), (I a0.f1), (.sl true a0.f2.length 2 (a0.f2.flatMap (e142 true)))])], [], (.ag [(.rf 1000770 0 x6.f0.length 1 (x6.f0.length * 1)), (I x6.f1), (.rf 1001282 0 x6.f2.length 2 (x6.f2.length * 2))]), [(1000770, (x6.f0.flatMap encI)), (1001282, (x6.f2.flatMap (e83 false)))], [], [], [(1002818, 1000770), (2002818, 1001282)], (.ag [(.rf 1002818 0 x6.f0.length 1 (x6.f0.length * 1)), (I x6.f1), (.rf 2002818 0 x6.f2.length 2 (x6.f2.length * 2))]), [(1002818, (x6.f0.flatMap encI)), (2002818, (x6.f2.flatMap (e83 false)))]⟩, .c ⟨14, [(.ag [(.sl true x4.f0.length 1 (x4.f0.flatMap encI)), (I x4.f1), (.sl true x4.f2.length 2 (x4.f2.flatMap (e83 true)))]), (.ag [(.sl true x6.f0.length 1 (x6.f0.flatMap encI)), (I x6.f1), (.sl true x6.f2.length 2 (x6.f2.flatMap (e83 true)))])], [], (B x7), [], [1001793, 1002818, 2001793, 2002818], [], [], (B x7), []⟩] ⟨[(34, (B (!x7)))], [(256, [(.sl true a0.f0.length 1 (a0.f0.flatMap encI)), (I a0.f1), (.sl true a0.f2.length 2 (a0.f2.flatMap (e142 true)))]), (2001537, (x2.f2.flatMap (e83 false))), (1001537, (x2.f0.flatMap encI)), (2001793, (x4.f2.flatMap (e83 false))), (1001793, (x4.f0.flatMap encI)), (1794, [(.rf 1001793 0 x4.f0.length 1 (x4.f0.length * 1)), (I x4.f1), (.rf 2001793 0 x4.f2.length 2 (x4.f2.length * 2))]), (2002818, (x6.f2.flatMap (e83 false))), (1002818, (x6.f0.flatMap encI))], [3 = 3 ∧ 0 + 3 ≤ 3, 3 = 3 ∧ 0 + 3 ≤ 3, COK (hget [(256, [(.sl true a0.f0.length 1 (a0.f0.flatMap encI)), (I a0.f1), (.sl true a0.f2.length 2 (a0.f2.flatMap (e142 true)))]), (2001537, (x2.f2.flatMap (e83 false))), (1001537, (x2.f0.flatMap encI)), (2001793, (x4.f2.flatMap (e83 false))), (1001793, (x4.f0.flatMap encI)), (1794, [(.rf 1001793 0 x4.f0.length 1 (x4.f0.length * 1)), (I x4.f1), (.rf 2001793 0 x4.f2.length 2 (x4.f2.length * 2))])]) [(.ag [(.sl true a0.f0.length 1 (a0.f0.flatMap encI)), (I a0.f1), (.sl true a0.f2.length 2 (a0.f2.flatMap (e142 true)))])] ⟨12, [(.ag [(.sl true a0.f0.length 1 (a0.f0.flatMap encI)), (I a0.f1), (.sl true a0.f2.length 2 (a0.f2.flatMap (e142 true)))])], [], (.ag [(.rf 1000770 0 x6.f0.length 1 (x6.f0.length * 1)), (I x6.f1), (.rf 1001282 0 x6.f2.length 2 (x6.f2.length * 2))]), [(1000770, (x6.f0.flatMap encI)), (1001282, (x6.f2.flatMap (e83 false)))], [], [], [(1002818, 1000770), (2002818, 1001282)], (.ag [(.rf 1002818 0 x6.f0.length 1 (x6.f0.length * 1)), (I x6.f1), (.rf 2002818 0 x6.f2.length 2 (x6.f2.length * 2))]), [(1002818, (x6.f0.flatMap encI)), (2002818, (x6.f2.flatMap (e83 false)))]⟩, COK (hget [(256, [(.sl true a0.f0.length 1 (a0.f0.flatMap encI)), (I a0.f1), (.sl true a0.f2.length 2 (a0.f2.flatMap (e142 true)))]), (2001537, (x2.f2.flatMap (e83 false))), (1001537, (x2.f0.flatMap encI)), (2001793, (x4.f2.flatMap (e83 false))), (1001793, (x4.f0.flatMap encI)), (1794, [(.rf 1001793 0 x4.f0.length 1 (x4.f0.length * 1)), (I x4.f1), (.rf 2001793 0 x4.f2.length 2 (x4.f2.length * 2))]), (2002818, (x6.f2.flatMap (e83 false))), (1002818, (x6.f0.flatMap encI))]) [(.ag [(.rf 1001793 0 x4.f0.length 1 (x4.f0.length * 1)), (I x4.f1), (.rf 2001793 0 x4.f2.length 2 (x4.f2.length * 2))]), (.ag [(.rf 1002818 0 x6.f0.length 1 (x6.f0.length * 1)), (I x6.f1), (.rf 2002818 0 x6.f2.length 2 (x6.f2.length * 2))])] ⟨14, [(.ag [(.sl true x4.f0.length 1 (x4.f0.flatMap encI)), (I x4.f1), (.sl true x4.f2.length 2 (x4.f2.flatMap (e83 true)))]), (.ag [(.sl true x6.f0.length 1 (x6.f0.flatMap encI)), (I x6.f1), (.sl true x6.f2.length 2 (x6.f2.flatMap (e83 true)))])], [], (B x7), [], [1001793, 1002818, 2001793, 2002818], [], [], (B x7), []⟩], [⟨12, [(.ag [(.sl true a0.f0.length 1 (a0.f0.flatMap encI)), (I a0.f1), (.sl true a0.f2.length 2 (a0.f2.flatMap (e142 true)))])], [], (.ag [(.rf 1000770 0 x6.f0.length 1 (x6.f0.length * 1)), (I x6.f1), (.rf 1001282 0 x6.f2.length 2 (x6.f2.length * 2))]), [(1000770, (x6.f0.flatMap encI)), (1001282, (x6.f2.flatMap (e83 false)))], [], [], [(1002818, 1000770), (2002818, 1001282)], (.ag [(.rf 1002818 0 x6.f0.length 1 (x6.f0.length * 1)), (I x6.f1), (.rf 2002818 0 x6.f2.length 2 (x6.f2.length * 2))]), [(1002818, (x6.f0.flatMap encI)), (2002818, (x6.f2.flatMap (e83 false)))]⟩, ⟨14, [(.ag [(.sl true x4.f0.length 1 (x4.f0.flatMap encI)), (I x4.f1), (.sl true x4.f2.length 2 (x4.f2.flatMap (e83 true)))]), (.ag [(.sl true x6.f0.length 1 (x6.f0.flatMap encI)), (I x6.f1), (.sl true x6.f2.length 2 (x6.f2.flatMap (e83 true)))])], [], (B x7), [], [1001793, 1002818, 2001793, 2002818], [], [], (B x7), []⟩]⟩ [c_ 2045, c_ 1023] (alc ⟨rfl, by decide⟩ (alc ⟨rfl, by decide⟩ (alc (cokW false (a2c (.z (frz_ag (a2c (frz_sl encI_ok (fun h => h)) (a2c .s (a2c (frz_sl (e142_ok true) (fun h => h)) a2n))))) a2n) akn (akc (.inr rfl) (akc (.inr rfl) akn)) (bck_ag (a2c (.rf (memP_mem (p := (1002818, 1000770)) rfl)) (a2c (.z .s) (a2c (.rf (memP_mem (p := (2002818, 1001282)) rfl)) a2n)))) (akc ⟨_, _, rfl, rfl, rowB encI_c _⟩ (akc ⟨_, _, rfl, rfl, rowB e83_c0 _⟩ akn)) (fun h => absurd h (by decide))) (alc (cok0 false (a2c (cnv_ag (a2c (.z (frz_rf encI_ok (by simp) rfl rfl (row_len encI_ok _).symm)) (a2c (.z .s) (a2c (.z (frz_rfT (fun x => e83_to x) (e83_ok false) (by simp) rfl rfl (row_len (e83_ok false) _).symm)) a2n)))) (a2c (cnv_ag (a2c (.z (frz_rf encI_ok (by simp) rfl rfl (row_len encI_ok _).symm)) (a2c (.z .s) (a2c (.z (frz_rfT (fun x => e83_to x) (e83_ok false) (by simp) rfl rfl (row_len (e83_ok false) _).symm)) a2n)))) a2n)) (.z .s) (fun h => absurd h (by decide))) aln)))) (acal (laws_toPlant.J k a0 _ hx6) (acal (laws_eqPlant.J k x4 x6 _ hx7) nocal)) ?_
      by_cases c3 : x7 = true
      · rw [if_pos c3] at h
        refine .cond' (.tmp 34) false [c_ 2046, c_ 2047] (bF (nF c3)) ?_
        refine .reg' [6] [] ⟨[(6, (B true))], [(256, [(.sl true a0.f0.length 1 (a0.f0.flatMap encI)), (I a0.f1), (.sl true a0.f2.length 2 (a0.f2.flatMap (e142 true)))]), (2001537, (x2.f2.flatMap (e83 false))), (1001537, (x2.f0.flatMap encI)), (2001793, (x4.f2.flatMap (e83 false))), (1001793, (x4.f0.flatMap encI)), (1794, [(.rf 1001793 0 x4.f0.length 1 (x4.f0.length * 1)), (I x4.f1), (.rf 2001793 0 x4.f2.length 2 (x4.f2.length * 2))]), (2002818, (x6.f2.flatMap (e83 false))), (1002818, (x6.f0.flatMap encI))], [], []⟩ [c_ 2047] aln nocal ?_
        have h := Option.some.inj h
        subst h
        exact .fin0 [] (B true) [] aln (.z .s)
      · rw [if_neg c3] at h
        refine .cond' (.tmp 34) true [c_ 8180, c_ 8181, c_ 1023] (bT (nT (vF c3))) ?_
        refine .reg' [6] [] ⟨[(6, (B false))], [(256, [(.sl true a0.f0.length 1 (a0.f0.flatMap encI)), (I a0.f1), (.sl true a0.f2.length 2 (a0.f2.flatMap (e142 true)))]), (2001537, (x2.f2.flatMap (e83 false))), (1001537, (x2.f0.flatMap encI)), (2001793, (x4.f2.flatMap (e83 false))), (1001793, (x4.f0.flatMap encI)), (1794, [(.rf 1001793 0 x4.f0.length 1 (x4.f0.length * 1)), (I x4.f1), (.rf 2001793 0 x4.f2.length 2 (x4.f2.length * 2))]), (2002818, (x6.f2.flatMap (e83 false))), (1002818, (x6.f0.flatMap encI))], [], []⟩ [c_ 8181, c_ 1023] aln nocal ?_
        have h := Option.some.inj h
        subst h
        exact .fin0 [] (B false) [] aln (.z .s)
    · rw [if_neg c2] at h
      refine .cond' (.tmp 29) true [c_ 4084, c_ 4085, c_ 511] (bT (nT (vF c2))) ?_
      refine .reg' [6] [] ⟨[(6, (B false))], [(256, [(.sl true a0.f0.length 1 (a0.f0.flatMap encI)), (I a0.f1), (.sl true a0.f2.length 2 (a0.f2.flatMap (e142 true)))]), (2001537, (x2.f2.flatMap (e83 false))), (1001537, (x2.f0.flatMap encI)), (2001793, (x4.f2.flatMap (e83 false))), (1001793, (x4.f0.flatMap encI)), (1794, [(.rf 1001793 0 x4.f0.length 1 (x4.f0.length * 1)), (I x4.f1), (.rf 2001793 0 x4.f2.length 2 (x4.f2.length * 2))])], [], []⟩ [c_ 4085, c_ 511] aln nocal ?_
      have h := Option.some.inj h
      subst h
      exact .fin0 [] (B false) [] aln (.z .s)
end Go.Proofs.Ytjfjifnmfnlfoaa.Fns
