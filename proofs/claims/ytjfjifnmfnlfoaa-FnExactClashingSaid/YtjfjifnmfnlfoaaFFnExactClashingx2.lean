/- The functions that the law FnExactClashing reaches, by the engine. Printed by a program of this seat. -/
import Derived.Test.YtjfjifnmfnlfoaaE5
import Derived.Test.YtjfjifnmfnlfoaaProg
import Derived.Test.YtjfjifnmfnlfoaaFFnExactClashingx1
namespace Go.Proofs.Ytjfjifnmfnlfoaa.Fns
open Go.Proofs.Try Go.Proofs.Ytjfjifnmfnlfoaa.Eng Go.RowKit
set_option maxRecDepth 100000
set_option linter.unusedVariables false
set_option linter.unusedSimpArgs false
mutual
def impl_routeOk.l0 : Nat → S29 → S83 → Int → Option Bool
 | 0, _, _, _ => none
 | k + 1, a0, a1, x1 => (if x1 < (a1.f0.length : Int) then (if 0 ≤ x1 then ((impl_between.f ((at_ a1.f0 x1).f0) 0 (wrap64 ((a0.f0.length : Int) - 1))).bind fun x2 => (if x2 = true then ((impl_between.f ((at_ a1.f0 x1).f1) 0 1).bind fun x3 => (if x3 = true then (if x1 > 0 then (if 0 ≤ (wrap64 (x1 - 1)) then (if (wrap64 (x1 - 1)) < (a1.f0.length : Int) then (if (at_ a1.f0 (wrap64 (x1 - 1))).f0 ≥ (at_ a1.f0 x1).f0 then (some false) else (impl_routeOk.l0 k a0 a1 (wrap64 (x1 + 1)))) else none) else none) else (impl_routeOk.l0 k a0 a1 (wrap64 (x1 + 1)))) else (some false))) else (some false))) else none) else (if (a1.f1.length : Int) < 1 then (some false) else (if (a1.f1.length : Int) > a0.f1 then (some false) else (impl_routeOk.l1 k a0 a1 0))))
def impl_routeOk.l1 : Nat → S29 → S83 → Int → Option Bool
 | 0, _, _, _ => none
 | k + 1, a0, a1, x4 => (if x4 < (a1.f1.length : Int) then (if 0 ≤ x4 then ((impl_between.f (at_ a1.f1 x4) 0 (wrap64 (a0.f1 - 1))).bind fun x5 => (if x5 = true then (if x4 ≤ (a1.f1.length : Int) then ((impl_has.f k ((a1.f1.drop (0 : Int).toNat).take (x4.toNat - (0 : Int).toNat)) (at_ a1.f1 x4)).bind fun x6 => (if x6 = true then (some false) else (impl_routeOk.l1 k a0 a1 (wrap64 (x4 + 1))))) else none) else (some false))) else none) else (some true))
end
def impl_routeOk.f (k : Nat) (a0 : S29) (a1 : S83) : Option Bool := (impl_routeOk.l0 k a0 a1 0)
theorem impl_routeOk.lab : ∀ k, (∀ (a0 : S29) (a1 : S83) (x1 : Int) (r : Bool), impl_routeOk.l0 k a0 a1 x1 = some r → J prog (.run 58 [] [l_ 26, b_ 0, c_ 7] [(2, (.pt 256 0 3)), (3, (.pt 257 0 2)), (10, (.sl true a1.f0.length 2 (a1.f0.flatMap e93))), (11, (I (a1.f0.length : Int))), (12, (I x1))] [(256, [(.sl true a0.f0.length 1 (a0.f0.flatMap encI)), (I a0.f1), (.sl true a0.f2.length 2 (a0.f2.flatMap (e83 true)))]), (257, [(.sl true a1.f0.length 2 (a1.f0.flatMap e93)), (.sl true a1.f1.length 1 (a1.f1.flatMap encI))])] (B r) [])) ∧ (∀ (a0 : S29) (a1 : S83) (x4 : Int) (r : Bool), impl_routeOk.l1 k a0 a1 x4 = some r → J prog (.run 58 [] [l_ 122, b_ 2, c_ 31] [(2, (.pt 256 0 3)), (3, (.pt 257 0 2)), (61, (.sl true a1.f1.length 1 (a1.f1.flatMap encI))), (62, (I (a1.f1.length : Int))), (63, (I x4))] [(256, [(.sl true a0.f0.length 1 (a0.f0.flatMap encI)), (I a0.f1), (.sl true a0.f2.length 2 (a0.f2.flatMap (e83 true)))]), (257, [(.sl true a1.f0.length 2 (a1.f0.flatMap e93)), (.sl true a1.f1.length 1 (a1.f1.flatMap encI))])] (B r) []))
 | 0 => ⟨(by intro a0 a1 x1 r h; unfold impl_routeOk.l0 at h; cases h), (by intro a0 a1 x4 r h; unfold impl_routeOk.l1 at h; cases h)⟩
 | k + 1 => by
  obtain ⟨ih0, ih1⟩ := impl_routeOk.lab k
  refine ⟨?_, ?_⟩
  · intro a0 a1 x1 r h
    unfold impl_routeOk.l0 at h
    refine .loop' [c_ 104, c_ 105, l_ 26, b_ 0, c_ 7] ?_
    refine .reg' [2, 3, 10, 11, 12, 13] [] ⟨[(2, (.pt 256 0 3)), (3, (.pt 257 0 2)), (10, (.sl true a1.f0.length 2 (a1.f0.flatMap e93))), (11, (I (a1.f0.length : Int))), (12, (I x1)), (13, (B (decide (x1 < (a1.f0.length : Int)))))], [(256, [(.sl true a0.f0.length 1 (a0.f0.flatMap encI)), (I a0.f1), (.sl true a0.f2.length 2 (a0.f2.flatMap (e83 true)))]), (257, [(.sl true a1.f0.length 2 (a1.f0.flatMap e93)), (.sl true a1.f1.length 1 (a1.f1.flatMap encI))])], [], []⟩ [c_ 210, c_ 211, l_ 26, b_ 0, c_ 7] aln nocal ?_
    by_cases c1 : x1 < (a1.f0.length : Int)
    · rw [if_pos c1] at h
      refine .cond' (.tmp 13) true [c_ 1688, c_ 1689, b_ 1, c_ 423, l_ 26, b_ 0, c_ 7] (bT (dT c1)) ?_
      by_cases c2 : 0 ≤ x1
      · rw [if_pos c2] at h
        refine .reg' [2, 3, 5, 6, 10, 11, 12] [.no, .no, .v (.ag [(I (at_ a1.f0 x1).f0), (I (at_ a1.f0 x1).f1)])] ⟨[(2, (.pt 256 0 3)), (3, (.pt 257 0 2)), (5, (I x1)), (6, (.pt 1027 0 2)), (10, (.sl true a1.f0.length 2 (a1.f0.flatMap e93))), (11, (I (a1.f0.length : Int))), (12, (I x1))], [(256, [(.sl true a0.f0.length 1 (a0.f0.flatMap encI)), (I a0.f1), (.sl true a0.f2.length 2 (a0.f2.flatMap (e83 true)))]), (257, [(.sl true a1.f0.length 2 (a1.f0.flatMap e93)), (.sl true a1.f1.length 1 (a1.f1.flatMap encI))]), (1027, [(I (at_ a1.f0 x1).f0), (I (at_ a1.f0 x1).f1)])], [(0 : Int) ≤ x1 ∧ x1 < (a1.f0.length : Int), rdC prog 94 ((a1.f0.flatMap e93).drop (x1.toNat * 2)) = (.ag [(I (at_ a1.f0 x1).f0), (I (at_ a1.f0 x1).f1)]), 2 ≤ ((a1.f0.flatMap e93).drop (x1.toNat * 2)).length, 2 = 2 ∧ 0 + 2 ≤ 2], []⟩ [c_ 3378, c_ 3379, b_ 1, c_ 423, l_ 26, b_ 0, c_ 7] (alc ⟨c2, c1⟩ (alc (ldA e93_ok rfl rfl c2 c1) (alc (okI e93_ok c2 c1 (by decide)) (alc ⟨rfl, by decide⟩ aln)))) nocal ?_
        obtain ⟨x2, hx2, h⟩ := Option.bind_eq_some_iff.mp h
        by_cases c3 : x2 = true
        · rw [if_pos c3] at h
          obtain ⟨x3, hx3, h⟩ := Option.bind_eq_some_iff.mp h
          by_cases c4 : x3 = true
          · rw [if_pos c4] at h
            by_cases c5 : x1 > 0
            · rw [if_pos c5] at h
              by_cases c6 : 0 ≤ (wrap64 (x1 - 1))
              · rw [if_pos c6] at h
                by_cases c7 : (wrap64 (x1 - 1)) < (a1.f0.length : Int)
                · rw [if_pos c7] at h
                  refine .reg' [2, 3, 10, 11, 12, 46] [.no, .no, .no, .no, .no, .no, .c ⟨57, [(I (at_ a1.f0 x1).f0), (I 0), (I (wrap64 ((a0.f0.length : Int) - 1)))], [], (B x2), [], [], [], [], (B x2), []⟩, .no, .v (B false), .no, .no, .c ⟨57, [(I (at_ a1.f0 x1).f1), (I 0), (I 1)], [], (B x3), [], [], [], [], (B x3), []⟩, .no, .no, .v (B false), .no, .no, .v (B true), .no, .no, .no, .no, .no, .no, .v (I (at_ a1.f0 (wrap64 (x1 - 1))).f0)] ⟨[(2, (.pt 256 0 3)), (3, (.pt 257 0 2)), (10, (.sl true a1.f0.length 2 (a1.f0.flatMap e93))), (11, (I (a1.f0.length : Int))), (12, (I x1)), (46, (B (decide ((at_ a1.f0 (wrap64 (x1 - 1))).f0 ≥ (at_ a1.f0 x1).f0))))], [(256, [(.sl true a0.f0.length 1 (a0.f0.flatMap encI)), (I a0.f1), (.sl true a0.f2.length 2 (a0.f2.flatMap (e83 true)))]), (257, [(.sl true a1.f0.length 2 (a1.f0.flatMap e93)), (.sl true a1.f1.length 1 (a1.f1.flatMap encI))]), (1027, [(I (at_ a1.f0 x1).f0), (I (at_ a1.f0 x1).f1)])], [2 = 2 ∧ 0 + 1 ≤ 2, 3 = 3 ∧ 0 + 1 ≤ 3, COK (hget [(256, [(.sl true a0.f0.length 1 (a0.f0.flatMap encI)), (I a0.f1), (.sl true a0.f2.length 2 (a0.f2.flatMap (e83 true)))]), (257, [(.sl true a1.f0.length 2 (a1.f0.flatMap e93)), (.sl true a1.f1.length 1 (a1.f1.flatMap encI))]), (1027, [(I (at_ a1.f0 x1).f0), (I (at_ a1.f0 x1).f1)])]) [(I (at_ a1.f0 x1).f0), (I 0), (I (wrap64 ((a0.f0.length : Int) - 1)))] ⟨57, [(I (at_ a1.f0 x1).f0), (I 0), (I (wrap64 ((a0.f0.length : Int) - 1)))], [], (B x2), [], [], [], [], (B x2), []⟩, (B (!x2) : V) = B false, 2 = 2 ∧ 1 + 1 ≤ 2, COK (hget [(256, [(.sl true a0.f0.length 1 (a0.f0.flatMap encI)), (I a0.f1), (.sl true a0.f2.length 2 (a0.f2.flatMap (e83 true)))]), (257, [(.sl true a1.f0.length 2 (a1.f0.flatMap e93)), (.sl true a1.f1.length 1 (a1.f1.flatMap encI))]), (1027, [(I (at_ a1.f0 x1).f0), (I (at_ a1.f0 x1).f1)])]) [(I (at_ a1.f0 x1).f1), (I 0), (I 1)] ⟨57, [(I (at_ a1.f0 x1).f1), (I 0), (I 1)], [], (B x3), [], [], [], [], (B x3), []⟩, (B (!x3) : V) = B false, (B (decide (x1 > 0)) : V) = B true, 2 = 2 ∧ 0 + 1 ≤ 2, (0 : Int) ≤ (wrap64 (x1 - 1)) ∧ (wrap64 (x1 - 1)) < (a1.f0.length : Int), rdC prog 3 (((a1.f0.flatMap e93).drop ((wrap64 (x1 - 1)).toNat * 2)).drop 0) = (I (at_ a1.f0 (wrap64 (x1 - 1))).f0), 1 ≤ (((a1.f0.flatMap e93).drop ((wrap64 (x1 - 1)).toNat * 2)).drop 0).length, 2 = 2 ∧ 0 + 1 ≤ 2], [⟨57, [(I (at_ a1.f0 x1).f0), (I 0), (I (wrap64 ((a0.f0.length : Int) - 1)))], [], (B x2), [], [], [], [], (B x2), []⟩, ⟨57, [(I (at_ a1.f0 x1).f1), (I 0), (I 1)], [], (B x3), [], [], [], [], (B x3), []⟩]⟩ [c_ 3379, b_ 1, c_ 423, l_ 26, b_ 0, c_ 7] (alc ⟨rfl, by decide⟩ (alc ⟨rfl, by decide⟩ (alc (cok0 false (a2c (.z .s) (a2c (.z .s) (a2c (.z .s) a2n))) (.z .s) (fun h => absurd h (by decide))) (alc (bF (nF c3)) (alc ⟨rfl, by decide⟩ (alc (cok0 false (a2c (.z .s) (a2c (.z .s) (a2c (.z .s) a2n))) (.z .s) (fun h => absurd h (by decide))) (alc (bF (nF c4)) (alc (bT (dT c5)) (alc ⟨rfl, by decide⟩ (alc ⟨c6, c7⟩ (alc (ldC e93_ok 0 (by decide) rfl c6 c7) (alc (okIj e93_ok c6 c7 (by decide)) (alc ⟨rfl, by decide⟩ aln))))))))))))) (acal (impl_between.J ((at_ a1.f0 x1).f0) 0 (wrap64 ((a0.f0.length : Int) - 1)) _ hx2) (acal (impl_between.J ((at_ a1.f0 x1).f1) 0 1 _ hx3) nocal)) ?_
                  by_cases c8 : (at_ a1.f0 (wrap64 (x1 - 1))).f0 ≥ (at_ a1.f0 x1).f0
                  · rw [if_pos c8] at h
                    refine .cond' (.tmp 46) true [c_ 13516, c_ 13517, b_ 1, c_ 423, l_ 26, b_ 0, c_ 7] (bT (dT c8)) ?_
                    refine .reg' [4] [] ⟨[(4, (B false))], [(256, [(.sl true a0.f0.length 1 (a0.f0.flatMap encI)), (I a0.f1), (.sl true a0.f2.length 2 (a0.f2.flatMap (e83 true)))]), (257, [(.sl true a1.f0.length 2 (a1.f0.flatMap e93)), (.sl true a1.f1.length 1 (a1.f1.flatMap encI))]), (1027, [(I (at_ a1.f0 x1).f0), (I (at_ a1.f0 x1).f1)])], [], []⟩ [c_ 13517, b_ 1, c_ 423, l_ 26, b_ 0, c_ 7] aln nocal ?_
                    have h := Option.some.inj h
                    subst h
                    exact .fin0 [] (B false) [] aln (.z .s)
                  · rw [if_neg c8] at h
                    refine .cond' (.tmp 46) false [c_ 423, l_ 26, b_ 0, c_ 7] (bF (dF c8)) ?_
                    refine .reg' [2, 3, 10, 11, 12] [] ⟨[(2, (.pt 256 0 3)), (3, (.pt 257 0 2)), (10, (.sl true a1.f0.length 2 (a1.f0.flatMap e93))), (11, (I (a1.f0.length : Int))), (12, (I (wrap64 (x1 + 1))))], [(256, [(.sl true a0.f0.length 1 (a0.f0.flatMap encI)), (I a0.f1), (.sl true a0.f2.length 2 (a0.f2.flatMap (e83 true)))]), (257, [(.sl true a1.f0.length 2 (a1.f0.flatMap e93)), (.sl true a1.f1.length 1 (a1.f1.flatMap encI))]), (1027, [(I (at_ a1.f0 x1).f0), (I (at_ a1.f0 x1).f1)])], [], []⟩ [l_ 26, b_ 0, c_ 7] aln nocal ?_
                    refine .wk' [] [(256, 256), (257, 257)] [(2, (.pt 256 0 3)), (3, (.pt 257 0 2)), (10, (.sl true a1.f0.length 2 (a1.f0.flatMap e93))), (11, (I (a1.f0.length : Int))), (12, (I (wrap64 (x1 + 1))))] [(256, [(.sl true a0.f0.length 1 (a0.f0.flatMap encI)), (I a0.f1), (.sl true a0.f2.length 2 (a0.f2.flatMap (e83 true)))]), (257, [(.sl true a1.f0.length 2 (a1.f0.flatMap e93)), (.sl true a1.f1.length 1 (a1.f1.flatMap encI))])] (shc 256 (a2c (.z (frz_sl encI_ok (fun h => h))) (a2c (.z .s) (a2c (.z (frz_sl (e83_ok true) (fun h => h))) a2n))) (shc 257 (a2c (.z (frz_sl e93_ok (fun h => h))) (a2c (.z (frz_sl encI_ok (fun h => h))) a2n)) shn)) (enc_ (.pt (memP_mem (p := (256, 256)) rfl)) (enc_ (.pt (memP_mem (p := (257, 257)) rfl)) (enc_ (.z (frz_sl e93_ok (fun h => h))) (enc_ (.z .s) (enc_ (.z .s) enn))))) ?_
                    exact ih0 a0 a1 (wrap64 (x1 + 1)) _ h
                · rw [if_neg c7] at h
                  cases h
              · rw [if_neg c6] at h
                cases h
            · rw [if_neg c5] at h
              refine .reg' [2, 3, 10, 11, 12, 46] [.no, .no, .no, .no, .no, .no, .c ⟨57, [(I (at_ a1.f0 x1).f0), (I 0), (I (wrap64 ((a0.f0.length : Int) - 1)))], [], (B x2), [], [], [], [], (B x2), []⟩, .no, .v (B false), .no, .no, .c ⟨57, [(I (at_ a1.f0 x1).f1), (I 0), (I 1)], [], (B x3), [], [], [], [], (B x3), []⟩, .no, .no, .v (B false), .no, .no, .v (B false)] ⟨[(2, (.pt 256 0 3)), (3, (.pt 257 0 2)), (10, (.sl true a1.f0.length 2 (a1.f0.flatMap e93))), (11, (I (a1.f0.length : Int))), (12, (I x1)), (46, (B false))], [(256, [(.sl true a0.f0.length 1 (a0.f0.flatMap encI)), (I a0.f1), (.sl true a0.f2.length 2 (a0.f2.flatMap (e83 true)))]), (257, [(.sl true a1.f0.length 2 (a1.f0.flatMap e93)), (.sl true a1.f1.length 1 (a1.f1.flatMap encI))]), (1027, [(I (at_ a1.f0 x1).f0), (I (at_ a1.f0 x1).f1)])], [2 = 2 ∧ 0 + 1 ≤ 2, 3 = 3 ∧ 0 + 1 ≤ 3, COK (hget [(256, [(.sl true a0.f0.length 1 (a0.f0.flatMap encI)), (I a0.f1), (.sl true a0.f2.length 2 (a0.f2.flatMap (e83 true)))]), (257, [(.sl true a1.f0.length 2 (a1.f0.flatMap e93)), (.sl true a1.f1.length 1 (a1.f1.flatMap encI))]), (1027, [(I (at_ a1.f0 x1).f0), (I (at_ a1.f0 x1).f1)])]) [(I (at_ a1.f0 x1).f0), (I 0), (I (wrap64 ((a0.f0.length : Int) - 1)))] ⟨57, [(I (at_ a1.f0 x1).f0), (I 0), (I (wrap64 ((a0.f0.length : Int) - 1)))], [], (B x2), [], [], [], [], (B x2), []⟩, (B (!x2) : V) = B false, 2 = 2 ∧ 1 + 1 ≤ 2, COK (hget [(256, [(.sl true a0.f0.length 1 (a0.f0.flatMap encI)), (I a0.f1), (.sl true a0.f2.length 2 (a0.f2.flatMap (e83 true)))]), (257, [(.sl true a1.f0.length 2 (a1.f0.flatMap e93)), (.sl true a1.f1.length 1 (a1.f1.flatMap encI))]), (1027, [(I (at_ a1.f0 x1).f0), (I (at_ a1.f0 x1).f1)])]) [(I (at_ a1.f0 x1).f1), (I 0), (I 1)] ⟨57, [(I (at_ a1.f0 x1).f1), (I 0), (I 1)], [], (B x3), [], [], [], [], (B x3), []⟩, (B (!x3) : V) = B false, (B (decide (x1 > 0)) : V) = B false], [⟨57, [(I (at_ a1.f0 x1).f0), (I 0), (I (wrap64 ((a0.f0.length : Int) - 1)))], [], (B x2), [], [], [], [], (B x2), []⟩, ⟨57, [(I (at_ a1.f0 x1).f1), (I 0), (I 1)], [], (B x3), [], [], [], [], (B x3), []⟩]⟩ [c_ 3379, b_ 1, c_ 423, l_ 26, b_ 0, c_ 7] (alc ⟨rfl, by decide⟩ (alc ⟨rfl, by decide⟩ (alc (cok0 false (a2c (.z .s) (a2c (.z .s) (a2c (.z .s) a2n))) (.z .s) (fun h => absurd h (by decide))) (alc (bF (nF c3)) (alc ⟨rfl, by decide⟩ (alc (cok0 false (a2c (.z .s) (a2c (.z .s) (a2c (.z .s) a2n))) (.z .s) (fun h => absurd h (by decide))) (alc (bF (nF c4)) (alc (bF (dF c5)) aln)))))))) (acal (impl_between.J ((at_ a1.f0 x1).f0) 0 (wrap64 ((a0.f0.length : Int) - 1)) _ hx2) (acal (impl_between.J ((at_ a1.f0 x1).f1) 0 1 _ hx3) nocal)) ?_
              refine .cond' (.tmp 46) false [c_ 423, l_ 26, b_ 0, c_ 7] (rfl) ?_
              refine .reg' [2, 3, 10, 11, 12] [] ⟨[(2, (.pt 256 0 3)), (3, (.pt 257 0 2)), (10, (.sl true a1.f0.length 2 (a1.f0.flatMap e93))), (11, (I (a1.f0.length : Int))), (12, (I (wrap64 (x1 + 1))))], [(256, [(.sl true a0.f0.length 1 (a0.f0.flatMap encI)), (I a0.f1), (.sl true a0.f2.length 2 (a0.f2.flatMap (e83 true)))]), (257, [(.sl true a1.f0.length 2 (a1.f0.flatMap e93)), (.sl true a1.f1.length 1 (a1.f1.flatMap encI))]), (1027, [(I (at_ a1.f0 x1).f0), (I (at_ a1.f0 x1).f1)])], [], []⟩ [l_ 26, b_ 0, c_ 7] aln nocal ?_
              refine .wk' [] [(256, 256), (257, 257)] [(2, (.pt 256 0 3)), (3, (.pt 257 0 2)), (10, (.sl true a1.f0.length 2 (a1.f0.flatMap e93))), (11, (I (a1.f0.length : Int))), (12, (I (wrap64 (x1 + 1))))] [(256, [(.sl true a0.f0.length 1 (a0.f0.flatMap encI)), (I a0.f1), (.sl true a0.f2.length 2 (a0.f2.flatMap (e83 true)))]), (257, [(.sl true a1.f0.length 2 (a1.f0.flatMap e93)), (.sl true a1.f1.length 1 (a1.f1.flatMap encI))])] (shc 256 (a2c (.z (frz_sl encI_ok (fun h => h))) (a2c (.z .s) (a2c (.z (frz_sl (e83_ok true) (fun h => h))) a2n))) (shc 257 (a2c (.z (frz_sl e93_ok (fun h => h))) (a2c (.z (frz_sl encI_ok (fun h => h))) a2n)) shn)) (enc_ (.pt (memP_mem (p := (256, 256)) rfl)) (enc_ (.pt (memP_mem (p := (257, 257)) rfl)) (enc_ (.z (frz_sl e93_ok (fun h => h))) (enc_ (.z .s) (enc_ (.z .s) enn))))) ?_
              exact ih0 a0 a1 (wrap64 (x1 + 1)) _ h
          · rw [if_neg c4] at h
            refine .reg' [2, 3, 10, 11, 12, 46] [.no, .no, .no, .no, .no, .no, .c ⟨57, [(I (at_ a1.f0 x1).f0), (I 0), (I (wrap64 ((a0.f0.length : Int) - 1)))], [], (B x2), [], [], [], [], (B x2), []⟩, .no, .v (B false), .no, .no, .c ⟨57, [(I (at_ a1.f0 x1).f1), (I 0), (I 1)], [], (B x3), [], [], [], [], (B x3), []⟩, .no, .no, .v (B true)] ⟨[(2, (.pt 256 0 3)), (3, (.pt 257 0 2)), (10, (.sl true a1.f0.length 2 (a1.f0.flatMap e93))), (11, (I (a1.f0.length : Int))), (12, (I x1)), (46, (B true))], [(256, [(.sl true a0.f0.length 1 (a0.f0.flatMap encI)), (I a0.f1), (.sl true a0.f2.length 2 (a0.f2.flatMap (e83 true)))]), (257, [(.sl true a1.f0.length 2 (a1.f0.flatMap e93)), (.sl true a1.f1.length 1 (a1.f1.flatMap encI))]), (1027, [(I (at_ a1.f0 x1).f0), (I (at_ a1.f0 x1).f1)])], [2 = 2 ∧ 0 + 1 ≤ 2, 3 = 3 ∧ 0 + 1 ≤ 3, COK (hget [(256, [(.sl true a0.f0.length 1 (a0.f0.flatMap encI)), (I a0.f1), (.sl true a0.f2.length 2 (a0.f2.flatMap (e83 true)))]), (257, [(.sl true a1.f0.length 2 (a1.f0.flatMap e93)), (.sl true a1.f1.length 1 (a1.f1.flatMap encI))]), (1027, [(I (at_ a1.f0 x1).f0), (I (at_ a1.f0 x1).f1)])]) [(I (at_ a1.f0 x1).f0), (I 0), (I (wrap64 ((a0.f0.length : Int) - 1)))] ⟨57, [(I (at_ a1.f0 x1).f0), (I 0), (I (wrap64 ((a0.f0.length : Int) - 1)))], [], (B x2), [], [], [], [], (B x2), []⟩, (B (!x2) : V) = B false, 2 = 2 ∧ 1 + 1 ≤ 2, COK (hget [(256, [(.sl true a0.f0.length 1 (a0.f0.flatMap encI)), (I a0.f1), (.sl true a0.f2.length 2 (a0.f2.flatMap (e83 true)))]), (257, [(.sl true a1.f0.length 2 (a1.f0.flatMap e93)), (.sl true a1.f1.length 1 (a1.f1.flatMap encI))]), (1027, [(I (at_ a1.f0 x1).f0), (I (at_ a1.f0 x1).f1)])]) [(I (at_ a1.f0 x1).f1), (I 0), (I 1)] ⟨57, [(I (at_ a1.f0 x1).f1), (I 0), (I 1)], [], (B x3), [], [], [], [], (B x3), []⟩, (B (!x3) : V) = B true], [⟨57, [(I (at_ a1.f0 x1).f0), (I 0), (I (wrap64 ((a0.f0.length : Int) - 1)))], [], (B x2), [], [], [], [], (B x2), []⟩, ⟨57, [(I (at_ a1.f0 x1).f1), (I 0), (I 1)], [], (B x3), [], [], [], [], (B x3), []⟩]⟩ [c_ 3379, b_ 1, c_ 423, l_ 26, b_ 0, c_ 7] (alc ⟨rfl, by decide⟩ (alc ⟨rfl, by decide⟩ (alc (cok0 false (a2c (.z .s) (a2c (.z .s) (a2c (.z .s) a2n))) (.z .s) (fun h => absurd h (by decide))) (alc (bF (nF c3)) (alc ⟨rfl, by decide⟩ (alc (cok0 false (a2c (.z .s) (a2c (.z .s) (a2c (.z .s) a2n))) (.z .s) (fun h => absurd h (by decide))) (alc (bT (nT (vF c4))) aln))))))) (acal (impl_between.J ((at_ a1.f0 x1).f0) 0 (wrap64 ((a0.f0.length : Int) - 1)) _ hx2) (acal (impl_between.J ((at_ a1.f0 x1).f1) 0 1 _ hx3) nocal)) ?_
            refine .cond' (.tmp 46) true [c_ 13516, c_ 13517, b_ 1, c_ 423, l_ 26, b_ 0, c_ 7] (rfl) ?_
            refine .reg' [4] [] ⟨[(4, (B false))], [(256, [(.sl true a0.f0.length 1 (a0.f0.flatMap encI)), (I a0.f1), (.sl true a0.f2.length 2 (a0.f2.flatMap (e83 true)))]), (257, [(.sl true a1.f0.length 2 (a1.f0.flatMap e93)), (.sl true a1.f1.length 1 (a1.f1.flatMap encI))]), (1027, [(I (at_ a1.f0 x1).f0), (I (at_ a1.f0 x1).f1)])], [], []⟩ [c_ 13517, b_ 1, c_ 423, l_ 26, b_ 0, c_ 7] aln nocal ?_
            have h := Option.some.inj h
            subst h
            exact .fin0 [] (B false) [] aln (.z .s)
        · rw [if_neg c3] at h
          refine .reg' [2, 3, 10, 11, 12, 46] [.no, .no, .no, .no, .no, .no, .c ⟨57, [(I (at_ a1.f0 x1).f0), (I 0), (I (wrap64 ((a0.f0.length : Int) - 1)))], [], (B x2), [], [], [], [], (B x2), []⟩, .no, .v (B true)] ⟨[(2, (.pt 256 0 3)), (3, (.pt 257 0 2)), (10, (.sl true a1.f0.length 2 (a1.f0.flatMap e93))), (11, (I (a1.f0.length : Int))), (12, (I x1)), (46, (B true))], [(256, [(.sl true a0.f0.length 1 (a0.f0.flatMap encI)), (I a0.f1), (.sl true a0.f2.length 2 (a0.f2.flatMap (e83 true)))]), (257, [(.sl true a1.f0.length 2 (a1.f0.flatMap e93)), (.sl true a1.f1.length 1 (a1.f1.flatMap encI))]), (1027, [(I (at_ a1.f0 x1).f0), (I (at_ a1.f0 x1).f1)])], [2 = 2 ∧ 0 + 1 ≤ 2, 3 = 3 ∧ 0 + 1 ≤ 3, COK (hget [(256, [(.sl true a0.f0.length 1 (a0.f0.flatMap encI)), (I a0.f1), (.sl true a0.f2.length 2 (a0.f2.flatMap (e83 true)))]), (257, [(.sl true a1.f0.length 2 (a1.f0.flatMap e93)), (.sl true a1.f1.length 1 (a1.f1.flatMap encI))]), (1027, [(I (at_ a1.f0 x1).f0), (I (at_ a1.f0 x1).f1)])]) [(I (at_ a1.f0 x1).f0), (I 0), (I (wrap64 ((a0.f0.length : Int) - 1)))] ⟨57, [(I (at_ a1.f0 x1).f0), (I 0), (I (wrap64 ((a0.f0.length : Int) - 1)))], [], (B x2), [], [], [], [], (B x2), []⟩, (B (!x2) : V) = B true], [⟨57, [(I (at_ a1.f0 x1).f0), (I 0), (I (wrap64 ((a0.f0.length : Int) - 1)))], [], (B x2), [], [], [], [], (B x2), []⟩]⟩ [c_ 3379, b_ 1, c_ 423, l_ 26, b_ 0, c_ 7] (alc ⟨rfl, by decide⟩ (alc ⟨rfl, by decide⟩ (alc (cok0 false (a2c (.z .s) (a2c (.z .s) (a2c (.z .s) a2n))) (.z .s) (fun h => absurd h (by decide))) (alc (bT (nT (vF c3))) aln)))) (acal (impl_between.J ((at_ a1.f0 x1).f0) 0 (wrap64 ((a0.f0.length : Int) - 1)) _ hx2) nocal) ?_
          refine .cond' (.tmp 46) true [c_ 13516, c_ 13517, b_ 1, c_ 423, l_ 26, b_ 0, c_ 7] (rfl) ?_
          refine .reg' [4] [] ⟨[(4, (B false))], [(256, [(.sl true a0.f0.length 1 (a0.f0.flatMap encI)), (I a0.f1), (.sl true a0.f2.length 2 (a0.f2.flatMap (e83 true)))]), (257, [(.sl true a1.f0.length 2 (a1.f0.flatMap e93)), (.sl true a1.f1.length 1 (a1.f1.flatMap encI))]), (1027, [(I (at_ a1.f0 x1).f0), (I (at_ a1.f0 x1).f1)])], [], []⟩ [c_ 13517, b_ 1, c_ 423, l_ 26, b_ 0, c_ 7] aln nocal ?_
          have h := Option.some.inj h
          subst h
          exact .fin0 [] (B false) [] aln (.z .s)
      · rw [if_neg c2] at h
        cases h
    · rw [if_neg c1] at h
      refine .cond' (.tmp 13) false [c_ 28, c_ 29, c_ 15] (bF (dF c1)) ?_
      by_cases c9 : (a1.f1.length : Int) < 1
      · rw [if_pos c9] at h
        refine .reg' [2, 3, 59] [.no, .no, .no, .no, .v (B true)] ⟨[(2, (.pt 256 0 3)), (3, (.pt 257 0 2)), (59, (B true))], [(256, [(.sl true a0.f0.length 1 (a0.f0.flatMap encI)), (I a0.f1), (.sl true a0.f2.length 2 (a0.f2.flatMap (e83 true)))]), (257, [(.sl true a1.f0.length 2 (a1.f0.flatMap e93)), (.sl true a1.f1.length 1 (a1.f1.flatMap encI))])], [2 = 2 ∧ 1 + 1 ≤ 2, (B (decide ((a1.f1.length : Int) < 1)) : V) = B true], []⟩ [c_ 29, c_ 15] (alc ⟨rfl, by decide⟩ (alc (bT (dT c9)) aln)) nocal ?_
        refine .cond' (.tmp 59) true [c_ 116, c_ 117, c_ 15] (rfl) ?_
        refine .reg' [4] [] ⟨[(4, (B false))], [(256, [(.sl true a0.f0.length 1 (a0.f0.flatMap encI)), (I a0.f1), (.sl true a0.f2.length 2 (a0.f2.flatMap (e83 true)))]), (257, [(.sl true a1.f0.length 2 (a1.f0.flatMap e93)), (.sl true a1.f1.length 1 (a1.f1.flatMap encI))])], [], []⟩ [c_ 117, c_ 15] aln nocal ?_
        have h := Option.some.inj h
        subst h
        exact .fin0 [] (B false) [] aln (.z .s)
      · rw [if_neg c9] at h
        refine .reg' [2, 3, 59] [.no, .no, .no, .no, .v (B false)] ⟨[(2, (.pt 256 0 3)), (3, (.pt 257 0 2)), (59, (B (decide ((a1.f1.length : Int) > a0.f1))))], [(256, [(.sl true a0.f0.length 1 (a0.f0.flatMap encI)), (I a0.f1), (.sl true a0.f2.length 2 (a0.f2.flatMap (e83 true)))]), (257, [(.sl true a1.f0.length 2 (a1.f0.flatMap e93)), (.sl true a1.f1.length 1 (a1.f1.flatMap encI))])], [2 = 2 ∧ 1 + 1 ≤ 2, (B (decide ((a1.f1.length : Int) < 1)) : V) = B false, 2 = 2 ∧ 1 + 1 ≤ 2, 3 = 3 ∧ 1 + 1 ≤ 3], []⟩ [c_ 29, c_ 15] (alc ⟨rfl, by decide⟩ (alc (bF (dF c9)) (alc ⟨rfl, by decide⟩ (alc ⟨rfl, by decide⟩ aln)))) nocal ?_
        by_cases c10 : (a1.f1.length : Int) > a0.f1
        · rw [if_pos c10] at h
          refine .cond' (.tmp 59) true [c_ 116, c_ 117, c_ 15] (bT (dT c10)) ?_
          refine .reg' [4] [] ⟨[(4, (B false))], [(256, [(.sl true a0.f0.length 1 (a0.f0.flatMap encI)), (I a0.f1), (.sl true a0.f2.length 2 (a0.f2.flatMap (e83 true)))]), (257, [(.sl true a1.f0.length 2 (a1.f0.flatMap e93)), (.sl true a1.f1.length 1 (a1.f1.flatMap encI))])], [], []⟩ [c_ 117, c_ 15] aln nocal ?_
          have h := Option.some.inj h
          subst h
          exact .fin0 [] (B false) [] aln (.z .s)
        · rw [if_neg c10] at h
          refine .cond' (.tmp 59) false [c_ 60, c_ 61, c_ 31] (bF (dF c10)) ?_
          refine .reg' [2, 3, 61, 62, 63] [] ⟨[(2, (.pt 256 0 3)), (3, (.pt 257 0 2)), (61, (.sl true a1.f1.length 1 (a1.f1.flatMap encI))), (62, (I (a1.f1.length : Int))), (63, (I 0))], [(256, [(.sl true a0.f0.length 1 (a0.f0.flatMap encI)), (I a0.f1), (.sl true a0.f2.length 2 (a0.f2.flatMap (e83 true)))]), (257, [(.sl true a1.f0.length 2 (a1.f0.flatMap e93)), (.sl true a1.f1.length 1 (a1.f1.flatMap encI))])], [2 = 2 ∧ 1 + 1 ≤ 2], []⟩ [l_ 122, b_ 2, c_ 31] (alc ⟨rfl, by decide⟩ aln) nocal ?_
          exact ih1 a0 a1 0 _ h
  · intro a0 a1 x4 r h
    unfold impl_routeOk.l1 at h
    refine .loop' [c_ 488, c_ 489, l_ 122, b_ 2, c_ 31] ?_
    refine .reg' [2, 3, 61, 62, 63, 64] [] ⟨[(2, (.pt 256 0 3)), (3, (.pt 257 0 2)), (61, (.sl true a1.f1.length 1 (a1.f1.flatMap encI))), (62, (I (a1.f1.length : Int))), (63, (I x4)), (64, (B (decide (x4 < (a1.f1.length : Int)))))], [(256, [(.sl true a0.f0.length 1 (a0.f0.flatMap encI)), (I a0.f1), (.sl true a0.f2.length 2 (a0.f2.flatMap (e83 true)))]), (257, [(.sl true a1.f0.length 2 (a1.f0.flatMap e93)), (.sl true a1.f1.length 1 (a1.f1.flatMap encI))])], [], []⟩ [c_ 978, c_ 979, l_ 122, b_ 2, c_ 31] aln nocal ?_
    by_cases c11 : x4 < (a1.f1.length : Int)
    · rw [if_pos c11] at h
      refine .cond' (.tmp 64) true [c_ 7832, c_ 7833, b_ 3, c_ 1959, l_ 122, b_ 2, c_ 31] (bT (dT c11)) ?_
      by_cases c12 : 0 ≤ x4
      · rw [if_pos c12] at h
        refine .reg' [2, 3, 7, 8, 61, 62, 63] [.no, .no, .v (I (at_ a1.f1 x4))] ⟨[(2, (.pt 256 0 3)), (3, (.pt 257 0 2)), (7, (I x4)), (8, (I (at_ a1.f1 x4))), (61, (.sl true a1.f1.length 1 (a1.f1.flatMap encI))), (62, (I (a1.f1.length : Int))), (63, (I x4))], [(256, [(.sl true a0.f0.length 1 (a0.f0.flatMap encI)), (I a0.f1), (.sl true a0.f2.length 2 (a0.f2.flatMap (e83 true)))]), (257, [(.sl true a1.f0.length 2 (a1.f0.flatMap e93)), (.sl true a1.f1.length 1 (a1.f1.flatMap encI))])], [(0 : Int) ≤ x4 ∧ x4 < (a1.f1.length : Int), rdC prog 3 ((a1.f1.flatMap encI).drop (x4.toNat * 1)) = (I (at_ a1.f1 x4)), 1 ≤ ((a1.f1.flatMap encI).drop (x4.toNat * 1)).length], []⟩ [c_ 15666, c_ 15667, b_ 3, c_ 1959, l_ 122, b_ 2, c_ 31] (alc ⟨c12, c11⟩ (alc (ldC1 encI_ok rfl c12 c11) (alc (okI encI_ok c12 c11 (by decide)) aln))) nocal ?_
        obtain ⟨x5, hx5, h⟩ := Option.bind_eq_some_iff.mp h
        by_cases c13 : x5 = true
        · rw [if_pos c13] at h
          by_cases c14 : x4 ≤ (a1.f1.length : Int)
          · rw [if_pos c14] at h
            obtain ⟨x6, hx6, h⟩ := Option.bind_eq_some_iff.mp h
            refine .reg' [2, 3, 61, 62, 63, 81] [.no, .no, .no, .no, .c ⟨57, [(I (at_ a1.f1 x4)), (I 0), (I (wrap64 (a0.f1 - 1)))], [], (B x5), [], [], [], [], (B x5), []⟩, .no, .v (B false), .no, .no, .no, .v (.sl true ((a1.f1.drop (0 : Int).toNat).take (x4.toNat - (0 : Int).toNat)).length 1 (((a1.f1.drop (0 : Int).toNat).take (x4.toNat - (0 : Int).toNat)).flatMap encI)), .no, .c ⟨100, [(.sl true ((a1.f1.drop (0 : Int).toNat).take (x4.toNat - (0 : Int).toNat)).length 1 (((a1.f1.drop (0 : Int).toNat).take (x4.toNat - (0 : Int).toNat)).flatMap encI)), (I (at_ a1.f1 x4))], [], (B x6), [], [], [], [], (B x6), []⟩] ⟨[(2, (.pt 256 0 3)), (3, (.pt 257 0 2)), (61, (.sl true a1.f1.length 1 (a1.f1.flatMap encI))), (62, (I (a1.f1.length : Int))), (63, (I x4)), (81, (B x6))], [(256, [(.sl true a0.f0.length 1 (a0.f0.flatMap encI)), (I a0.f1), (.sl true a0.f2.length 2 (a0.f2.flatMap (e83 true)))]), (257, [(.sl true a1.f0.length 2 (a1.f0.flatMap e93)), (.sl true a1.f1.length 1 (a1.f1.flatMap encI))])], [3 = 3 ∧ 1 + 1 ≤ 3, COK (hget [(256, [(.sl true a0.f0.length 1 (a0.f0.flatMap encI)), (I a0.f1), (.sl true a0.f2.length 2 (a0.f2.flatMap (e83 true)))]), (257, [(.sl true a1.f0.length 2 (a1.f0.flatMap e93)), (.sl true a1.f1.length 1 (a1.f1.flatMap encI))])]) [(I (at_ a1.f1 x4)), (I 0), (I (wrap64 (a0.f1 - 1)))] ⟨57, [(I (at_ a1.f1 x4)), (I 0), (I (wrap64 (a0.f1 - 1)))], [], (B x5), [], [], [], [], (B x5), []⟩, (B (!x5) : V) = B false, 2 = 2 ∧ 1 + 1 ≤ 2, V.sl true (x4.toNat - (0 : Int).toNat) 1 (((a1.f1.flatMap encI).drop ((0 : Int).toNat * 1)).take ((x4.toNat - (0 : Int).toNat) * 1)) = (.sl true ((a1.f1.drop (0 : Int).toNat).take (x4.toNat - (0 : Int).toNat)).length 1 (((a1.f1.drop (0 : Int).toNat).take (x4.toNat - (0 : Int).toNat)).flatMap encI)), 0 ≤ (0 : Int) ∧ 0 ≤ x4 ∧ x4 ≤ (a1.f1.length : Int), COK (hget [(256, [(.sl true a0.f0.length 1 (a0.f0.flatMap encI)), (I a0.f1), (.sl true a0.f2.length 2 (a0.f2.flatMap (e83 true)))]), (257, [(.sl true a1.f0.length 2 (a1.f0.flatMap e93)), (.sl true a1.f1.length 1 (a1.f1.flatMap encI))])]) [(.sl true ((a1.f1.drop (0 : Int).toNat).take (x4.toNat - (0 : Int).toNat)).length 1 (((a1.f1.drop (0 : Int).toNat).take (x4.toNat - (0 : Int).toNat)).flatMap encI)), (I (at_ a1.f1 x4))] ⟨100, [(.sl true ((a1.f1.drop (0 : Int).toNat).take (x4.toNat - (0 : Int).toNat)).length 1 (((a1.f1.drop (0 : Int).toNat).take (x4.toNat - (0 : Int).toNat)).flatMap encI)), (I (at_ a1.f1 x4))], [], (B x6), [], [], [], [], (B x6), []⟩], [⟨57, [(I (at_ a1.f1 x4)), (I 0), (I (wrap64 (a0.f1 - 1)))], [], (B x5), [], [], [], [], (B x5), []⟩, ⟨100, [(.sl true ((a1.f1.drop (0 : Int).toNat).take (x4.toNat - (0 : Int).toNat)).length 1 (((a1.f1.drop (0 : Int).toNat).take (x4.toNat - (0 : Int).toNat)).flatMap encI)), (I (at_ a1.f1 x4))], [], (B x6), [], [], [], [], (B x6), []⟩]⟩ [c_ 15667, b_ 3, c_ 1959, l_ 122, b_ 2, c_ 31] (alc ⟨rfl, by decide⟩ (alc (cok0 false (a2c (.z .s) (a2c (.z .s) (a2c (.z .s) a2n))) (.z .s) (fun h => absurd h (by decide))) (alc (bF (nF c13)) (alc ⟨rfl, by decide⟩ (alc (slS encI_ok (by omega) (by omega)) (alc ⟨(by decide), c12, c14⟩ (alc (cok0 false (a2c (.z (frz_sl encI_ok (fun h => h))) (a2c (.z .s) a2n)) (.z .s) (fun h => absurd h (by decide))) aln))))))) (acal (impl_between.J (at_ a1.f1 x4) 0 (wrap64 (a0.f1 - 1)) _ hx5) (acal (impl_has.J k ((a1.f1.drop (0 : Int).toNat).take (x4.toNat - (0 : Int).toNat)) (at_ a1.f1 x4) _ hx6) nocal)) ?_
            by_cases c15 : x6 = true
            · rw [if_pos c15] at h
              refine .cond' (.tmp 81) true [c_ 62668, c_ 62669, b_ 3, c_ 1959, l_ 122, b_ 2, c_ 31] (bT c15) ?_
              refine .reg' [4] [] ⟨[(4, (B false))], [(256, [(.sl true a0.f0.length 1 (a0.f0.flatMap encI)), (I a0.f1), (.sl true a0.f2.length 2 (a0.f2.flatMap (e83 true)))]), (257, [(.sl true a1.f0.length 2 (a1.f0.flatMap e93)), (.sl true a1.f1.length 1 (a1.f1.flatMap encI))])], [], []⟩ [c_ 62669, b_ 3, c_ 1959, l_ 122, b_ 2, c_ 31] aln nocal ?_
              have h := Option.some.inj h
              subst h
              exact .fin0 [] (B false) [] aln (.z .s)
            · rw [if_neg c15] at h
              refine .cond' (.tmp 81) false [c_ 1959, l_ 122, b_ 2, c_ 31] (bF (vF c15)) ?_
              refine .reg' [2, 3, 61, 62, 63] [] ⟨[(2, (.pt 256 0 3)), (3, (.pt 257 0 2)), (61, (.sl true a1.f1.length 1 (a1.f1.flatMap encI))), (62, (I (a1.f1.length : Int))), (63, (I (wrap64 (x4 + 1))))], [(256, [(.sl true a0.f0.length 1 (a0.f0.flatMap encI)), (I a0.f1), (.sl true a0.f2.length 2 (a0.f2.flatMap (e83 true)))]), (257, [(.sl true a1.f0.length 2 (a1.f0.flatMap e93)), (.sl true a1.f1.length 1 (a1.f1.flatMap encI))])], [], []⟩ [l_ 122, b_ 2, c_ 31] aln nocal ?_
              exact ih1 a0 a1 (wrap64 (x4 + 1)) _ h
          · rw [if_neg c14] at h
            cases h
        · rw [if_neg c13] at h
          refine .reg' [2, 3, 61, 62, 63, 81] [.no, .no, .no, .no, .c ⟨57, [(I (at_ a1.f1 x4)), (I 0), (I (wrap64 (a0.f1 - 1)))], [], (B x5), [], [], [], [], (B x5), []⟩, .no, .v (B true)] ⟨[(2, (.pt 256 0 3)), (3, (.pt 257 0 2)), (61, (.sl true a1.f1.length 1 (a1.f1.flatMap encI))), (62, (I (a1.f1.length : Int))), (63, (I x4)), (81, (B true))], [(256, [(.sl true a0.f0.length 1 (a0.f0.flatMap encI)), (I a0.f1), (.sl true a0.f2.length 2 (a0.f2.flatMap (e83 true)))]), (257, [(.sl true a1.f0.length 2 (a1.f0.flatMap e93)), (.sl true a1.f1.length 1 (a1.f1.flatMap encI))])], [3 = 3 ∧ 1 + 1 ≤ 3, COK (hget [(256, [(.sl true a0.f0.length 1 (a0.f0.flatMap encI)), (I a0.f1), (.sl true a0.f2.length 2 (a0.f2.flatMap (e83 true)))]), (257, [(.sl true a1.f0.length 2 (a1.f0.flatMap e93)), (.sl true a1.f1.length 1 (a1.f1.flatMap encI))])]) [(I (at_ a1.f1 x4)), (I 0), (I (wrap64 (a0.f1 - 1)))] ⟨57, [(I (at_ a1.f1 x4)), (I 0), (I (wrap64 (a0.f1 - 1)))], [], (B x5), [], [], [], [], (B x5), []⟩, (B (!x5) : V) = B true], [⟨57, [(I (at_ a1.f1 x4)), (I 0), (I (wrap64 (a0.f1 - 1)))], [], (B x5), [], [], [], [], (B x5), []⟩]⟩ [c_ 15667, b_ 3, c_ 1959, l_ 122, b_ 2, c_ 31] (alc ⟨rfl, by decide⟩ (alc (cok0 false (a2c (.z .s) (a2c (.z .s) (a2c (.z .s) a2n))) (.z .s) (fun h => absurd h (by decide))) (alc (bT (nT (vF c13))) aln))) (acal (impl_between.J (at_ a1.f1 x4) 0 (wrap64 (a0.f1 - 1)) _ hx5) nocal) ?_
          refine .cond' (.tmp 81) true [c_ 62668, c_ 62669, b_ 3, c_ 1959, l_ 122, b_ 2, c_ 31] (rfl) ?_
          refine .reg' [4] [] ⟨[(4, (B false))], [(256, [(.sl true a0.f0.length 1 (a0.f0.flatMap encI)), (I a0.f1), (.sl true a0.f2.length 2 (a0.f2.flatMap (e83 true)))]), (257, [(.sl true a1.f0.length 2 (a1.f0.flatMap e93)), (.sl true a1.f1.length 1 (a1.f1.flatMap encI))])], [], []⟩ [c_ 62669, b_ 3, c_ 1959, l_ 122, b_ 2, c_ 31] aln nocal ?_
          have h := Option.some.inj h
          subst h
          exact .fin0 [] (B false) [] aln (.z .s)
      · rw [if_neg c12] at h
        cases h
    · rw [if_neg c11] at h
      refine .cond' (.tmp 64) false [c_ 62, c_ 63] (bF (dF c11)) ?_
      refine .reg' [4] [] ⟨[(4, (B true))], [(256, [(.sl true a0.f0.length 1 (a0.f0.flatMap encI)), (I a0.f1), (.sl true a0.f2.length 2 (a0.f2.flatMap (e83 true)))]), (257, [(.sl true a1.f0.length 2 (a1.f0.flatMap e93)), (.sl true a1.f1.length 1 (a1.f1.flatMap encI))])], [], []⟩ [c_ 63] aln nocal ?_
      have h := Option.some.inj h
      subst h
      exact .fin0 [] (B true) [] aln (.z .s)
theorem impl_routeOk.J (k : Nat) (a0 : S29) (a1 : S83) (r : Bool) (h : impl_routeOk.f k a0 a1 = some r) : J prog (.call 58 [(.ag [(.sl true a0.f0.length 1 (a0.f0.flatMap encI)), (I a0.f1), (.sl true a0.f2.length 2 (a0.f2.flatMap (e83 true)))]), (.ag [(.sl true a1.f0.length 2 (a1.f0.flatMap e93)), (.sl true a1.f1.length 1 (a1.f1.flatMap encI))])] [] (B r) []) := by
  unfold impl_routeOk.f at h
  obtain ⟨ih0, ih1⟩ := impl_routeOk.lab k
  refine .call' [c_ 2, c_ 3] ?_
  refine .reg' [2, 3] [] ⟨[(2, (.pt 256 0 3)), (3, (.pt 257 0 2))], [(256, [(.sl true a0.f0.length 1 (a0.f0.flatMap encI)), (I a0.f1), (.sl true a0.f2.length 2 (a0.f2.flatMap (e83 true)))]), (257, [(.sl true a1.f0.length 2 (a1.f0.flatMap e93)), (.sl true a1.f1.length 1 (a1.f1.flatMap encI))])], [], []⟩ [c_ 12, c_ 13, c_ 7] aln nocal ?_
  refine .reg' [2, 3, 10, 11, 12] [] ⟨[(2, (.pt 256 0 3)), (3, (.pt 257 0 2)), (10, (.sl true a1.f0.length 2 (a1.f0.flatMap e93))), (11, (I (a1.f0.length : Int))), (12, (I 0))], [(256, [(.sl true a0.f0.length 1 (a0.f0.flatMap encI)), (I a0.f1), (.sl true a0.f2.length 2 (a0.f2.flatMap (e83 true)))]), (257, [(.sl true a1.f0.length 2 (a1.f0.flatMap e93)), (.sl true a1.f1.length 1 (a1.f1.flatMap encI))])], [2 = 2 ∧ 0 + 1 ≤ 2], []⟩ [l_ 26, b_ 0, c_ 7] (alc ⟨rfl, by decide⟩ aln) nocal ?_
  exact ih0 a0 a1 0 _ h
/-! impl_PlantOk: function 13 -/
mutual
def impl_PlantOk.l0 : Nat → S29 → Int → Option Bool
 | 0, _, _ => none
 | k + 1, a0, x2 => (if x2 < (a0.f0.length : Int) then (if 0 ≤ x2 then ((impl_between.f (at_ a0.f0 x2) 0 (wrap64 (a0.f1 - 1))).bind fun x3 => (if x3 = true then (impl_PlantOk.l0 k a0 (wrap64 (x2 + 1))) else (some false))) else none) else (impl_PlantOk.l1 k a0 0))
def impl_PlantOk.l1 : Nat → S29 → Int → Option Bool
 | 0, _, _ => none
 | k + 1, a0, x4 => (if x4 < (a0.f2.length : Int) then (if 0 ≤ x4 then ((impl_routeOk.f k a0 (at_ a0.f2 x4)).bind fun x5 => (if x5 = true then (impl_PlantOk.l1 k a0 (wrap64 (x4 + 1))) else (some false))) else none) else (some true))
end
def impl_PlantOk.f (k : Nat) (a0 : S29) : Option Bool := ((impl_between.f a0.f1 1 24).bind fun x1 => (if x1 = true then (if (a0.f0.length : Int) > 16 then (some false) else (if (a0.f2.length : Int) > 12 then (some false) else (impl_PlantOk.l0 k a0 0))) else (some false)))
theorem impl_PlantOk.lab : ∀ k, (∀ (a0 : S29) (x2 : Int) (r : Bool), impl_PlantOk.l0 k a0 x2 = some r → J prog (.run 13 [] [l_ 58, b_ 0, c_ 15] [(1, (.pt 256 0 3)), (24, (.sl true a0.f0.length 1 (a0.f0.flatMap encI))), (25, (I (a0.f0.length : Int))), (26, (I x2))] [(256, [(.sl true a0.f0.length 1 (a0.f0.flatMap encI)), (I a0.f1), (.sl true a0.f2.length 2 (a0.f2.flatMap (e83 true)))])] (B r) [])) ∧ (∀ (a0 : S29) (x4 : Int) (r : Bool), impl_PlantOk.l1 k a0 x4 = some r → J prog (.run 13 [] [l_ 122, b_ 2, c_ 31] [(1, (.pt 256 0 3)), (38, (.sl true a0.f2.length 2 (a0.f2.flatMap (e83 true)))), (39, (I (a0.f2.length : Int))), (40, (I x4))] [(256, [(.sl true a0.f0.length 1 (a0.f0.flatMap encI)), (I a0.f1), (.sl true a0.f2.length 2 (a0.f2.flatMap (e83 true)))])] (B r) []))
 | 0 => ⟨(by intro a0 x2 r h; unfold impl_PlantOk.l0 at h; cases h), (by intro a0 x4 r h; unfold impl_PlantOk.l1 at h; cases h)⟩
 | k + 1 => by
  obtain ⟨ih0, ih1⟩ := impl_PlantOk.lab k
  refine ⟨?_, ?_⟩
  · intro a0 x2 r h
    unfold impl_PlantOk.l0 at h
    refine .loop' [c_ 232, c_ 233, l_ 58, b_ 0, c_ 15] ?_
    refine .reg' [1, 24, 25, 26, 27] [] ⟨[(1, (.pt 256 0 3)), (24, (.sl true a0.f0.length 1 (a0.f0.flatMap encI))), (25, (I (a0.f0.length : Int))), (26, (I x2)), (27, (B (decide (x2 < (a0.f0.length : Int)))))], [(256, [(.sl true a0.f0.length 1 (a0.f0.flatMap encI)), (I a0.f1), (.sl true a0.f2.length 2 (a0.f2.flatMap (e83 true)))])], [], []⟩ [c_ 466, c_ 467, l_ 58, b_ 0, c_ 15] aln nocal ?_
    by_cases c4 : x2 < (a0.f0.length : Int)
    · rw [if_pos c4] at h
      refine .cond' (.tmp 27) true [c_ 3736, c_ 3737, b_ 1, c_ 935, l_ 58, b_ 0, c_ 15] (bT (dT c4)) ?_
      by_cases c5 : 0 ≤ x2
      · rw [if_pos c5] at h
        refine .reg' [1, 4, 24, 25, 26] [.no, .v (I (at_ a0.f0 x2))] ⟨[(1, (.pt 256 0 3)), (4, (I (at_ a0.f0 x2))), (24, (.sl true a0.f0.length 1 (a0.f0.flatMap encI))), (25, (I (a0.f0.length : Int))), (26, (I x2))], [(256, [(.sl true a0.f0.length 1 (a0.f0.flatMap encI)), (I a0.f1), (.sl true a0.f2.length 2 (a0.f2.flatMap (e83 true)))])], [(0 : Int) ≤ x2 ∧ x2 < (a0.f0.length : Int), rdC prog 3 ((a0.f0.flatMap encI).drop (x2.toNat * 1)) = (I (at_ a0.f0 x2)), 1 ≤ ((a0.f0.flatMap encI).drop (x2.toNat * 1)).length], []⟩ [c_ 7474, c_ 7475, b_ 1, c_ 935, l_ 58, b_ 0, c_ 15] (alc ⟨c5, c4⟩ (alc (ldC1 encI_ok rfl c5 c4) (alc (okI encI_ok c5 c4 (by decide)) aln))) nocal ?_
        obtain ⟨x3, hx3, h⟩ := Option.bind_eq_some_iff.mp h
        refine .reg' [1, 24, 25, 26, 35] [.no, .no, .no, .no, .c ⟨57, [(I (at_ a0.f0 x2)), (I 0), (I (wrap64 (a0.f1 - 1)))], [], (B x3), [], [], [], [], (B x3), []⟩] ⟨[(1, (.pt 256 0 3)), (24, (.sl true a0.f0.length 1 (a0.f0.flatMap encI))), (25, (I (a0.f0.length : Int))), (26, (I x2)), (35, (B (!x3)))], [(256, [(.sl true a0.f0.length 1 (a0.f0.flatMap encI)), (I a0.f1), (.sl true a0.f2.length 2 (a0.f2.flatMap (e83 true)))])], [3 = 3 ∧ 1 + 1 ≤ 3, COK (hget [(256, [(.sl true a0.f0.length 1 (a0.f0.flatMap encI)), (I a0.f1), (.sl true a0.f2.length 2 (a0.f2.flatMap (e83 true)))])]) [(I (at_ a0.f0 x2)), (I 0), (I (wrap64 (a0.f1 - 1)))] ⟨57, [(I (at_ a0.f0 x2)), (I 0), (I (wrap64 (a0.f1 - 1)))], [], (B x3), [], [], [], [], (B x3), []⟩], [⟨57, [(I (at_ a0.f0 x2)), (I 0), (I (wrap64 (a0.f1 - 1)))], [], (B x3), [], [], [], [], (B x3), []⟩]⟩ [c_ 7475, b_ 1, c_ 935, l_ 58, b_ 0, c_ 15] (alc ⟨rfl, by decide⟩ (alc (cok0 false (a2c (.z .s) (a2c (.z .s) (a2c (.z .s) a2n))) (.z .s) (fun h => absurd h (by decide))) aln)) (acal (impl_between.J (at_ a0.f0 x2) 0 (wrap64 (a0.f1 - 1)) _ hx3) nocal) ?_
        by_cases c6 : x3 = true
        · rw [if_pos c6] at h
          refine .cond' (.tmp 35) false [c_ 935, l_ 58, b_ 0, c_ 15] (bF (nF c6)) ?_
          refine .reg' [1, 24, 25, 26] [] ⟨[(1, (.pt 256 0 3)), (24, (.sl true a0.f0.length 1 (a0.f0.flatMap encI))), (25, (I (a0.f0.length : Int))), (26, (I (wrap64 (x2 + 1))))], [(256, [(.sl true a0.f0.length 1 (a0.f0.flatMap encI)), (I a0.f1), (.sl true a0.f2.length 2 (a0.f2.flatMap (e83 true)))])], [], []⟩ [l_ 58, b_ 0, c_ 15] aln nocal ?_
          exact ih0 a0 (wrap64 (x2 + 1)) _ h
        · rw [if_neg c6] at h
          refine .cond' (.tmp 35) true [c_ 29900, c_ 29901, b_ 1, c_ 935, l_ 58, b_ 0, c_ 15] (bT (nT (vF c6))) ?_
          refine .reg' [2] [] ⟨[(2, (B false))], [(256, [(.sl true a0.f0.length 1 (a0.f0.flatMap encI)), (I a0.f1), (.sl true a0.f2.length 2 (a0.f2.flatMap (e83 true)))])], [], []⟩ [c_ 29901, b_ 1, c_ 935, l_ 58, b_ 0, c_ 15] aln nocal ?_
          have h := Option.some.inj h
          subst h
          exact .fin0 [] (B false) [] aln (.z .s)
      · rw [if_neg c5] at h
        cases h
    · rw [if_neg c4] at h
      refine .cond' (.tmp 27) false [c_ 60, c_ 61, c_ 31] (bF (dF c4)) ?_
      refine .reg' [1, 38, 39, 40] [] ⟨[(1, (.pt 256 0 3)), (38, (.sl true a0.f2.length 2 (a0.f2.flatMap (e83 true)))), (39, (I (a0.f2.length : Int))), (40, (I 0))], [(256, [(.sl true a0.f0.length 1 (a0.f0.flatMap encI)), (I a0.f1), (.sl true a0.f2.length 2 (a0.f2.flatMap (e83 true)))])], [3 = 3 ∧ 2 + 1 ≤ 3], []⟩ [l_ 122, b_ 2, c_ 31] (alc ⟨rfl, by decide⟩ aln) nocal ?_
      exact ih1 a0 0 _ h
  · intro a0 x4 r h
    unfold impl_PlantOk.l1 at h
    refine .loop' [c_ 488, c_ 489, l_ 122, b_ 2, c_ 31] ?_
    refine .reg' [1, 38, 39, 40, 41] [] ⟨[(1, (.pt 256 0 3)), (38, (.sl true a0.f2.length 2 (a0.f2.flatMap (e83 true)))), (39, (I (a0.f2.length : Int))), (40, (I x4)), (41, (B (decide (x4 < (a0.f2.length : Int)))))], [(256, [(.sl true a0.f0.length 1 (a0.f0.flatMap encI)), (I a0.f1), (.sl true a0.f2.length 2 (a0.f2.flatMap (e83 true)))])], [], []⟩ [c_ 978, c_ 979, l_ 122, b_ 2, c_ 31] aln nocal ?_
    by_cases c7 : x4 < (a0.f2.length : Int)
    · rw [if_pos c7] at h
      refine .cond' (.tmp 41) true [c_ 7832, c_ 7833, b_ 3, c_ 1959, l_ 122, b_ 2, c_ 31] (bT (dT c7)) ?_
      by_cases c8 : 0 ≤ x4
      · rw [if_pos c8] at h
        refine .reg' [1, 6, 38, 39, 40] [.no, .v (.ag [(.sl true (at_ a0.f2 x4).f0.length 2 ((at_ a0.f2 x4).f0.flatMap e93)), (.sl true (at_ a0.f2 x4).f1.length 1 ((at_ a0.f2 x4).f1.flatMap encI))])] ⟨[(1, (.pt 256 0 3)), (6, (.pt 3074 0 2)), (38, (.sl true a0.f2.length 2 (a0.f2.flatMap (e83 true)))), (39, (I (a0.f2.length : Int))), (40, (I x4))], [(256, [(.sl true a0.f0.length 1 (a0.f0.flatMap encI)), (I a0.f1), (.sl true a0.f2.length 2 (a0.f2.flatMap (e83 true)))]), (3074, [(.sl true (at_ a0.f2 x4).f0.length 2 ((at_ a0.f2 x4).f0.flatMap e93)), (.sl true (at_ a0.f2 x4).f1.length 1 ((at_ a0.f2 x4).f1.flatMap encI))])], [(0 : Int) ≤ x4 ∧ x4 < (a0.f2.length : Int), rdC prog 84 ((a0.f2.flatMap (e83 true)).drop (x4.toNat * 2)) = (.ag [(.sl true (at_ a0.f2 x4).f0.length 2 ((at_ a0.f2 x4).f0.flatMap e93)), (.sl true (at_ a0.f2 x4).f1.length 1 ((at_ a0.f2 x4).f1.flatMap encI))]), 2 ≤ ((a0.f2.flatMap (e83 true)).drop (x4.toNat * 2)).length, 2 = 2 ∧ 0 + 2 ≤ 2], []⟩ [c_ 15666, c_ 15667, b_ 3, c_ 1959, l_ 122, b_ 2, c_ 31] (alc ⟨c8, c7⟩ (alc (ldA (e83_ok true) rfl rfl c8 c7) (alc (okI (e83_ok true) c8 c7 (by decide)) (alc ⟨rfl, by decide⟩ aln)))) nocal ?_
        obtain ⟨x5, hx5, h⟩ := Option.bind_eq_some_iff.mp h
        refine .reg' [1, 38, 39, 40, 47] [.no, .no, .c ⟨58, [(.ag [(.sl true a0.f0.length 1 (a0.f0.flatMap encI)), (I a0.f1), (.sl true a0.f2.length 2 (a0.f2.flatMap (e83 true)))]), (.ag [(.sl true (at_ a0.f2 x4).f0.length 2 ((at_ a0.f2 x4).f0.flatMap e93)), (.sl true (at_ a0.f2 x4).f1.length 1 ((at_ a0.f2 x4).f1.flatMap encI))])], [], (B x5), [], [], [], [], (B x5), []⟩] ⟨[(1, (.pt 256 0 3)), (38, (.sl true a0.f2.length 2 (a0.f2.flatMap (e83 true)))), (39, (I (a0.f2.length : Int))), (40, (I x4)), (47, (B (!x5)))], [(256, [(.sl true a0.f0.length 1 (a0.f0.flatMap encI)), (I a0.f1), (.sl true a0.f2.length 2 (a0.f2.flatMap (e83 true)))]), (3074, [(.sl true (at_ a0.f2 x4).f0.length 2 ((at_ a0.f2 x4).f0.flatMap e93)), (.sl true (at_ a0.f2 x4).f1.length 1 ((at_ a0.f2 x4).f1.flatMap encI))])], [3 = 3 ∧ 0 + 3 ≤ 3, 2 = 2 ∧ 0 + 2 ≤ 2, COK (hget [(256, [(.sl true a0.f0.length 1 (a0.f0.flatMap encI)), (I a0.f1), (.sl true a0.f2.length 2 (a0.f2.flatMap (e83 true)))]), (3074, [(.sl true (at_ a0.f2 x4).f0.length 2 ((at_ a0.f2 x4).f0.flatMap e93)), (.sl true (at_ a0.f2 x4).f1.length 1 ((at_ a0.f2 x4).f1.flatMap encI))])]) [(.ag [(.sl true a0.f0.length 1 (a0.f0.flatMap encI)), (I a0.f1), (.sl true a0.f2.length 2 (a0.f2.flatMap (e83 true)))]), (.ag [(.sl true (at_ a0.f2 x4).f0.length 2 ((at_ a0.f2 x4).f0.flatMap e93)), (.sl true (at_ a0.f2 x4).f1.length 1 ((at_ a0.f2 x4).f1.flatMap encI))])] ⟨58, [(.ag [(.sl true a0.f0.length 1 (a0.f0.flatMap encI)), (I a0.f1), (.sl true a0.f2.length 2 (a0.f2.flatMap (e83 true)))]), (.ag [(.sl true (at_ a0.f2 x4).f0.length 2 ((at_ a0.f2 x4).f0.flatMap e93)), (.sl true (at_ a0.f2 x4).f1.length 1 ((at_ a0.f2 x4).f1.flatMap encI))])], [], (B x5), [], [], [], [], (B x5), []⟩], [⟨58, [(.ag [(.sl true a0.f0.length 1 (a0.f0.flatMap encI)), (I a0.f1), (.sl true a0.f2.length 2 (a0.f2.flatMap (e83 true)))]), (.ag [(.sl true (at_ a0.f2 x4).f0.length 2 ((at_ a0.f2 x4).f0.flatMap e93)), (.sl true (at_ a0.f2 x4).f1.length 1 ((at_ a0.f2 x4).f1.flatMap encI))])], [], (B x5), [], [], [], [], (B x5), []⟩]⟩ [c_ 15667, b_ 3, c_ 1959, l_ 122, b_ 2, c_ 31] (alc ⟨rfl, by decide⟩ (alc ⟨rfl, by decide⟩ (alc (cok0 false (a2c (.z (frz_ag (a2c (frz_sl encI_ok (fun h => h)) (a2c .s (a2c (frz_sl (e83_ok true) (fun h => h)) a2n))))) (a2c (.z (frz_ag (a2c (frz_sl e93_ok (fun h => h)) (a2c (frz_sl encI_ok (fun h => h)) a2n)))) a2n)) (.z .s) (fun h => absurd h (by decide))) aln))) (acal (impl_routeOk.J k a0 (at_ a0.f2 x4) _ hx5) nocal) ?_
        by_cases c9 : x5 = true
        · rw [if_pos c9] at h
          refine .cond' (.tmp 47) false [c_ 1959, l_ 122, b_ 2, c_ 31] (bF (nF c9)) ?_
          refine .reg' [1, 38, 39, 40] [] ⟨[(1, (.pt 256 0 3)), (38, (.sl true a0.f2.length 2 (a0.f2.flatMap (e83 true)))), (39, (I (a0.f2.length : Int))), (40, (I (wrap64 (x4 + 1))))], [(256, [(.sl true a0.f0.length 1 (a0.f0.flatMap encI)), (I a0.f1), (.sl true a0.f2.length 2 (a0.f2.flatMap (e83 true)))]), (3074, [(.sl true (at_ a0.f2 x4).f0.length 2 ((at_ a0.f2 x4).f0.flatMap e93)), (.sl true (at_ a0.f2 x4).f1.length 1 ((at_ a0.f2 x4).f1.flatMap encI))])], [], []⟩ [l_ 122, b_ 2, c_ 31] aln nocal ?_
          refine .wk' [] [(256, 256)] [(1, (.pt 256 0 3)), (38, (.sl true a0.f2.length 2 (a0.f2.flatMap (e83 true)))), (39, (I (a0.f2.length : Int))), (40, (I (wrap64 (x4 + 1))))] [(256, [(.sl true a0.f0.length 1 (a0.f0.flatMap encI)), (I a0.f1), (.sl true a0.f2.length 2 (a0.f2.flatMap (e83 true)))])] (shc 256 (a2c (.z (frz_sl encI_ok (fun h => h))) (a2c (.z .s) (a2c (.z (frz_sl (e83_ok true) (fun h => h))) a2n))) shn) (enc_ (.pt (memP_mem (p := (256, 256)) rfl)) (enc_ (.z (frz_sl (e83_ok true) (fun h => h))) (enc_ (.z .s) (enc_ (.z .s) enn)))) ?_
          exact ih1 a0 (wrap64 (x4 + 1)) _ h
        · rw [if_neg c9] at h
          refine .cond' (.tmp 47) true [c_ 62668, c_ 62669, b_ 3, c_ 1959, l_ 122, b_ 2, c_ 31] (bT (nT (vF c9))) ?_
          refine .reg' [2] [] ⟨[(2, (B false))], [(256, [(.sl true a0.f0.length 1 (a0.f0.flatMap encI)), (I a0.f1), (.sl true a0.f2.length 2 (a0.f2.flatMap (e83 true)))]), (3074, [(.sl true (at_ a0.f2 x4).f0.length 2 ((at_ a0.f2 x4).f0.flatMap e93)), (.sl true (at_ a0.f2 x4).f1.length 1 ((at_ a0.f2 x4).f1.flatMap encI))])], [], []⟩ [c_ 62669, b_ 3, c_ 1959, l_ 122, b_ 2, c_ 31] aln nocal ?_
          have h := Option.some.inj h
          subst h
          exact .fin0 [] (B false) [] aln (.z .s)
      · rw [if_neg c8] at h
        cases h
    · rw [if_neg c7] at h
      refine .cond' (.tmp 41) false [c_ 62, c_ 63] (bF (dF c7)) ?_
      refine .reg' [2] [] ⟨[(2, (B true))], [(256, [(.sl true a0.f0.length 1 (a0.f0.flatMap encI)), (I a0.f1), (.sl true a0.f2.length 2 (a0.f2.flatMap (e83 true)))])], [], []⟩ [c_ 63] aln nocal ?_
      have h := Option.some.inj h
      subst h
      exact .fin0 [] (B true) [] aln (.z .s)
theorem impl_PlantOk.J (k : Nat) (a0 : S29) (r : Bool) (h : impl_PlantOk.f k a0 = some r) : J prog (.call 13 [(.ag [(.sl true a0.f0.length 1 (a0.f0.flatMap encI)), (I a0.f1), (.sl true a0.f2.length 2 (a0.f2.flatMap (e83 true)))])] [] (B r) []) := by
  unfold impl_PlantOk.f at h
  obtain ⟨ih0, ih1⟩ := impl_PlantOk.lab k
  refine .call' [c_ 2, c_ 3] ?_
  refine .reg' [1] [] ⟨[(1, (.pt 256 0 3))], [(256, [(.sl true a0.f0.length 1 (a0.f0.flatMap encI)), (I a0.f1), (.sl true a0.f2.length 2 (a0.f2.flatMap (e83 true)))])], [], []⟩ [c_ 12, c_ 13, c_ 7] aln nocal ?_
  obtain ⟨x1, hx1, h⟩ := Option.bind_eq_some_iff.mp h
  by_cases c1 : x1 = true
  · rw [if_pos c1] at h
    by_cases c2 : (a0.f0.length : Int) > 16
    · rw [if_pos c2] at h
      refine .reg' [1, 22] [.no, .no, .c ⟨57, [(I a0.f1), (I 1), (I 24)], [], (B x1), [], [], [], [], (B x1), []⟩, .no, .v (B false), .no, .no, .no, .no, .no, .v (B true)] ⟨[(1, (.pt 256 0 3)), (22, (B true))], [(256, [(.sl true a0.f0.length 1 (a0.f0.flatMap encI)), (I a0.f1), (.sl true a0.f2.length 2 (a0.f2.flatMap (e83 true)))])], [3 = 3 ∧ 1 + 1 ≤ 3, COK (hget [(256, [(.sl true a0.f0.length 1 (a0.f0.flatMap encI)), (I a0.f1), (.sl true a0.f2.length 2 (a0.f2.flatMap (e83 true)))])]) [(I a0.f1), (I 1), (I 24)] ⟨57, [(I a0.f1), (I 1), (I 24)], [], (B x1), [], [], [], [], (B x1), []⟩, (B (!x1) : V) = B false, 3 = 3 ∧ 0 + 1 ≤ 3, (B (decide ((a0.f0.length : Int) > 16)) : V) = B true], [⟨57, [(I a0.f1), (I 1), (I 24)], [], (B x1), [], [], [], [], (B x1), []⟩]⟩ [c_ 13, c_ 7] (alc ⟨rfl, by decide⟩ (alc (cok0 false (a2c (.z .s) (a2c (.z .s) (a2c (.z .s) a2n))) (.z .s) (fun h => absurd h (by decide))) (alc (bF (nF c1)) (alc ⟨rfl, by decide⟩ (alc (bT (dT c2)) aln))))) (acal (impl_between.J a0.f1 1 24 _ hx1) nocal) ?_
      refine .cond' (.tmp 22) true [c_ 52, c_ 53, c_ 7] (rfl) ?_
      refine .reg' [2] [] ⟨[(2, (B false))], [(256, [(.sl true a0.f0.length 1 (a0.f0.flatMap encI)), (I a0.f1), (.sl true a0.f2.length 2 (a0.f2.flatMap (e83 true)))])], [], []⟩ [c_ 53, c_ 7] aln nocal ?_
      have h := Option.some.inj h
      subst h
      exact .fin0 [] (B false) [] aln (.z .s)
    · rw [if_neg c2] at h
      refine .reg' [1, 22] [.no, .no, .c ⟨57, [(I a0.f1), (I 1), (I 24)], [], (B x1), [], [], [], [], (B x1), []⟩, .no, .v (B false), .no, .no, .no, .no, .no, .v (B false)] ⟨[(1, (.pt 256 0 3)), (22, (B (decide ((a0.f2.length : Int) > 12))))], [(256, [(.sl true a0.f0.length 1 (a0.f0.flatMap encI)), (I a0.f1), (.sl true a0.f2.length 2 (a0.f2.flatMap (e83 true)))])], [3 = 3 ∧ 1 + 1 ≤ 3, COK (hget [(256, [(.sl true a0.f0.length 1 (a0.f0.flatMap encI)), (I a0.f1), (.sl true a0.f2.length 2 (a0.f2.flatMap (e83 true)))])]) [(I a0.f1), (I 1), (I 24)] ⟨57, [(I a0.f1), (I 1), (I 24)], [], (B x1), [], [], [], [], (B x1), []⟩, (B (!x1) : V) = B false, 3 = 3 ∧ 0 + 1 ≤ 3, (B (decide ((a0.f0.length : Int) > 16)) : V) = B false, 3 = 3 ∧ 2 + 1 ≤ 3], [⟨57, [(I a0.f1), (I 1), (I 24)], [], (B x1), [], [], [], [], (B x1), []⟩]⟩ [c_ 13, c_ 7] (alc ⟨rfl, by decide⟩ (alc (cok0 false (a2c (.z .s) (a2c (.z .s) (a2c (.z .s) a2n))) (.z .s) (fun h => absurd h (by decide))) (alc (bF (nF c1)) (alc ⟨rfl, by decide⟩ (alc (bF (dF c2)) (alc ⟨rfl, by decide⟩ aln)))))) (acal (impl_between.J a0.f1 1 24 _ hx1) nocal) ?_
      by_cases c3 : (a0.f2.length : Int) > 12
      · rw [if_pos c3] at h
        refine .cond' (.tmp 22) true [c_ 52, c_ 53, c_ 7] (bT (dT c3)) ?_
        refine .reg' [2] [] ⟨[(2, (B false))], [(256, [(.sl true a0.f0.length 1 (a0.f0.flatMap encI)), (I a0.f1), (.sl true a0.f2.length 2 (a0.f2.flatMap (e83 true)))])], [], []⟩ [c_ 53, c_ 7] aln nocal ?_
        have h := Option.some.inj h
        subst h
        exact .fin0 [] (B false) [] aln (.z .s)
      · rw [if_neg c3] at h
        refine .cond' (.tmp 22) false [c_ 28, c_ 29, c_ 15] (bF (dF c3)) ?_
        refine .reg' [1, 24, 25, 26] [] ⟨[(1, (.pt 256 0 3)), (24, (.sl true a0.f0.length 1 (a0.f0.flatMap encI))), (25, (I (a0.f0.length : Int))), (26, (I 0))], [(256, [(.sl true a0.f0.length 1 (a0.f0.flatMap encI)), (I a0.f1), (.sl true a0.f2.length 2 (a0.f2.flatMap (e83 true)))])], [3 = 3 ∧ 0 + 1 ≤ 3], []⟩ [l_ 58, b_ 0, c_ 15] (alc ⟨rfl, by decide⟩ aln) nocal ?_
        exact ih0 a0 0 _ h
  · rw [if_neg c1] at h
    refine .reg' [1, 22] [.no, .no, .c ⟨57, [(I a0.f1), (I 1), (I 24)], [], (B x1), [], [], [], [], (B x1), []⟩, .no, .v (B true)] ⟨[(1, (.pt 256 0 3)), (22, (B true))], [(256, [(.sl true a0.f0.length 1 (a0.f0.flatMap encI)), (I a0.f1), (.sl true a0.f2.length 2 (a0.f2.flatMap (e83 true)))])], [3 = 3 ∧ 1 + 1 ≤ 3, COK (hget [(256, [(.sl true a0.f0.length 1 (a0.f0.flatMap encI)), (I a0.f1), (.sl true a0.f2.length 2 (a0.f2.flatMap (e83 true)))])]) [(I a0.f1), (I 1), (I 24)] ⟨57, [(I a0.f1), (I 1), (I 24)], [], (B x1), [], [], [], [], (B x1), []⟩, (B (!x1) : V) = B true], [⟨57, [(I a0.f1), (I 1), (I 24)], [], (B x1), [], [], [], [], (B x1), []⟩]⟩ [c_ 13, c_ 7] (alc ⟨rfl, by decide⟩ (alc (cok0 false (a2c (.z .s) (a2c (.z .s) (a2c (.z .s) a2n))) (.z .s) (fun h => absurd h (by decide))) (alc (bT (nT (vF c1))) aln))) (acal (impl_between.J a0.f1 1 24 _ hx1) nocal) ?_
    refine .cond' (.tmp 22) true [c_ 52, c_ 53, c_ 7] (rfl) ?_
    refine .reg' [2] [] ⟨[(2, (B false))], [(256, [(.sl true a0.f0.length 1 (a0.f0.flatMap encI)), (I a0.f1), (.sl true a0.f2.length 2 (a0.f2.flatMap (e83 true)))])], [], []⟩ [c_ 53, c_ 7] aln nocal ?_
    have h := Option.some.inj h
    subst h
    exact .fin0 [] (B false) [] aln (.z .s)
/-! impl_Route_against: function 61 -/
mutual
def impl_Route_against.l0 : Nat → S83 → S83 → Int → Option Bool
 | 0, _, _, _ => none
 | k + 1, a0, a1, x1 => (if x1 < (a0.f1.length : Int) then (if 0 ≤ x1 then ((impl_has.f k a1.f1 (at_ a0.f1 x1)).bind fun x2 => (if x2 = true then (some true) else (impl_Route_against.l0 k a0 a1 (wrap64 (x1 + 1))))) else none) else (impl_Route_against.l1 k a0 a1 0))
def impl_Route_against.l1 : Nat → S83 → S83 → Int → Option Bool
 | 0, _, _, _ => none
 | k + 1, a0, a1, x3 => (if x3 < (a0.f0.length : Int) then (if 0 ≤ x3 then (impl_Route_against.l2 k a0 a1 x3 0) else none) else (some false))
def impl_Route_against.l2 : Nat → S83 → S83 → Int → Int → Option Bool
 | 0, _, _, _, _ => none
 | k + 1, a0, a1, x3, x4 => (if x4 < (a1.f0.length : Int) then (if 0 ≤ x4 then (if (at_ a0.f0 x3).f0 = (at_ a1.f0 x4).f0 then (if (at_ a0.f0 x3).f1 = (at_ a1.f0 x4).f1 then (impl_Route_against.l2 k a0 a1 x3 (wrap64 (x4 + 1))) else (some true)) else (impl_Route_against.l2 k a0 a1 x3 (wrap64 (x4 + 1)))) else none) else (impl_Route_against.l1 k a0 a1 (wrap64 (x3 + 1))))
end
def impl_Route_against.f (k : Nat) (a0 : S83) (a1 : S83) : Option Bool := (impl_Route_against.l0 k a0 a1 0)
theorem impl_Route_against.lab : ∀ k, (∀ (a0 : S83) (a1 : S83) (x1 : Int) (r : Bool), impl_Route_against.l0 k a0 a1 x1 = some r → J prog (.run 61 [] [l_ 26, b_ 0, c_ 7] [(2, (.pt 256 0 2)), (3, (.pt 257 0 2)), (12, (.sl true a0.f1.length 1 (a0.f1.flatMap encI))), (13, (I (a0.f1.length : Int))), (14, (I x1))] [(256, [(.sl true a0.f0.length 2 (a0.f0.flatMap e93)), (.sl true a0.f1.length 1 (a0.f1.flatMap encI))]), (257, [(.sl true a1.f0.length 2 (a1.f0.flatMap e93)), (.sl true a1.f1.length 1 (a1.f1.flatMap encI))])] (B r) [])) ∧ (∀ (a0 : S83) (a1 : S83) (x3 : Int) (r : Bool), impl_Route_against.l1 k a0 a1 x3 = some r → J prog (.run 61 [] [l_ 58, b_ 2, c_ 15] [(3, (.pt 257 0 2)), (24, (.sl true a0.f0.length 2 (a0.f0.flatMap e93))), (25, (I (a0.f0.length : Int))), (26, (I x3))] [(257, [(.sl true a1.f0.length 2 (a1.f0.flatMap e93)), (.sl true a1.f1.length 1 (a1.f1.flatMap encI))])] (B r) [])) ∧ (∀ (a0 : S83) (a1 : S83) (x3 : Int) (x4 : Int) (r : Bool), impl_Route_against.l2 k a0 a1 x3 x4 = some r → J prog (.run 61 [] [l_ 14950, b_ 4, b_ 3, c_ 935, l_ 58, b_ 2, c_ 15] [(3, (.pt 257 0 2)), (8, (.pt 2562 0 2)), (24, (.sl true a0.f0.length 2 (a0.f0.flatMap e93))), (25, (I (a0.f0.length : Int))), (26, (I x3)), (31, (.sl true a1.f0.length 2 (a1.f0.flatMap e93))), (32, (I (a1.f0.length : Int))), (33, (I x4))] [(257, [(.sl true a1.f0.length 2 (a1.f0.flatMap e93)), (.sl true a1.f1.length 1 (a1.f1.flatMap encI))]), (2562, [(I (at_ a0.f0 x3).f0), (I (at_ a0.f0 x3).f1)])] (B r) []))
 | 0 => ⟨(by intro a0 a1 x1 r h; unfold impl_Route_against.l0 at h; cases h), (by intro a0 a1 x3 r h; unfold impl_Route_against.l1 at h; cases h), (by intro a0 a1 x3 x4 r h; unfold impl_Route_against.l2 at h; cases h)⟩
 | k + 1 => by
  obtain ⟨ih0, ih1, ih2⟩ := impl_Route_against.lab k
  refine ⟨?_, ?_, ?_⟩
  · intro a0 a1 x1 r h
    unfold impl_Route_against.l0 at h
    refine .loop' [c_ 104, c_ 105, l_ 26, b_ 0, c_ 7] ?_
    refine .reg' [2, 3, 12, 13, 14, 15] [] ⟨[(2, (.pt 256 0 2)), (3, (.pt 257 0 2)), (12, (.sl true a0.f1.length 1 (a0.f1.flatMap encI))), (13, (I (a0.f1.length : Int))), (14, (I x1)), (15, (B (decide (x1 < (a0.f1.length : Int)))))], [(256, [(.sl true a0.f0.length 2 (a0.f0.flatMap e93)), (.sl true a0.f1.length 1 (a0.f1.flatMap encI))]), (257, [(.sl true a1.f0.length 2 (a1.f0.flatMap e93)), (.sl true a1.f1.length 1 (a1.f1.flatMap encI))])], [], []⟩ [c_ 210, c_ 211, l_ 26, b_ 0, c_ 7] aln nocal ?_
    by_cases c1 : x1 < (a0.f1.length : Int)
    · rw [if_pos c1] at h
      refine .cond' (.tmp 15) true [c_ 1688, c_ 1689, b_ 1, c_ 423, l_ 26, b_ 0, c_ 7] (bT (dT c1)) ?_
      by_cases c2 : 0 ≤ x1
      · rw [if_pos c2] at h
        refine .reg' [2, 3, 6, 12, 13, 14] [.no, .v (I (at_ a0.f1 x1))] ⟨[(2, (.pt 256 0 2)), (3, (.pt 257 0 2)), (6, (I (at_ a0.f1 x1))), (12, (.sl true a0.f1.length 1 (a0.f1.flatMap encI))), (13, (I (a0.f1.length : Int))), (14, (I x1))], [(256, [(.sl true a0.f0.length 2 (a0.f0.flatMap e93)), (.sl true a0.f1.length 1 (a0.f1.flatMap encI))]), (257, [(.sl true a1.f0.length 2 (a1.f0.flatMap e93)), (.sl true a1.f1.length 1 (a1.f1.flatMap encI))])], [(0 : Int) ≤ x1 ∧ x1 < (a0.f1.length : Int), rdC prog 3 ((a0.f1.flatMap encI).drop (x1.toNat * 1)) = (I (at_ a0.f1 x1)), 1 ≤ ((a0.f1.flatMap encI).drop (x1.toNat * 1)).length], []⟩ [c_ 3378, c_ 3379, b_ 1, c_ 423, l_ 26, b_ 0, c_ 7] (alc ⟨c2, c1⟩ (alc (ldC1 encI_ok rfl c2 c1) (alc (okI encI_ok c2 c1 (by decide)) aln))) nocal ?_
        obtain ⟨x2, hx2, h⟩ := Option.bind_eq_some_iff.mp h
        refine .reg' [2, 3, 12, 13, 14, 21] [.no, .no, .no, .c ⟨100, [(.sl true a1.f1.length 1 (a1.f1.flatMap encI)), (I (at_ a0.f1 x1))], [], (B x2), [], [], [], [], (B x2), []⟩] ⟨[(2, (.pt 256 0 2)), (3, (.pt 257 0 2)), (12, (.sl true a0.f1.length 1 (a0.f1.flatMap encI))), (13, (I (a0.f1.length : Int))), (14, (I x1)), (21, (B x2))], [(256, [(.sl true a0.f0.length 2 (a0.f0.flatMap e93)), (.sl true a0.f1.length 1 (a0.f1.flatMap encI))]), (257, [(.sl true a1.f0.length 2 (a1.f0.flatMap e93)), (.sl true a1.f1.length 1 (a1.f1.flatMap encI))])], [2 = 2 ∧ 1 + 1 ≤ 2, COK (hget [(256, [(.sl true a0.f0.length 2 (a0.f0.flatMap e93)), (.sl true a0.f1.length 1 (a0.f1.flatMap encI))]), (257, [(.sl true a1.f0.length 2 (a1.f0.flatMap e93)), (.sl true a1.f1.length 1 (a1.f1.flatMap encI))])]) [(.sl true a1.f1.length 1 (a1.f1.flatMap encI)), (I (at_ a0.f1 x1))] ⟨100, [(.sl true a1.f1.length 1 (a1.f1.flatMap encI)), (I (at_ a0.f1 x1))], [], (B x2), [], [], [], [], (B x2), []⟩], [⟨100, [(.sl true a1.f1.length 1 (a1.f1.flatMap encI)), (I (at_ a0.f1 x1))], [], (B x2), [], [], [], [], (B x2), []⟩]⟩ [c_ 3379, b_ 1, c_ 423, l_ 26, b_ 0, c_ 7] (alc ⟨rfl, by decide⟩ (alc (cok0 false (a2c (.z (frz_sl encI_ok (fun h => h))) (a2c (.z .s) a2n)) (.z .s) (fun h => absurd h (by decide))) aln)) (acal (impl_has.J k a1.f1 (at_ a0.f1 x1) _ hx2) nocal) ?_
        by_cases c3 : x2 = true
        · rw [if_pos c3] at h
          refine .cond' (.tmp 21) true [c_ 13516, c_ 13517, b_ 1, c_ 423, l_ 26, b_ 0, c_ 7] (bT c3) ?_
          refine .reg' [4] [] ⟨[(4, (B true))], [(256, [(.sl true a0.f0.length 2 (a0.f0.flatMap e93)), (.sl true a0.f1.length 1 (a0.f1.flatMap encI))]), (257, [(.sl true a1.f0.length 2 (a1.f0.flatMap e93)), (.sl true a1.f1.length 1 (a1.f1.flatMap encI))])], [], []⟩ [c_ 13517, b_ 1, c_ 423, l_ 26, b_ 0, c_ 7] aln nocal ?_
          have h := Option.some.inj h
          subst h
          exact .fin0 [] (B true) [] aln (.z .s)
        · rw [if_neg c3] at h
          refine .cond' (.tmp 21) false [c_ 423, l_ 26, b_ 0, c_ 7] (bF (vF c3)) ?_
          refine .reg' [2, 3, 12, 13, 14] [] ⟨[(2, (.pt 256 0 2)), (3, (.pt 257 0 2)), (12, (.sl true a0.f1.length 1 (a0.f1.flatMap encI))), (13, (I (a0.f1.length : Int))), (14, (I (wrap64 (x1 + 1))))], [(256, [(.sl true a0.f0.length 2 (a0.f0.flatMap e93)), (.sl true a0.f1.length 1 (a0.f1.flatMap encI))]), (257, [(.sl true a1.f0.length 2 (a1.f0.flatMap e93)), (.sl true a1.f1.length 1 (a1.f1.flatMap encI))])], [], []⟩ [l_ 26, b_ 0, c_ 7] aln nocal ?_
          exact ih0 a0 a1 (wrap64 (x1 + 1)) _ h
      · rw [if_neg c2] at h
        cases h
    · rw [if_neg c1] at h
      refine .cond' (.tmp 15) false [c_ 28, c_ 29, c_ 15] (bF (dF c1)) ?_
      refine .reg' [3, 24, 25, 26] [] ⟨[(3, (.pt 257 0 2)), (24, (.sl true a0.f0.length 2 (a0.f0.flatMap e93))), (25, (I (a0.f0.length : Int))), (26, (I 0))], [(256, [(.sl true a0.f0.length 2 (a0.f0.flatMap e93)), (.sl true a0.f1.length 1 (a0.f1.flatMap encI))]), (257, [(.sl true a1.f0.length 2 (a1.f0.flatMap e93)), (.sl true a1.f1.length 1 (a1.f1.flatMap encI))])], [2 = 2 ∧ 0 + 1 ≤ 2], []⟩ [l_ 58, b_ 2, c_ 15] (alc ⟨rfl, by decide⟩ aln) nocal ?_
      refine .wk' [] [(257, 257)] [(3, (.pt 257 0 2)), (24, (.sl true a0.f0.length 2 (a0.f0.flatMap e93))), (25, (I (a0.f0.length : Int))), (26, (I 0))] [(257, [(.sl true a1.f0.length 2 (a1.f0.flatMap e93)), (.sl true a1.f1.length 1 (a1.f1.flatMap encI))])] (shc 257 (a2c (.z (frz_sl e93_ok (fun h => h))) (a2c (.z (frz_sl encI_ok (fun h => h))) a2n)) shn) (enc_ (.pt (memP_mem (p := (257, 257)) rfl)) (enc_ (.z (frz_sl e93_ok (fun h => h))) (enc_ (.z .s) (enc_ (.z .s) enn)))) ?_
      exact ih1 a0 a1 0 _ h
  · intro a0 a1 x3 r h
    unfold impl_Route_against.l1 at h
    refine .loop' [c_ 232, c_ 233, l_ 58, b_ 2, c_ 15] ?_
    refine .reg' [3, 24, 25, 26, 27] [] ⟨[(3, (.pt 257 0 2)), (24, (.sl true a0.f0.length 2 (a0.f0.flatMap e93))), (25, (I (a0.f0.length : Int))), (26, (I x3)), (27, (B (decide (x3 < (a0.f0.length : Int)))))], [(257, [(.sl true a1.f0.length 2 (a1.f0.flatMap e93)), (.sl true a1.f1.length 1 (a1.f1.flatMap encI))])], [], []⟩ [c_ 466, c_ 467, l_ 58, b_ 2, c_ 15] aln nocal ?_
    by_cases c4 : x3 < (a0.f0.length : Int)
    · rw [if_pos c4] at h
      refine .cond' (.tmp 27) true [c_ 3736, c_ 3737, b_ 3, c_ 935, l_ 58, b_ 2, c_ 15] (bT (dT c4)) ?_
      by_cases c5 : 0 ≤ x3
      · rw [if_pos c5] at h
        refine .reg' [3, 8, 24, 25, 26] [.no, .v (.ag [(I (at_ a0.f0 x3).f0), (I (at_ a0.f0 x3).f1)])] ⟨[(3, (.pt 257 0 2)), (8, (.pt 2562 0 2)), (24, (.sl true a0.f0.length 2 (a0.f0.flatMap e93))), (25, (I (a0.f0.length : Int))), (26, (I x3))], [(257, [(.sl true a1.f0.length 2 (a1.f0.flatMap e93)), (.sl true a1.f1.length 1 (a1.f1.flatMap encI))]), (2562, [(I (at_ a0.f0 x3).f0), (I (at_ a0.f0 x3).f1)])], [(0 : Int) ≤ x3 ∧ x3 < (a0.f0.length : Int), rdC prog 94 ((a0.f0.flatMap e93).drop (x3.toNat * 2)) = (.ag [(I (at_ a0.f0 x3).f0), (I (at_ a0.f0 x3).f1)]), 2 ≤ ((a0.f0.flatMap e93).drop (x3.toNat * 2)).length, 2 = 2 ∧ 0 + 2 ≤ 2], []⟩ [c_ 7474, c_ 7475, b_ 3, c_ 935, l_ 58, b_ 2, c_ 15] (alc ⟨c5, c4⟩ (alc (ldA e93_ok rfl rfl c5 c4) (alc (okI e93_ok c5 c4 (by decide)) (alc ⟨rfl, by decide⟩ aln)))) nocal ?_
        refine .reg' [3, 8, 24, 25, 26, 31, 32, 33] [] ⟨[(3, (.pt 257 0 2)), (8, (.pt 2562 0 2)), (24, (.sl true a0.f0.length 2 (a0.f0.flatMap e93))), (25, (I (a0.f0.length : Int))), (26, (I x3)), (31, (.sl true a1.f0.length 2 (a1.f0.flatMap e93))), (32, (I (a1.f0.length : Int))), (33, (I 0))], [(257, [(.sl true a1.f0.length 2 (a1.f0.flatMap e93)), (.sl true a1.f1.length 1 (a1.f1.flatMap encI))]), (2562, [(I (at_ a0.f0 x3).f0), (I (at_ a0.f0 x3).f1)])], [2 = 2 ∧ 0 + 1 ≤ 2], []⟩ [l_ 14950, b_ 4, b_ 3, c_ 935, l_ 58, b_ 2, c_ 15] (alc ⟨rfl, by decide⟩ aln) nocal ?_
        exact ih2 a0 a1 x3 0 _ h
      · rw [if_neg c5] at h
        cases h
    · rw [if_neg c4] at h
      refine .cond' (.tmp 27) false [c_ 30, c_ 31] (bF (dF c4)) ?_
      refine .reg' [4] [] ⟨[(4, (B false))], [(257, [(.sl true a1.f0.length 2 (a1.f0.flatMap e93)), (.sl true a1.f1.length 1 (a1.f1.flatMap encI))])], [], []⟩ [c_ 31] aln nocal ?_
      have h := Option.some.inj h
      subst h
      exact .fin0 [] (B false) [] aln (.z .s)
  · intro a0 a1 x3 x4 r h
    unfold impl_Route_against.l2 at h
    refine .loop' [c_ 59800, c_ 59801, l_ 14950, b_ 4, b_ 3, c_ 935, l_ 58, b_ 2, c_ 15] ?_
    refine .reg' [3, 8, 24, 25, 26, 31, 32, 33, 34] [] ⟨[(3, (.pt 257 0 2)), (8, (.pt 2562 0 2)), (24, (.sl true a0.f0.length 2 (a0.f0.flatMap e93))), (25, (I (a0.f0.length : Int))), (26, (I x3)), (31, (.sl true a1.f0.length 2 (a1.f0.flatMap e93))), (32, (I (a1.f0.length : Int))), (33, (I x4)), (34, (B (decide (x4 < (a1.f0.length : Int)))))], [(257, [(.sl true a1.f0.length 2 (a1.f0.flatMap e93)), (.sl true a1.f1.length 1 (a1.f1.flatMap encI))]), (2562, [(I (at_ a0.f0 x3).f0), (I (at_ a0.f0 x3).f1)])], [], []⟩ [c_ 119602, c_ 119603, l_ 14950, b_ 4, b_ 3, c_ 935, l_ 58, b_ 2, c_ 15] aln nocal ?_
    by_cases c6 : x4 < (a1.f0.length : Int)
    · rw [if_pos c6] at h
      refine .cond' (.tmp 34) true [c_ 956824, c_ 956825, b_ 5, c_ 239207, l_ 14950, b_ 4, b_ 3, c_ 935, l_ 58, b_ 2, c_ 15] (bT (dT c6)) ?_
      by_cases c7 : 0 ≤ x4
      · rw [if_pos c7] at h
        refine .reg' [3, 8, 10, 24, 25, 26, 31, 32, 33] [.no, .v (.ag [(I (at_ a1.f0 x4).f0), (I (at_ a1.f0 x4).f1)])] ⟨[(3, (.pt 257 0 2)), (8, (.pt 2562 0 2)), (10, (.pt 3330 0 2)), (24, (.sl true a0.f0.length 2 (a0.f0.flatMap e93))), (25, (I (a0.f0.length : Int))), (26, (I x3)), (31, (.sl true a1.f0.length 2 (a1.f0.flatMap e93))), (32, (I (a1.f0.length : Int))), (33, (I x4))], [(257, [(.sl true a1.f0.length 2 (a1.f0.flatMap e93)), (.sl true a1.f1.length 1 (a1.f1.flatMap encI))]), (2562, [(I (at_ a0.f0 x3).f0), (I (at_ a0.f0 x3).f1)]), (3330, [(I (at_ a1.f0 x4).f0), (I (at_ a1.f0 x4).f1)])], [(0 : Int) ≤ x4 ∧ x4 < (a1.f0.length : Int), rdC prog 94 ((a1.f0.flatMap e93).drop (x4.toNat * 2)) = (.ag [(I (at_ a1.f0 x4).f0), (I (at_ a1.f0 x4).f1)]), 2 ≤ ((a1.f0.flatMap e93).drop (x4.toNat * 2)).length, 2 = 2 ∧ 0 + 2 ≤ 2], []⟩ [c_ 1913650, c_ 1913651, b_ 5, c_ 239207, l_ 14950, b_ 4, b_ 3, c_ 935, l_ 58, b_ 2, c_ 15] (alc ⟨c7, c6⟩ (alc (ldA e93_ok rfl rfl c7 c6) (alc (okI e93_ok c7 c6 (by decide)) (alc ⟨rfl, by decide⟩ aln)))) nocal ?_
        by_cases c8 : (at_ a0.f0 x3).f0 = (at_ a1.f0 x4).f0
        · rw [if_pos c8] at h
          refine .reg' [3, 8, 24, 25, 26, 31, 32, 33, 48] [.no, .no, .no, .no, .no, .v (B true)] ⟨[(3, (.pt 257 0 2)), (8, (.pt 2562 0 2)), (24, (.sl true a0.f0.length 2 (a0.f0.flatMap e93))), (25, (I (a0.f0.length : Int))), (26, (I x3)), (31, (.sl true a1.f0.length 2 (a1.f0.flatMap e93))), (32, (I (a1.f0.length : Int))), (33, (I x4)), (48, (B (!((at_ a0.f0 x3).f1 == (at_ a1.f0 x4).f1))))], [(257, [(.sl true a1.f0.length 2 (a1.f0.flatMap e93)), (.sl true a1.f1.length 1 (a1.f1.flatMap encI))]), (2562, [(I (at_ a0.f0 x3).f0), (I (at_ a0.f0 x3).f1)]), (3330, [(I (at_ a1.f0 x4).f0), (I (at_ a1.f0 x4).f1)])], [2 = 2 ∧ 0 + 1 ≤ 2, 2 = 2 ∧ 0 + 1 ≤ 2, (B ((at_ a0.f0 x3).f0 == (at_ a1.f0 x4).f0) : V) = B true, 2 = 2 ∧ 1 + 1 ≤ 2, 2 = 2 ∧ 1 + 1 ≤ 2], []⟩ [c_ 1913651, b_ 5, c_ 239207, l_ 14950, b_ 4, b_ 3, c_ 935, l_ 58, b_ 2, c_ 15] (alc ⟨rfl, by decide⟩ (alc ⟨rfl, by decide⟩ (alc (bT (qT c8)) (alc ⟨rfl, by decide⟩ (alc ⟨rfl, by decide⟩ aln))))) nocal ?_
          by_cases c9 : (at_ a0.f0 x3).f1 = (at_ a1.f0 x4).f1
          · rw [if_pos c9] at h
            refine .cond' (.tmp 48) false [c_ 239207, l_ 14950, b_ 4, b_ 3, c_ 935, l_ 58, b_ 2, c_ 15] (bF (nF (qT c9))) ?_
            refine .reg' [3, 8, 24, 25, 26, 31, 32, 33] [] ⟨[(3, (.pt 257 0 2)), (8, (.pt 2562 0 2)), (24, (.sl true a0.f0.length 2 (a0.f0.flatMap e93))), (25, (I (a0.f0.length : Int))), (26, (I x3)), (31, (.sl true a1.f0.length 2 (a1.f0.flatMap e93))), (32, (I (a1.f0.length : Int))), (33, (I (wrap64 (x4 + 1))))], [(257, [(.sl true a1.f0.length 2 (a1.f0.flatMap e93)), (.sl true a1.f1.length 1 (a1.f1.flatMap encI))]), (2562, [(I (at_ a0.f0 x3).f0), (I (at_ a0.f0 x3).f1)]), (3330, [(I (at_ a1.f0 x4).f0), (I (at_ a1.f0 x4).f1)])], [], []⟩ [l_ 14950, b_ 4, b_ 3, c_ 935, l_ 58, b_ 2, c_ 15] aln nocal ?_
            refine .wk' [] [(257, 257), (2562, 2562)] [(3, (.pt 257 0 2)), (8, (.pt 2562 0 2)), (24, (.sl true a0.f0.length 2 (a0.f0.flatMap e93))), (25, (I (a0.f0.length : Int))), (26, (I x3)), (31, (.sl true a1.f0.length 2 (a1.f0.flatMap e93))), (32, (I (a1.f0.length : Int))), (33, (I (wrap64 (x4 + 1))))] [(257, [(.sl true a1.f0.length 2 (a1.f0.flatMap e93)), (.sl true a1.f1.length 1 (a1.f1.flatMap encI))]), (2562, [(I (at_ a0.f0 x3).f0), (I (at_ a0.f0 x3).f1)])] (shc 257 (a2c (.z (frz_sl e93_ok (fun h => h))) (a2c (.z (frz_sl encI_ok (fun h => h))) a2n)) (shc 2562 (a2c (.z .s) (a2c (.z .s) a2n)) shn)) (enc_ (.pt (memP_mem (p := (257, 257)) rfl)) (enc_ (.pt (memP_mem (p := (2562, 2562)) rfl)) (enc_ (.z (frz_sl e93_ok (fun h => h))) (enc_ (.z .s) (enc_ (.z .s) (enc_ (.z (frz_sl e93_ok (fun h => h))) (enc_ (.z .s) (enc_ (.z .s) enn)))))))) ?_
            exact ih2 a0 a1 x3 (wrap64 (x4 + 1)) _ h
          · rw [if_neg c9] at h
            refine .cond' (.tmp 48) true [c_ 7654604, c_ 7654605, b_ 5, c_ 239207, l_ 14950, b_ 4, b_ 3, c_ 935, l_ 58, b_ 2, c_ 15] (bT (nT (qF c9))) ?_
            refine .reg' [4] [] ⟨[(4, (B true))], [(257, [(.sl true a1.f0.length 2 (a1.f0.flatMap e93)), (.sl true a1.f1.length 1 (a1.f1.flatMap encI))]), (2562, [(I (at_ a0.f0 x3).f0), (I (at_ a0.f0 x3).f1)]), (3330, [(I (at_ a1.f0 x4).f0), (I (at_ a1.f0 x4).f1)])], [], []⟩ [c_ 7654605, b_ 5, c_ 239207, l_ 14950, b_ 4, b_ 3, c_ 935, l_ 58, b_ 2, c_ 15] aln nocal ?_
            have h := Option.some.inj h
            subst h
            exact .fin0 [] (B true) [] aln (.z .s)
        · rw [if_neg c8] at h
          refine .reg' [3, 8, 24, 25, 26, 31, 32, 33, 48] [.no, .no, .no, .no, .no, .v (B false)] ⟨[(3, (.pt 257 0 2)), (8, (.pt 2562 0 2)), (24, (.sl true a0.f0.length 2 (a0.f0.flatMap e93))), (25, (I (a0.f0.length : Int))), (26, (I x3)), (31, (.sl true a1.f0.length 2 (a1.f0.flatMap e93))), (32, (I (a1.f0.length : Int))), (33, (I x4)), (48, (B false))], [(257, [(.sl true a1.f0.length 2 (a1.f0.flatMap e93)), (.sl true a1.f1.length 1 (a1.f1.flatMap encI))]), (2562, [(I (at_ a0.f0 x3).f0), (I (at_ a0.f0 x3).f1)]), (3330, [(I (at_ a1.f0 x4).f0), (I (at_ a1.f0 x4).f1)])], [2 = 2 ∧ 0 + 1 ≤ 2, 2 = 2 ∧ 0 + 1 ≤ 2, (B ((at_ a0.f0 x3).f0 == (at_ a1.f0 x4).f0) : V) = B false], []⟩ [c_ 1913651, b_ 5, c_ 239207, l_ 14950, b_ 4, b_ 3, c_ 935, l_ 58, b_ 2, c_ 15] (alc ⟨rfl, by decide⟩ (alc ⟨rfl, by decide⟩ (alc (bF (qF c8)) aln))) nocal ?_
          refine .cond' (.tmp 48) false [c_ 239207, l_ 14950, b_ 4, b_ 3, c_ 935, l_ 58, b_ 2, c_ 15] (rfl) ?_
          refine .reg' [3, 8, 24, 25, 26, 31, 32, 33] [] ⟨[(3, (.pt 257 0 2)), (8, (.pt 2562 0 2)), (24, (.sl true a0.f0.length 2 (a0.f0.flatMap e93))), (25, (I (a0.f0.length : Int))), (26, (I x3)), (31, (.sl true a1.f0.length 2 (a1.f0.flatMap e93))), (32, (I (a1.f0.length : Int))), (33, (I (wrap64 (x4 + 1))))], [(257, [(.sl true a1.f0.length 2 (a1.f0.flatMap e93)), (.sl true a1.f1.length 1 (a1.f1.flatMap encI))]), (2562, [(I (at_ a0.f0 x3).f0), (I (at_ a0.f0 x3).f1)]), (3330, [(I (at_ a1.f0 x4).f0), (I (at_ a1.f0 x4).f1)])], [], []⟩ [l_ 14950, b_ 4, b_ 3, c_ 935, l_ 58, b_ 2, c_ 15] aln nocal ?_
          refine .wk' [] [(257, 257), (2562, 2562)] [(3, (.pt 257 0 2)), (8, (.pt 2562 0 2)), (24, (.sl true a0.f0.length 2 (a0.f0.flatMap e93))), (25, (I (a0.f0.length : Int))), (26, (I x3)), (31, (.sl true a1.f0.length 2 (a1.f0.flatMap e93))), (32, (I (a1.f0.length : Int))), (33, (I (wrap64 (x4 + 1))))] [(257, [(.sl true a1.f0.length 2 (a1.f0.flatMap e93)), (.sl true a1.f1.length 1 (a1.f1.flatMap encI))]), (2562, [(I (at_ a0.f0 x3).f0), (I (at_ a0.f0 x3).f1)])] (shc 257 (a2c (.z (frz_sl e93_ok (fun h => h))) (a2c (.z (frz_sl encI_ok (fun h => h))) a2n)) (shc 2562 (a2c (.z .s) (a2c (.z .s) a2n)) shn)) (enc_ (.pt (memP_mem (p := (257, 257)) rfl)) (enc_ (.pt (memP_mem (p := (2562, 2562)) rfl)) (enc_ (.z (frz_sl e93_ok (fun h => h))) (enc_ (.z .s) (enc_ (.z .s) (enc_ (.z (frz_sl e93_ok (fun h => h))) (enc_ (.z .s) (enc_ (.z .s) enn)))))))) ?_
          exact ih2 a0 a1 x3 (wrap64 (x4 + 1)) _ h
      · rw [if_neg c7] at h
        cases h
    · rw [if_neg c6] at h
      refine .cond' (.tmp 34) false [c_ 935, l_ 58, b_ 2, c_ 15] (bF (dF c6)) ?_
      refine .reg' [3, 24, 25, 26] [] ⟨[(3, (.pt 257 0 2)), (24, (.sl true a0.f0.length 2 (a0.f0.flatMap e93))), (25, (I (a0.f0.length : Int))), (26, (I (wrap64 (x3 + 1))))], [(257, [(.sl true a1.f0.length 2 (a1.f0.flatMap e93)), (.sl true a1.f1.length 1 (a1.f1.flatMap encI))]), (2562, [(I (at_ a0.f0 x3).f0), (I (at_ a0.f0 x3).f1)])], [], []⟩ [l_ 58, b_ 2, c_ 15] aln nocal ?_
      refine .wk' [] [(257, 257)] [(3, (.pt 257 0 2)), (24, (.sl true a0.f0.length 2 (a0.f0.flatMap e93))), (25, (I (a0.f0.length : Int))), (26, (I (wrap64 (x3 + 1))))] [(257, [(.sl true a1.f0.length 2 (a1.f0.flatMap e93)), (.sl true a1.f1.length 1 (a1.f1.flatMap encI))])] (shc 257 (a2c (.z (frz_sl e93_ok (fun h => h))) (a2c (.z (frz_sl encI_ok (fun h => h))) a2n)) shn) (enc_ (.pt (memP_mem (p := (257, 257)) rfl)) (enc_ (.z (frz_sl e93_ok (fun h => h))) (enc_ (.z .s) (enc_ (.z .s) enn)))) ?_
      exact ih1 a0 a1 (wrap64 (x3 + 1)) _ h
theorem impl_Route_against.J (k : Nat) (a0 : S83) (a1 : S83) (r : Bool) (h : impl_Route_against.f k a0 a1 = some r) : J prog (.call 61 [(.ag [(.sl true a0.f0.length 2 (a0.f0.flatMap e93)), (.sl true a0.f1.length 1 (a0.f1.flatMap encI))]), (.ag [(.sl true a1.f0.length 2 (a1.f0.flatMap e93)), (.sl true a1.f1.length 1 (a1.f1.flatMap encI))])] [] (B r) []) := by
  unfold impl_Route_against.f at h
  obtain ⟨ih0, ih1, ih2⟩ := impl_Route_against.lab k
  refine .call' [c_ 2, c_ 3] ?_
  refine .reg' [2, 3] [] ⟨[(2, (.pt 256 0 2)), (3, (.pt 257 0 2))], [(256, [(.sl true a0.f0.length 2 (a0.f0.flatMap e93)), (.sl true a0.f1.length 1 (a0.f1.flatMap encI))]), (257, [(.sl true a1.f0.length 2 (a1.f0.flatMap e93)), (.sl true a1.f1.length 1 (a1.f1.flatMap encI))])], [], []⟩ [c_ 12, c_ 13, c_ 7] aln nocal ?_
  refine .reg' [2, 3, 12, 13, 14] [] ⟨[(2, (.pt 256 0 2)), (3, (.pt 257 0 2)), (12, (.sl true a0.f1.length 1 (a0.f1.flatMap encI))), (13, (I (a0.f1.length : Int))), (14, (I 0))], [(256, [(.sl true a0.f0.length 2 (a0.f0.flatMap e93)), (.sl true a0.f1.length 1 (a0.f1.flatMap encI))]), (257, [(.sl true a1.f0.length 2 (a1.f0.flatMap e93)), (.sl true a1.f1.length 1 (a1.f1.flatMap encI))])], [2 = 2 ∧ 1 + 1 ≤ 2], []⟩ [l_ 26, b_ 0, c_ 7] (alc ⟨rfl, by decide⟩ aln) nocal ?_
  exact ih0 a0 a1 0 _ h
/-! impl_Clashing: function 16 -/
def impl_Clashing.f (k : Nat) (a0 : S29) (a1 : Int) (a2 : Int) : Option Bool := ((impl_PlantOk.f k a0).bind fun x1 => (if x1 = true then ((impl_between.f a1 0 (wrap64 ((a0.f2.length : Int) - 1))).bind fun x2 => (if x2 = true then ((impl_between.f a2 0 (wrap64 ((a0.f2.length : Int) - 1))).bind fun x3 => (if x3 = true then (if a1 = a2 then (some false) else (if 0 ≤ a1 then (if a1 < (a0.f2.length : Int) then (if 0 ≤ a2 then (if a2 < (a0.f2.length : Int) then ((impl_Route_against.f k (at_ a0.f2 a1) (at_ a0.f2 a2)).bind fun x4 => (some x4)) else none) else none) else none) else none)) else (some false))) else (some false))) else (some false)))
end Go.Proofs.Ytjfjifnmfnlfoaa.Fns
