/- The functions that the law FnChain reaches, by the engine. Printed by a program of this seat. -/
import Derived.Test.YtomkglmlhoaniaaE5
import Derived.Test.YtomkglmlhoaniaaProg
import Derived.Test.YtomkglmlhoaniaaFFnChainx0
namespace Go.Proofs.Ytomkglmlhoaniaa.Fns
open Go.Proofs.Try Go.Proofs.Ytomkglmlhoaniaa.Eng Go.RowKit
set_option maxRecDepth 100000
set_option linter.unusedVariables false
set_option linter.unusedSimpArgs false
theorem spec_DrawRightWork.J (k : Nat) (a0 : (List Int)) (r : (S29 × (List Int))) (h : spec_DrawRightWork.f k a0 = some r) : J prog (.call 39 [(.sl false a0.length 1 (a0.flatMap encU))] [] (.tp [(.ag [(.rf 1000770 0 r.1.f0.length 1 (r.1.f0.length * 1)), (.rf 2000770 0 r.1.f1.length 4 (r.1.f1.length * 4)), (I r.1.f2)]), (.rf 1001027 0 r.2.length 1 (r.2.length * 1))]) [(1000770, (r.1.f0.flatMap encI)), (2000770, (r.1.f1.flatMap e52)), (1001027, (r.2.flatMap encI))]) := by
  unfold spec_DrawRightWork.f at h
  refine .call' [c_ 2, c_ 3] ?_
  refine .reg' [0, 2] [] ⟨[(0, (.sl false a0.length 1 (a0.flatMap encU))), (2, (.pt 256 0 3))], [(256, [nilS, nilS, (I 0)])], [], []⟩ [c_ 6, c_ 7] aln nocal ?_
  obtain ⟨x1, hx1, h⟩ := Option.bind_eq_some_iff.mp h
  refine .reg' [0, 2, 4] [.no, .c ⟨55, [(.sl false a0.length 1 (a0.flatMap encU))], [], (.pt 1795 0 3), [(1795, [(.sl false x1.f0.length 1 (x1.f0.flatMap encU)), (I x1.f1), (I x1.f2)])], [], [], [(1000513, 1795)], (.pt 1000513 0 3), [(1000513, [(.sl false x1.f0.length 1 (x1.f0.flatMap encU)), (I x1.f1), (I x1.f2)])]⟩] ⟨[(0, (.sl false a0.length 1 (a0.flatMap encU))), (2, (.pt 256 0 3)), (4, (.pt 1000513 0 3))], [(256, [nilS, nilS, (I 0)]), (1000513, [(.sl false x1.f0.length 1 (x1.f0.flatMap encU)), (I x1.f1), (I x1.f2)])], [COK (hget [(256, [nilS, nilS, (I 0)])]) [(.sl false a0.length 1 (a0.flatMap encU))] ⟨55, [(.sl false a0.length 1 (a0.flatMap encU))], [], (.pt 1795 0 3), [(1795, [(.sl false x1.f0.length 1 (x1.f0.flatMap encU)), (I x1.f1), (I x1.f2)])], [], [], [(1000513, 1795)], (.pt 1000513 0 3), [(1000513, [(.sl false x1.f0.length 1 (x1.f0.flatMap encU)), (I x1.f1), (I x1.f2)])]⟩], [⟨55, [(.sl false a0.length 1 (a0.flatMap encU))], [], (.pt 1795 0 3), [(1795, [(.sl false x1.f0.length 1 (x1.f0.flatMap encU)), (I x1.f1), (I x1.f2)])], [], [], [(1000513, 1795)], (.pt 1000513 0 3), [(1000513, [(.sl false x1.f0.length 1 (x1.f0.flatMap encU)), (I x1.f1), (I x1.f2)])]⟩]⟩ [c_ 14, c_ 15] (alc (cokW false (a2c (.z (frz_sl encU_ok (fun h => h))) a2n) akn (akc (.inr rfl) akn) (.pt (memP_mem (p := (1000513, 1795)) rfl)) (akc ⟨_, _, rfl, rfl, (a2c (.z (clnS encU_c (fun h => absurd h (by decide)))) (a2c (.z .s) (a2c (.z .s) a2n)))⟩ akn) (fun h => absurd h (by decide))) aln) (acal (spec_l01New.J k a0 _ hx1) nocal) ?_
  obtain ⟨x2, hx2, h⟩ := Option.bind_eq_some_iff.mp h
  refine .reg' [2, 4, 5] [.no, .no, .c ⟨56, [(.pt 0 0 3), (.sl true a0.length 1 (a0.flatMap encU))], [(0, [(.sl false x1.f0.length 1 (x1.f0.flatMap encU)), (I x1.f1), (I x1.f2)])], (.ag [(.rf 3008240 0 x2.1.f0.length 1 (x2.1.f0.length * 1)), (.rf 3008241 0 x2.1.f1.length 4 (x2.1.f1.length * 4)), (I x2.1.f2)]), [(0, [(.sl false x2.2.f0.length 1 (x2.2.f0.flatMap encU)), (I x2.2.f1), (I x2.2.f2)]), (3008240, (x2.1.f0.flatMap encI)), (3008241, (x2.1.f1.flatMap e52))], [], [(1000513, 0)], [(1000513, 0), (1000770, 3008240), (2000770, 3008241)], (.ag [(.rf 1000770 0 x2.1.f0.length 1 (x2.1.f0.length * 1)), (.rf 2000770 0 x2.1.f1.length 4 (x2.1.f1.length * 4)), (I x2.1.f2)]), [(1000513, [(.sl false x2.2.f0.length 1 (x2.2.f0.flatMap encU)), (I x2.2.f1), (I x2.2.f2)]), (1000770, (x2.1.f0.flatMap encI)), (2000770, (x2.1.f1.flatMap e52))]⟩] ⟨[(2, (.pt 256 0 3)), (4, (.pt 1000513 0 3)), (5, (.pt 771 0 3))], [(256, [nilS, nilS, (I 0)]), (1000513, [(.sl false x2.2.f0.length 1 (x2.2.f0.flatMap encU)), (I x2.2.f1), (I x2.2.f2)]), (2000770, (x2.1.f1.flatMap e52)), (1000770, (x2.1.f0.flatMap encI)), (771, [(.rf 1000770 0 x2.1.f0.length 1 (x2.1.f0.length * 1)), (.rf 2000770 0 x2.1.f1.length 4 (x2.1.f1.length * 4)), (I x2.1.f2)])], [COK (hget [(256, [nilS, nilS, (I 0)]), (1000513, [(.sl false x1.f0.length 1 (x1.f0.flatMap encU)), (I x1.f1), (I x1.f2)])]) [(.pt 1000513 0 3), (.sl false a0.length 1 (a0.flatMap encU))] ⟨56, [(.pt 0 0 3), (.sl true a0.length 1 (a0.flatMap encU))], [(0, [(.sl false x1.f0.length 1 (x1.f0.flatMap encU)), (I x1.f1), (I x1.f2)])], (.ag [(.rf 3008240 0 x2.1.f0.length 1 (x2.1.f0.length * 1)), (.rf 3008241 0 x2.1.f1.length 4 (x2.1.f1.length * 4)), (I x2.1.f2)]), [(0, [(.sl false x2.2.f0.length 1 (x2.2.f0.flatMap encU)), (I x2.2.f1), (I x2.2.f2)]), (3008240, (x2.1.f0.flatMap encI)), (3008241, (x2.1.f1.flatMap e52))], [], [(1000513, 0)], [(1000513, 0), (1000770, 3008240), (2000770, 3008241)], (.ag [(.rf 1000770 0 x2.1.f0.length 1 (x2.1.f0.length * 1)), (.rf 2000770 0 x2.1.f1.length 4 (x2.1.f1.length * 4)), (I x2.1.f2)]), [(1000513, [(.sl false x2.2.f0.length 1 (x2.2.f0.flatMap encU)), (I x2.2.f1), (I x2.2.f2)]), (1000770, (x2.1.f0.flatMap encI)), (2000770, (x2.1.f1.flatMap e52))]⟩, 3 = 3 ∧ 0 + 3 ≤ 3], [⟨56, [(.pt 0 0 3), (.sl true a0.length 1 (a0.flatMap encU))], [(0, [(.sl false x1.f0.length 1 (x1.f0.flatMap encU)), (I x1.f1), (I x1.f2)])], (.ag [(.rf 3008240 0 x2.1.f0.length 1 (x2.1.f0.length * 1)), (.rf 3008241 0 x2.1.f1.length 4 (x2.1.f1.length * 4)), (I x2.1.f2)]), [(0, [(.sl false x2.2.f0.length 1 (x2.2.f0.flatMap encU)), (I x2.2.f1), (I x2.2.f2)]), (3008240, (x2.1.f0.flatMap encI)), (3008241, (x2.1.f1.flatMap e52))], [], [(1000513, 0)], [(1000513, 0), (1000770, 3008240), (2000770, 3008241)], (.ag [(.rf 1000770 0 x2.1.f0.length 1 (x2.1.f0.length * 1)), (.rf 2000770 0 x2.1.f1.length 4 (x2.1.f1.length * 4)), (I x2.1.f2)]), [(1000513, [(.sl false x2.2.f0.length 1 (x2.2.f0.flatMap encU)), (I x2.2.f1), (I x2.2.f2)]), (1000770, (x2.1.f0.flatMap encI)), (2000770, (x2.1.f1.flatMap e52))]⟩]⟩ [c_ 30, c_ 31] (alc (cokW false (a2c (.pt (memP_mem (p := (1000513, 0)) rfl)) (a2c (.z (frz_sl encU_ok (fun h => absurd h (by decide)))) a2n)) (akc ⟨_, _, rfl, rfl, (a2c (.z (frz_sl encU_ok (fun h => h))) (a2c (.z .s) (a2c (.z .s) a2n)))⟩ akn) (akc (.inl rfl) (akc (.inr rfl) (akc (.inr rfl) akn))) (bck_ag (a2c (.rf (memP_mem (p := (1000770, 3008240)) rfl)) (a2c (.rf (memP_mem (p := (2000770, 3008241)) rfl)) (a2c (.z .s) a2n)))) (akc ⟨_, _, rfl, rfl, (a2c (.z (clnS encU_c (fun h => absurd h (by decide)))) (a2c (.z .s) (a2c (.z .s) a2n)))⟩ (akc ⟨_, _, rfl, rfl, rowB encI_c _⟩ (akc ⟨_, _, rfl, rfl, rowB e52_c _⟩ akn))) (fun h => absurd h (by decide))) (alc ⟨rfl, by decide⟩ aln)) (acal (spec_l11DrawRight.J k x1 a0 _ hx2) nocal) ?_
  obtain ⟨x3, hx3, h⟩ := Option.bind_eq_some_iff.mp h
  refine .reg' [2, 3] [.no, .no, .no, .c ⟨57, [(.pt 0 0 3), (.ag [(.sl true x2.1.f0.length 1 (x2.1.f0.flatMap encI)), (.sl true x2.1.f1.length 4 (x2.1.f1.flatMap e52)), (I x2.1.f2)])], [(0, [(.sl false x2.2.f0.length 1 (x2.2.f0.flatMap encU)), (I x2.2.f1), (I x2.2.f2)])], (.rf 512 0 x3.1.length 1 (x3.1.length * 1)), [(0, [(.sl false x3.2.f0.length 1 (x3.2.f0.flatMap encU)), (I x3.2.f1), (I x3.2.f2)]), (512, (x3.1.flatMap encI))], [1000770, 2000770], [(1000513, 0)], [(1000513, 0), (1001027, 512)], (.rf 1001027 0 x3.1.length 1 (x3.1.length * 1)), [(1000513, [(.sl false x3.2.f0.length 1 (x3.2.f0.flatMap encU)), (I x3.2.f1), (I x3.2.f2)]), (1001027, (x3.1.flatMap encI))]⟩] ⟨[(2, (.pt 256 0 3)), (3, (.rf 1001027 0 x3.1.length 1 (x3.1.length * 1)))], [(256, [(.rf 1000770 0 x2.1.f0.length 1 (x2.1.f0.length * 1)), (.rf 2000770 0 x2.1.f1.length 4 (x2.1.f1.length * 4)), (I x2.1.f2)]), (1000513, [(.sl false x3.2.f0.length 1 (x3.2.f0.flatMap encU)), (I x3.2.f1), (I x3.2.f2)]), (2000770, (x2.1.f1.flatMap e52)), (1000770, (x2.1.f0.flatMap encI)), (771, [(.rf 1000770 0 x2.1.f0.length 1 (x2.1.f0.length * 1)), (.rf 2000770 0 x2.1.f1.length 4 (x2.1.f1.length * 4)), (I x2.1.f2)]), (1001027, (x3.1.flatMap encI))], [3 = 3 ∧ 0 + 3 ≤ 3, 3 = 3 ∧ 0 + 3 ≤ 3, COK (hget [(256, [nilS, nilS, (I 0)]), (1000513, [(.sl false x2.2.f0.length 1 (x2.2.f0.flatMap encU)), (I x2.2.f1), (I x2.2.f2)]), (2000770, (x2.1.f1.flatMap e52)), (1000770, (x2.1.f0.flatMap encI)), (771, [(.rf 1000770 0 x2.1.f0.length 1 (x2.1.f0.length * 1)), (.rf 2000770 0 x2.1.f1.length 4 (x2.1.f1.length * 4)), (I x2.1.f2)])]) [(.pt 1000513 0 3), (.ag [(.rf 1000770 0 x2.1.f0.length 1 (x2.1.f0.length * 1)), (.rf 2000770 0 x2.1.f1.length 4 (x2.1.f1.length * 4)), (I x2.1.f2)])] ⟨57, [(.pt 0 0 3), (.ag [(.sl true x2.1.f0.length 1 (x2.1.f0.flatMap encI)), (.sl true x2.1.f1.length 4 (x2.1.f1.flatMap e52)), (I x2.1.f2)])], [(0, [(.sl false x2.2.f0.length 1 (x2.2.f0.flatMap encU)), (I x2.2.f1), (I x2.2.f2)])], (.rf 512 0 x3.1.length 1 (x3.1.length * 1)), [(0, [(.sl false x3.2.f0.length 1 (x3.2.f0.flatMap encU)), (I x3.2.f1), (I x3.2.f2)]), (512, (x3.1.flatMap encI))], [1000770, 2000770], [(1000513, 0)], [(1000513, 0), (1001027, 512)], (.rf 1001027 0 x3.1.length 1 (x3.1.length * 1)), [(1000513, [(.sl false x3.2.f0.length 1 (x3.2.f0.flatMap encU)), (I x3.2.f1), (I x3.2.f2)]), (1001027, (x3.1.flatMap encI))]⟩, 3 = 3 ∧ 0 + 3 ≤ 3], [⟨57, [(.pt 0 0 3), (.ag [(.sl true x2.1.f0.length 1 (x2.1.f0.flatMap encI)), (.sl true x2.1.f1.length 4 (x2.1.f1.flatMap e52)), (I x2.1.f2)])], [(0, [(.sl false x2.2.f0.length 1 (x2.2.f0.flatMap encU)), (I x2.2.f1), (I x2.2.f2)])], (.rf 512 0 x3.1.length 1 (x3.1.length * 1)), [(0, [(.sl false x3.2.f0.length 1 (x3.2.f0.flatMap encU)), (I x3.2.f1), (I x3.2.f2)]), (512, (x3.1.flatMap encI))], [1000770, 2000770], [(1000513, 0)], [(1000513, 0), (1001027, 512)], (.rf 1001027 0 x3.1.length 1 (x3.1.length * 1)), [(1000513, [(.sl false x3.2.f0.length 1 (x3.2.f0.flatMap encU)), (I x3.2.f1), (I x3.2.f2)]), (1001027, (x3.1.flatMap encI))]⟩]⟩ [c_ 31] (alc ⟨rfl, by decide⟩ (alc ⟨rfl, by decide⟩ (alc (cokW false (a2c (.pt (memP_mem (p := (1000513, 0)) rfl)) (a2c (cnv_ag (a2c (.z (frz_rf (k := 1000770) encI_ok (by simp) rfl rfl (row_len encI_ok _).symm)) (a2c (.z (frz_rf (k := 2000770) e52_ok (by simp) rfl rfl (row_len e52_ok _).symm)) (a2c (.z .s) a2n)))) a2n)) (akc ⟨_, _, rfl, rfl, (a2c (.z (frz_sl encU_ok (fun h => h))) (a2c (.z .s) (a2c (.z .s) a2n)))⟩ akn) (akc (.inl rfl) (akc (.inr rfl) akn)) (.rf (memP_mem (p := (1001027, 512)) rfl)) (akc ⟨_, _, rfl, rfl, (a2c (.z (clnS encU_c (fun h => absurd h (by decide)))) (a2c (.z .s) (a2c (.z .s) a2n)))⟩ (akc ⟨_, _, rfl, rfl, rowB encI_c _⟩ akn)) (fun h => absurd h (by decide))) (alc ⟨rfl, by decide⟩ aln)))) (acal (spec_l11DrawLate.J k x2.2 x2.1 _ hx3) nocal) ?_
  have h := Option.some.inj h
  subst h
  exact .fin' [] [(1000770, 1000770), (2000770, 2000770), (1001027, 1001027)] (.tp [(.ag [(.rf 1000770 0 x2.1.f0.length 1 (x2.1.f0.length * 1)), (.rf 2000770 0 x2.1.f1.length 4 (x2.1.f1.length * 4)), (I x2.1.f2)]), (.rf 1001027 0 x3.1.length 1 (x3.1.length * 1))]) [3 = 3 ∧ 0 + 3 ≤ 3] (alc ⟨rfl, by decide⟩ aln) (shc 1000770 (rowF encI_ok _) (shc 2000770 (rowF e52_ok _) (shc 1001027 (rowF encI_ok _) shn))) (cnv_tp (a2c (cnv_ag (a2c (.rf (memP_mem (p := (1000770, 1000770)) rfl)) (a2c (.rf (memP_mem (p := (2000770, 2000770)) rfl)) (a2c (.z .s) a2n)))) (a2c (.rf (memP_mem (p := (1001027, 1001027)) rfl)) a2n)))
/-! impl_between: function 46 -/
def impl_between.f (a0 : Int) (a1 : Int) (a2 : Int) : Option Bool := (if a0 ≥ a1 then (some (decide (a0 ≤ a2))) else (some false))
theorem impl_between.J (a0 : Int) (a1 : Int) (a2 : Int) (r : Bool) (h : impl_between.f a0 a1 a2 = some r) : J prog (.call 46 [(I a0), (I a1), (I a2)] [] (B r) []) := by
  unfold impl_between.f at h
  refine .call' [c_ 2, c_ 3] ?_
  refine .reg' [0, 1, 2] [] ⟨[(0, (I a0)), (1, (I a1)), (2, (I a2))], [], [], []⟩ [c_ 6, c_ 7] aln nocal ?_
  by_cases c1 : a0 ≥ a1
  · rw [if_pos c1] at h
    refine .reg' [6] [.no, .no, .no, .v (B true)] ⟨[(6, (B (decide (a0 ≤ a2))))], [], [(B (decide (a0 ≥ a1)) : V) = B true], []⟩ [c_ 7] (alc (bT (dT c1)) aln) nocal ?_
    have h := Option.some.inj h
    subst h
    exact .fin0 [] (B (decide (a0 ≤ a2))) [] aln (.z .s)
  · rw [if_neg c1] at h
    refine .reg' [6] [.no, .no, .no, .v (B false)] ⟨[(6, (B false))], [], [(B (decide (a0 ≥ a1)) : V) = B false], []⟩ [c_ 7] (alc (bF (dF c1)) aln) nocal ?_
    have h := Option.some.inj h
    subst h
    exact .fin0 [] (B false) [] aln (.z .s)
/-! impl_isMinute: function 47 -/
def impl_isMinute.f (a0 : Int) : Option Bool := ((impl_between.f a0 0 100000).bind fun x1 => (some x1))
theorem impl_isMinute.J (a0 : Int) (r : Bool) (h : impl_isMinute.f a0 = some r) : J prog (.call 47 [(I a0)] [] (B r) []) := by
  unfold impl_isMinute.f at h
  refine .call' [c_ 2, c_ 3] ?_
  refine .reg' [0] [] ⟨[(0, (I a0))], [], [], []⟩ [c_ 6, c_ 7] aln nocal ?_
  obtain ⟨x1, hx1, h⟩ := Option.bind_eq_some_iff.mp h
  refine .reg' [2] [.no, .c ⟨46, [(I a0), (I 0), (I 100000)], [], (B x1), [], [], [], [], (B x1), []⟩] ⟨[(2, (B x1))], [], [COK (hget []) [(I a0), (I 0), (I 100000)] ⟨46, [(I a0), (I 0), (I 100000)], [], (B x1), [], [], [], [], (B x1), []⟩], [⟨46, [(I a0), (I 0), (I 100000)], [], (B x1), [], [], [], [], (B x1), []⟩]⟩ [c_ 7] (alc (cok0 false (a2c (.z .s) (a2c (.z .s) (a2c (.z .s) a2n))) (.z .s) (fun h => absurd h (by decide))) aln) (acal (impl_between.J a0 0 100000 _ hx1) nocal) ?_
  have h := Option.some.inj h
  subst h
  exact .fin0 [] (B x1) [] aln (.z .s)
/-! impl_WorkOk: function 16 -/
mutual
def impl_WorkOk.l0 : Nat → S29 → Int → Option Bool
 | 0, _, _ => none
 | k + 1, a0, x2 => (if x2 < (a0.f0.length : Int) then (if 0 ≤ x2 then ((impl_isMinute.f (at_ a0.f0 x2)).bind fun x3 => (if x3 = true then (impl_WorkOk.l0 k a0 (wrap64 (x2 + 1))) else (some false))) else none) else (impl_WorkOk.l1 k a0 0))
def impl_WorkOk.l1 : Nat → S29 → Int → Option Bool
 | 0, _, _ => none
 | k + 1, a0, x4 => (if x4 < (a0.f1.length : Int) then (if 0 ≤ x4 then (if (at_ a0.f1 x4).f0 < 0 then (some false) else (if (at_ a0.f1 x4).f0 ≥ (at_ a0.f1 x4).f1 then (some false) else (if (at_ a0.f1 x4).f1 ≥ (a0.f0.length : Int) then (some false) else ((impl_between.f ((at_ a0.f1 x4).f2) 0 1000).bind fun x5 => (if x5 = true then ((impl_between.f ((at_ a0.f1 x4).f3) 0 1).bind fun x6 => (if x6 = true then (if 0 ≤ (at_ a0.f1 x4).f1 then (if (at_ a0.f1 x4).f1 < (a0.f0.length : Int) then (if 0 ≤ (at_ a0.f1 x4).f0 then (if (at_ a0.f1 x4).f0 < (a0.f0.length : Int) then (if (wrap64 ((at_ a0.f0 (at_ a0.f1 x4).f1) - (at_ a0.f0 (at_ a0.f1 x4).f0))) < (at_ a0.f1 x4).f2 then (some false) else (impl_WorkOk.l1 k a0 (wrap64 (x4 + 1)))) else none) else none) else none) else none) else (some false))) else (some false)))))) else none) else (some true))
end
def impl_WorkOk.f (k : Nat) (a0 : S29) : Option Bool := (if (a0.f0.length : Int) > 60 then (some false) else (if (a0.f1.length : Int) > 150 then (some false) else ((impl_between.f a0.f2 0 60).bind fun x1 => (if x1 = true then (impl_WorkOk.l0 k a0 0) else (some false)))))
theorem impl_WorkOk.lab : ∀ k, (∀ (a0 : S29) (x2 : Int) (r : Bool), impl_WorkOk.l0 k a0 x2 = some r → J prog (.run 16 [] [l_ 58, b_ 0, c_ 15] [(1, (.pt 256 0 3)), (24, (.sl true a0.f0.length 1 (a0.f0.flatMap encI))), (25, (I (a0.f0.length : Int))), (26, (I x2))] [(256, [(.sl true a0.f0.length 1 (a0.f0.flatMap encI)), (.sl true a0.f1.length 4 (a0.f1.flatMap e52)), (I a0.f2)])] (B r) [])) ∧ (∀ (a0 : S29) (x4 : Int) (r : Bool), impl_WorkOk.l1 k a0 x4 = some r → J prog (.run 16 [] [l_ 122, b_ 2, c_ 31] [(1, (.pt 256 0 3)), (35, (.sl true a0.f1.length 4 (a0.f1.flatMap e52))), (36, (I (a0.f1.length : Int))), (37, (I x4))] [(256, [(.sl true a0.f0.length 1 (a0.f0.flatMap encI)), (.sl true a0.f1.length 4 (a0.f1.flatMap e52)), (I a0.f2)])] (B r) []))
 | 0 => ⟨(by intro a0 x2 r h; unfold impl_WorkOk.l0 at h; cases h), (by intro a0 x4 r h; unfold impl_WorkOk.l1 at h; cases h)⟩
 | k + 1 => by
  obtain ⟨ih0, ih1⟩ := impl_WorkOk.lab k
  refine ⟨?_, ?_⟩
  · intro a0 x2 r h
    unfold impl_WorkOk.l0 at h
    refine .loop' [c_ 232, c_ 233, l_ 58, b_ 0, c_ 15] ?_
    refine .reg' [1, 24, 25, 26, 27] [] ⟨[(1, (.pt 256 0 3)), (24, (.sl true a0.f0.length 1 (a0.f0.flatMap encI))), (25, (I (a0.f0.length : Int))), (26, (I x2)), (27, (B (decide (x2 < (a0.f0.length : Int)))))], [(256, [(.sl true a0.f0.length 1 (a0.f0.flatMap encI)), (.sl true a0.f1.length 4 (a0.f1.flatMap e52)), (I a0.f2)])], [], []⟩ [c_ 466, c_ 467, l_ 58, b_ 0, c_ 15] aln nocal ?_
    by_cases c4 : x2 < (a0.f0.length : Int)
    · rw [if_pos c4] at h
      refine .cond' (.tmp 27) true [c_ 3736, c_ 3737, b_ 1, c_ 935, l_ 58, b_ 0, c_ 15] (bT (dT c4)) ?_
      by_cases c5 : 0 ≤ x2
      · rw [if_pos c5] at h
        refine .reg' [1, 4, 24, 25, 26] [.no, .v (I (at_ a0.f0 x2))] ⟨[(1, (.pt 256 0 3)), (4, (I (at_ a0.f0 x2))), (24, (.sl true a0.f0.length 1 (a0.f0.flatMap encI))), (25, (I (a0.f0.length : Int))), (26, (I x2))], [(256, [(.sl true a0.f0.length 1 (a0.f0.flatMap encI)), (.sl true a0.f1.length 4 (a0.f1.flatMap e52)), (I a0.f2)])], [(0 : Int) ≤ x2 ∧ x2 < (a0.f0.length : Int), rdC prog 3 ((a0.f0.flatMap encI).drop (x2.toNat * 1)) = (I (at_ a0.f0 x2)), 1 ≤ ((a0.f0.flatMap encI).drop (x2.toNat * 1)).length], []⟩ [c_ 7474, c_ 7475, b_ 1, c_ 935, l_ 58, b_ 0, c_ 15] (alc ⟨c5, c4⟩ (alc (ldC1 encI_ok rfl c5 c4) (alc (okI encI_ok c5 c4 (by decide)) aln))) nocal ?_
        obtain ⟨x3, hx3, h⟩ := Option.bind_eq_some_iff.mp h
        refine .reg' [1, 24, 25, 26, 32] [.no, .c ⟨47, [(I (at_ a0.f0 x2))], [], (B x3), [], [], [], [], (B x3), []⟩] ⟨[(1, (.pt 256 0 3)), (24, (.sl true a0.f0.length 1 (a0.f0.flatMap encI))), (25, (I (a0.f0.length : Int))), (26, (I x2)), (32, (B (!x3)))], [(256, [(.sl true a0.f0.length 1 (a0.f0.flatMap encI)), (.sl true a0.f1.length 4 (a0.f1.flatMap e52)), (I a0.f2)])], [COK (hget [(256, [(.sl true a0.f0.length 1 (a0.f0.flatMap encI)), (.sl true a0.f1.length 4 (a0.f1.flatMap e52)), (I a0.f2)])]) [(I (at_ a0.f0 x2))] ⟨47, [(I (at_ a0.f0 x2))], [], (B x3), [], [], [], [], (B x3), []⟩], [⟨47, [(I (at_ a0.f0 x2))], [], (B x3), [], [], [], [], (B x3), []⟩]⟩ [c_ 7475, b_ 1, c_ 935, l_ 58, b_ 0, c_ 15] (alc (cok0 false (a2c (.z .s) a2n) (.z .s) (fun h => absurd h (by decide))) aln) (acal (impl_isMinute.J (at_ a0.f0 x2) _ hx3) nocal) ?_
        by_cases c6 : x3 = true
        · rw [if_pos c6] at h
          refine .cond' (.tmp 32) false [c_ 935, l_ 58, b_ 0, c_ 15] (bF (nF c6)) ?_
          refine .reg' [1, 24, 25, 26] [] ⟨[(1, (.pt 256 0 3)), (24, (.sl true a0.f0.length 1 (a0.f0.flatMap encI))), (25, (I (a0.f0.length : Int))), (26, (I (wrap64 (x2 + 1))))], [(256, [(.sl true a0.f0.length 1 (a0.f0.flatMap encI)), (.sl true a0.f1.length 4 (a0.f1.flatMap e52)), (I a0.f2)])], [], []⟩ [l_ 58, b_ 0, c_ 15] aln nocal ?_
          exact ih0 a0 (wrap64 (x2 + 1)) _ h
        · rw [if_neg c6] at h
          refine .cond' (.tmp 32) true [c_ 29900, c_ 29901, b_ 1, c_ 935, l_ 58, b_ 0, c_ 15] (bT (nT (vF c6))) ?_
          refine .reg' [2] [] ⟨[(2, (B false))], [(256, [(.sl true a0.f0.length 1 (a0.f0.flatMap encI)), (.sl true a0.f1.length 4 (a0.f1.flatMap e52)), (I a0.f2)])], [], []⟩ [c_ 29901, b_ 1, c_ 935, l_ 58, b_ 0, c_ 15] aln nocal ?_
          have h := Option.some.inj h
          subst h
          exact .fin0 [] (B false) [] aln (.z .s)
      · rw [if_neg c5] at h
        cases h
    · rw [if_neg c4] at h
      refine .cond' (.tmp 27) false [c_ 60, c_ 61, c_ 31] (bF (dF c4)) ?_
      refine .reg' [1, 35, 36, 37] [] ⟨[(1, (.pt 256 0 3)), (35, (.sl true a0.f1.length 4 (a0.f1.flatMap e52))), (36, (I (a0.f1.length : Int))), (37, (I 0))], [(256, [(.sl true a0.f0.length 1 (a0.f0.flatMap encI)), (.sl true a0.f1.length 4 (a0.f1.flatMap e52)), (I a0.f2)])], [3 = 3 ∧ 1 + 1 ≤ 3], []⟩ [l_ 122, b_ 2, c_ 31] (alc ⟨rfl, by decide⟩ aln) nocal ?_
      exact ih1 a0 0 _ h
  · intro a0 x4 r h
    unfold impl_WorkOk.l1 at h
    refine .loop' [c_ 488, c_ 489, l_ 122, b_ 2, c_ 31] ?_
    refine .reg' [1, 35, 36, 37, 38] [] ⟨[(1, (.pt 256 0 3)), (35, (.sl true a0.f1.length 4 (a0.f1.flatMap e52))), (36, (I (a0.f1.length : Int))), (37, (I x4)), (38, (B (decide (x4 < (a0.f1.length : Int)))))], [(256, [(.sl true a0.f0.length 1 (a0.f0.flatMap encI)), (.sl true a0.f1.length 4 (a0.f1.flatMap e52)), (I a0.f2)])], [], []⟩ [c_ 978, c_ 979, l_ 122, b_ 2, c_ 31] aln nocal ?_
    by_cases c7 : x4 < (a0.f1.length : Int)
    · rw [if_pos c7] at h
      refine .cond' (.tmp 38) true [c_ 7832, c_ 7833, b_ 3, c_ 1959, l_ 122, b_ 2, c_ 31] (bT (dT c7)) ?_
      by_cases c8 : 0 ≤ x4
      · rw [if_pos c8] at h
        refine .reg' [1, 6, 35, 36, 37] [.no, .v (.ag [(I (at_ a0.f1 x4).f0), (I (at_ a0.f1 x4).f1), (I (at_ a0.f1 x4).f2), (I (at_ a0.f1 x4).f3)])] ⟨[(1, (.pt 256 0 3)), (6, (.pt 3074 0 4)), (35, (.sl true a0.f1.length 4 (a0.f1.flatMap e52))), (36, (I (a0.f1.length : Int))), (37, (I x4))], [(256, [(.sl true a0.f0.length 1 (a0.f0.flatMap encI)), (.sl true a0.f1.length 4 (a0.f1.flatMap e52)), (I a0.f2)]), (3074, [(I (at_ a0.f1 x4).f0), (I (at_ a0.f1 x4).f1), (I (at_ a0.f1 x4).f2), (I (at_ a0.f1 x4).f3)])], [(0 : Int) ≤ x4 ∧ x4 < (a0.f1.length : Int), rdC prog 53 ((a0.f1.flatMap e52).drop (x4.toNat * 4)) = (.ag [(I (at_ a0.f1 x4).f0), (I (at_ a0.f1 x4).f1), (I (at_ a0.f1 x4).f2), (I (at_ a0.f1 x4).f3)]), 4 ≤ ((a0.f1.flatMap e52).drop (x4.toNat * 4)).length, 4 = 4 ∧ 0 + 4 ≤ 4], []⟩ [c_ 31332, c_ 31333, c_ 15667, b_ 3, c_ 1959, l_ 122, b_ 2, c_ 31] (alc ⟨c8, c7⟩ (alc (ldA e52_ok rfl rfl c8 c7) (alc (okI e52_ok c8 c7 (by decide)) (alc ⟨rfl, by decide⟩ aln)))) nocal ?_
        by_cases c9 : (at_ a0.f1 x4).f0 < 0
        · rw [if_pos c9] at h
          refine .reg' [1, 6, 35, 36, 37, 70] [.no, .no, .no, .v (B true)] ⟨[(1, (.pt 256 0 3)), (6, (.pt 3074 0 4)), (35, (.sl true a0.f1.length 4 (a0.f1.flatMap e52))), (36, (I (a0.f1.length : Int))), (37, (I x4)), (70, (B true))], [(256, [(.sl true a0.f0.length 1 (a0.f0.flatMap encI)), (.sl true a0.f1.length 4 (a0.f1.flatMap e52)), (I a0.f2)]), (3074, [(I (at_ a0.f1 x4).f0), (I (at_ a0.f1 x4).f1), (I (at_ a0.f1 x4).f2), (I (at_ a0.f1 x4).f3)])], [4 = 4 ∧ 0 + 1 ≤ 4, (B (decide ((at_ a0.f1 x4).f0 < 0)) : V) = B true], []⟩ [c_ 31333, c_ 15667, b_ 3, c_ 1959, l_ 122, b_ 2, c_ 31] (alc ⟨rfl, by decide⟩ (alc (bT (dT c9)) aln)) nocal ?_
          refine .cond' (.tmp 70) true [c_ 125332, c_ 125333, c_ 15667, b_ 3, c_ 1959, l_ 122, b_ 2, c_ 31] (rfl) ?_
          refine .reg' [2] [] ⟨[(2, (B false))], [(256, [(.sl true a0.f0.length 1 (a0.f0.flatMap encI)), (.sl true a0.f1.length 4 (a0.f1.flatMap e52)), (I a0.f2)]), (3074, [(I (at_ a0.f1 x4).f0), (I (at_ a0.f1 x4).f1), (I (at_ a0.f1 x4).f2), (I (at_ a0.f1 x4).f3)])], [], []⟩ [c_ 125333, c_ 15667, b_ 3, c_ 1959, l_ 122, b_ 2, c_ 31] aln nocal ?_
          have h := Option.some.inj h
          subst h
          exact .fin0 [] (B false) [] aln (.z .s)
        · rw [if_neg c9] at h
          by_cases c10 : (at_ a0.f1 x4).f0 ≥ (at_ a0.f1 x4).f1
          · rw [if_pos c10] at h
            refine .reg' [1, 6, 35, 36, 37, 70] [.no, .no, .no, .v (B false), .no, .no, .no, .no, .no, .no, .v (B true)] ⟨[(1, (.pt 256 0 3)), (6, (.pt 3074 0 4)), (35, (.sl true a0.f1.length 4 (a0.f1.flatMap e52))), (36, (I (a0.f1.length : Int))), (37, (I x4)), (70, (B true))], [(256, [(.sl true a0.f0.length 1 (a0.f0.flatMap encI)), (.sl true a0.f1.length 4 (a0.f1.flatMap e52)), (I a0.f2)]), (3074, [(I (at_ a0.f1 x4).f0), (I (at_ a0.f1 x4).f1), (I (at_ a0.f1 x4).f2), (I (at_ a0.f1 x4).f3)])], [4 = 4 ∧ 0 + 1 ≤ 4, (B (decide ((at_ a0.f1 x4).f0 < 0)) : V) = B false, 4 = 4 ∧ 0 + 1 ≤ 4, 4 = 4 ∧ 1 + 1 ≤ 4, (B (decide ((at_ a0.f1 x4).f0 ≥ (at_ a0.f1 x4).f1)) : V) = B true], []⟩ [c_ 31333, c_ 15667, b_ 3, c_ 1959, l_ 122, b_ 2, c_ 31] (alc ⟨rfl, by decide⟩ (alc (bF (dF c9)) (alc ⟨rfl, by decide⟩ (alc ⟨rfl, by decide⟩ (alc (bT (dT c10)) aln))))) nocal ?_
            refine .cond' (.tmp 70) true [c_ 125332, c_ 125333, c_ 15667, b_ 3, c_ 1959, l_ 122, b_ 2, c_ 31] (rfl) ?_
            refine .reg' [2] [] ⟨[(2, (B false))], [(256, [(.sl true a0.f0.length 1 (a0.f0.flatMap encI)), (.sl true a0.f1.length 4 (a0.f1.flatMap e52)), (I a0.f2)]), (3074, [(I (at_ a0.f1 x4).f0), (I (at_ a0.f1 x4).f1), (I (at_ a0.f1 x4).f2), (I (at_ a0.f1 x4).f3)])], [], []⟩ [c_ 125333, c_ 15667, b_ 3, c_ 1959, l_ 122, b_ 2, c_ 31] aln nocal ?_
            have h := Option.some.inj h
            subst h
            exact .fin0 [] (B false) [] aln (.z .s)
          · rw [if_neg c10] at h
            by_cases c11 : (at_ a0.f1 x4).f1 ≥ (a0.f0.length : Int)
            · rw [if_pos c11] at h
              refine .reg' [1, 6, 35, 36, 37, 70] [.no, .no, .no, .v (B false), .no, .no, .no, .no, .no, .no, .v (B false), .no, .no, .no, .no, .no, .no, .no, .v (B true)] ⟨[(1, (.pt 256 0 3)), (6, (.pt 3074 0 4)), (35, (.sl true a0.f1.length 4 (a0.f1.flatMap e52))), (36, (I (a0.f1.length : Int))), (37, (I x4)), (70, (B true))], [(256, [(.sl true a0.f0.length 1 (a0.f0.flatMap encI)), (.sl true a0.f1.length 4 (a0.f1.flatMap e52)), (I a0.f2)]), (3074, [(I (at_ a0.f1 x4).f0), (I (at_ a0.f1 x4).f1), (I (at_ a0.f1 x4).f2), (I (at_ a0.f1 x4).f3)])], [4 = 4 ∧ 0 + 1 ≤ 4, (B (decide ((at_ a0.f1 x4).f0 < 0)) : V) = B false, 4 = 4 ∧ 0 + 1 ≤ 4, 4 = 4 ∧ 1 + 1 ≤ 4, (B (decide ((at_ a0.f1 x4).f0 ≥ (at_ a0.f1 x4).f1)) : V) = B false, 4 = 4 ∧ 1 + 1 ≤ 4, 3 = 3 ∧ 0 + 1 ≤ 3, (B (decide ((at_ a0.f1 x4).f1 ≥ (a0.f0.length : Int))) : V) = B true], []⟩ [c_ 31333, c_ 15667, b_ 3, c_ 1959, l_ 122, b_ 2, c_ 31] (alc ⟨rfl, by decide⟩ (alc (bF (dF c9)) (alc ⟨rfl, by decide⟩ (alc ⟨rfl, by decide⟩ (alc (bF (dF c10)) (alc ⟨rfl, by decide⟩ (alc ⟨rfl, by decide⟩ (alc (bT (dT c11)) aln)))))))) nocal ?_
              refine .cond' (.tmp 70) true [c_ 125332, c_ 125333, c_ 15667, b_ 3, c_ 1959, l_ 122, b_ 2, c_ 31] (rfl) ?_
              refine .reg' [2] [] ⟨[(2, (B false))], [(256, [(.sl true a0.f0.length 1 (a0.f0.flatMap encI)), (.sl true a0.f1.length 4 (a0.f1.flatMap e52)), (I a0.f2)]), (3074, [(I (at_ a0.f1 x4).f0), (I (at_ a0.f1 x4).f1), (I (at_ a0.f1 x4).f2), (I (at_ a0.f1 x4).f3)])], [], []⟩ [c_ 125333, c_ 15667, b_ 3, c_ 1959, l_ 122, b_ 2, c_ 31] aln nocal ?_
              have h := Option.some.inj h
              subst h
              exact .fin0 [] (B false) [] aln (.z .s)
            · rw [if_neg c11] at h
              obtain ⟨x5, hx5, h⟩ := Option.bind_eq_some_iff.mp h
              by_cases c12 : x5 = true
              · rw [if_pos c12] at h
                obtain ⟨x6, hx6, h⟩ := Option.bind_eq_some_iff.mp h
                refine .reg' [1, 6, 35, 36, 37, 70] [.no, .no, .no, .v (B false), .no, .no, .no, .no, .no, .no, .v (B false), .no, .no, .no, .no, .no, .no, .no, .v (B false), .no, .no, .c ⟨46, [(I (at_ a0.f1 x4).f2), (I 0), (I 1000)], [], (B x5), [], [], [], [], (B x5), []⟩, .no, .no, .v (B false), .no, .no, .c ⟨46, [(I (at_ a0.f1 x4).f3), (I 0), (I 1)], [], (B x6), [], [], [], [], (B x6), []⟩] ⟨[(1, (.pt 256 0 3)), (6, (.pt 3074 0 4)), (35, (.sl true a0.f1.length 4 (a0.f1.flatMap e52))), (36, (I (a0.f1.length : Int))), (37, (I x4)), (70, (B (!x6)))], [(256, [(.sl true a0.f0.length 1 (a0.f0.flatMap encI)), (.sl true a0.f1.length 4 (a0.f1.flatMap e52)), (I a0.f2)]), (3074, [(I (at_ a0.f1 x4).f0), (I (at_ a0.f1 x4).f1), (I (at_ a0.f1 x4).f2), (I (at_ a0.f1 x4).f3)])], [4 = 4 ∧ 0 + 1 ≤ 4, (B (decide ((at_ a0.f1 x4).f0 < 0)) : V) = B false, 4 = 4 ∧ 0 + 1 ≤ 4, 4 = 4 ∧ 1 + 1 ≤ 4, (B (decide ((at_ a0.f1 x4).f0 ≥ (at_ a0.f1 x4).f1)) : V) = B false, 4 = 4 ∧ 1 + 1 ≤ 4, 3 = 3 ∧ 0 + 1 ≤ 3, (B (decide ((at_ a0.f1 x4).f1 ≥ (a0.f0.length : Int))) : V) = B false, 4 = 4 ∧ 2 + 1 ≤ 4, COK (hget [(256, [(.sl true a0.f0.length 1 (a0.f0.flatMap encI)), (.sl true a0.f1.length 4 (a0.f1.flatMap e52)), (I a0.f2)]), (3074, [(I (at_ a0.f1 x4).f0), (I (at_ a0.f1 x4).f1), (I (at_ a0.f1 x4).f2), (I (at_ a0.f1 x4).f3)])]) [(I (at_ a0.f1 x4).f2), (I 0), (I 1000)] ⟨46, [(I (at_ a0.f1 x4).f2), (I 0), (I 1000)], [], (B x5), [], [], [], [], (B x5), []⟩, (B (!x5) : V) = B false, 4 = 4 ∧ 3 + 1 ≤ 4, COK (hget [(256, [(.sl true a0.f0.length 1 (a0.f0.flatMap encI)), (.sl true a0.f1.length 4 (a0.f1.flatMap e52)), (I a0.f2)]), (3074, [(I (at_ a0.f1 x4).f0), (I (at_ a0.f1 x4).f1), (I (at_ a0.f1 x4).f2), (I (at_ a0.f1 x4).f3)])]) [(I (at_ a0.f1 x4).f3), (I 0), (I 1)] ⟨46, [(I (at_ a0.f1 x4).f3), (I 0), (I 1)], [], (B x6), [], [], [], [], (B x6), []⟩], [⟨46, [(I (at_ a0.f1 x4).f2), (I 0), (I 1000)], [], (B x5), [], [], [], [], (B x5), []⟩, ⟨46, [(I (at_ a0.f1 x4).f3), (I 0), (I 1)], [], (B x6), [], [], [], [], (B x6), []⟩]⟩ [c_ 31333, c_ 15667, b_ 3, c_ 1959, l_ 122, b_ 2, c_ 31] (alc ⟨rfl, by decide⟩ (alc (bF (dF c9)) (alc ⟨rfl, by decide⟩ (alc ⟨rfl, by decide⟩ (alc (bF (dF c10)) (alc ⟨rfl, by decide⟩ (alc ⟨rfl, by decide⟩ (alc (bF (dF c11)) (alc ⟨rfl, by decide⟩ (alc (cok0 false (a2c (.z .s) (a2c (.z .s) (a2c (.z .s) a2n))) (.z .s) (fun h => absurd h (by decide))) (alc (bF (nF c12)) (alc ⟨rfl, by decide⟩ (alc (cok0 false (a2c (.z .s) (a2c (.z .s) (a2c (.z .s) a2n))) (.z .s) (fun h => absurd h (by decide))) aln))))))))))))) (acal (impl_between.J ((at_ a0.f1 x4).f2) 0 1000 _ hx5) (acal (impl_between.J ((at_ a0.f1 x4).f3) 0 1 _ hx6) nocal)) ?_
                by_cases c13 : x6 = true
                · rw [if_pos c13] at h
                  refine .cond' (.tmp 70) false [c_ 31334, c_ 31335, b_ 3, c_ 1959, l_ 122, b_ 2, c_ 31] (bF (nF c13)) ?_
                  by_cases c14 : 0 ≤ (at_ a0.f1 x4).f1
                  · rw [if_pos c14] at h
                    by_cases c15 : (at_ a0.f1 x4).f1 < (a0.f0.length : Int)
                    · rw [if_pos c15] at h
                      by_cases c16 : 0 ≤ (at_ a0.f1 x4).f0
                      · rw [if_pos c16] at h
                        by_cases c17 : (at_ a0.f1 x4).f0 < (a0.f0.length : Int)
                        · rw [if_pos c17] at h
                          refine .reg' [1, 35, 36, 37, 86] [.no, .no, .no, .no, .no, .v (I (at_ a0.f0 (at_ a0.f1 x4).f1)), .no, .no, .no, .no, .no, .v (I (at_ a0.f0 (at_ a0.f1 x4).f0))] ⟨[(1, (.pt 256 0 3)), (35, (.sl true a0.f1.length 4 (a0.f1.flatMap e52))), (36, (I (a0.f1.length : Int))), (37, (I x4)), (86, (B (decide ((wrap64 ((at_ a0.f0 (at_ a0.f1 x4).f1) - (at_ a0.f0 (at_ a0.f1 x4).f0))) < (at_ a0.f1 x4).f2))))], [(256, [(.sl true a0.f0.length 1 (a0.f0.flatMap encI)), (.sl true a0.f1.length 4 (a0.f1.flatMap e52)), (I a0.f2)]), (3074, [(I (at_ a0.f1 x4).f0), (I (at_ a0.f1 x4).f1), (I (at_ a0.f1 x4).f2), (I (at_ a0.f1 x4).f3)])], [3 = 3 ∧ 0 + 1 ≤ 3, 4 = 4 ∧ 1 + 1 ≤ 4, (0 : Int) ≤ (at_ a0.f1 x4).f1 ∧ (at_ a0.f1 x4).f1 < (a0.f0.length : Int), rdC prog 3 ((a0.f0.flatMap encI).drop ((at_ a0.f1 x4).f1.toNat * 1)) = (I (at_ a0.f0 (at_ a0.f1 x4).f1)), 1 ≤ ((a0.f0.flatMap encI).drop ((at_ a0.f1 x4).f1.toNat * 1)).length, 3 = 3 ∧ 0 + 1 ≤ 3, 4 = 4 ∧ 0 + 1 ≤ 4, (0 : Int) ≤ (at_ a0.f1 x4).f0 ∧ (at_ a0.f1 x4).f0 < (a0.f0.length : Int), rdC prog 3 ((a0.f0.flatMap encI).drop ((at_ a0.f1 x4).f0.toNat * 1)) = (I (at_ a0.f0 (at_ a0.f1 x4).f0)), 1 ≤ ((a0.f0.flatMap encI).drop ((at_ a0.f1 x4).f0.toNat * 1)).length, 4 = 4 ∧ 2 + 1 ≤ 4], []⟩ [c_ 31335, b_ 3, c_ 1959, l_ 122, b_ 2, c_ 31] (alc ⟨rfl, by decide⟩ (alc ⟨rfl, by decide⟩ (alc ⟨c14, c15⟩ (alc (ldC1 encI_ok rfl c14 c15) (alc (okI encI_ok c14 c15 (by decide)) (alc ⟨rfl, by decide⟩ (alc ⟨rfl, by decide⟩ (alc ⟨c16, c17⟩ (alc (ldC1 encI_ok rfl c16 c17) (alc (okI encI_ok c16 c17 (by decide)) (alc ⟨rfl, by decide⟩ aln))))))))))) nocal ?_
                          by_cases c18 : (wrap64 ((at_ a0.f0 (at_ a0.f1 x4).f1) - (at_ a0.f0 (at_ a0.f1 x4).f0))) < (at_ a0.f1 x4).f2
                          · rw [if_pos c18] at h
                            refine .cond' (.tmp 86) true [c_ 125340, c_ 125341, b_ 3, c_ 1959, l_ 122, b_ 2, c_ 31] (bT (dT c18)) ?_
                            refine .reg' [2] [] ⟨[(2, (B false))], [(256, [(.sl true a0.f0.length 1 (a0.f0.flatMap encI)), (.sl true a0.f1.length 4 (a0.f1.flatMap e52)), (I a0.f2)]), (3074, [(I (at_ a0.f1 x4).f0), (I (at_ a0.f1 x4).f1), (I (at_ a0.f1 x4).f2), (I (at_ a0.f1 x4).f3)])], [], []⟩ [c_ 125341, b_ 3, c_ 1959, l_ 122, b_ 2, c_ 31] aln nocal ?_
                            have h := Option.some.inj h
                            subst h
                            exact .fin0 [] (B false) [] aln (.z .s)
                          · rw [if_neg c18] at h
                            refine .cond' (.tmp 86) false [c_ 1959, l_ 122, b_ 2, c_ 31] (bF (dF c18)) ?_
                            refine .reg' [1, 35, 36, 37] [] ⟨[(1, (.pt 256 0 3)), (35, (.sl true a0.f1.length 4 (a0.f1.flatMap e52))), (36, (I (a0.f1.length : Int))), (37, (I (wrap64 (x4 + 1))))], [(256, [(.sl true a0.f0.length 1 (a0.f0.flatMap encI)), (.sl true a0.f1.length 4 (a0.f1.flatMap e52)), (I a0.f2)]), (3074, [(I (at_ a0.f1 x4).f0), (I (at_ a0.f1 x4).f1), (I (at_ a0.f1 x4).f2), (I (at_ a0.f1 x4).f3)])], [], []⟩ [l_ 122, b_ 2, c_ 31] aln nocal ?_
                            refine .wk' [] [(256, 256)] [(1, (.pt 256 0 3)), (35, (.sl true a0.f1.length 4 (a0.f1.flatMap e52))), (36, (I (a0.f1.length : Int))), (37, (I (wrap64 (x4 + 1))))] [(256, [(.sl true a0.f0.length 1 (a0.f0.flatMap encI)), (.sl true a0.f1.length 4 (a0.f1.flatMap e52)), (I a0.f2)])] (shc 256 (a2c (.z (frz_sl encI_ok (fun h => h))) (a2c (.z (frz_sl e52_ok (fun h => h))) (a2c (.z .s) a2n))) shn) (enc_ (.pt (memP_mem (p := (256, 256)) rfl)) (enc_ (.z (frz_sl e52_ok (fun h => h))) (enc_ (.z .s) (enc_ (.z .s) enn)))) ?_
                            exact ih1 a0 (wrap64 (x4 + 1)) _ h
                        · rw [if_neg c17] at h
                          cases h
                      · rw [if_neg c16] at h
                        cases h
                    · rw [if_neg c15] at h
                      cases h
                  · rw [if_neg c14] at h
                    cases h
                · rw [if_neg c13] at h
                  refine .cond' (.tmp 70) true [c_ 125332, c_ 125333, c_ 15667, b_ 3, c_ 1959, l_ 122, b_ 2, c_ 31] (bT (nT (vF c13))) ?_
                  refine .reg' [2] [] ⟨[(2, (B false))], [(256, [(.sl true a0.f0.length 1 (a0.f0.flatMap encI)), (.sl true a0.f1.length 4 (a0.f1.flatMap e52)), (I a0.f2)]), (3074, [(I (at_ a0.f1 x4).f0), (I (at_ a0.f1 x4).f1), (I (at_ a0.f1 x4).f2), (I (at_ a0.f1 x4).f3)])], [], []⟩ [c_ 125333, c_ 15667, b_ 3, c_ 1959, l_ 122, b_ 2, c_ 31] aln nocal ?_
                  have h := Option.some.inj h
                  subst h
                  exact .fin0 [] (B false) [] aln (.z .s)
              · rw [if_neg c12] at h
                refine .reg' [1, 6, 35, 36, 37, 70] [.no, .no, .no, .v (B false), .no, .no, .no, .no, .no, .no, .v (B false), .no, .no, .no, .no, .no, .no, .no, .v (B false), .no, .no, .c ⟨46, [(I (at_ a0.f1 x4).f2), (I 0), (I 1000)], [], (B x5), [], [], [], [], (B x5), []⟩, .no, .no, .v (B true)] ⟨[(1, (.pt 256 0 3)), (6, (.pt 3074 0 4)), (35, (.sl true a0.f1.length 4 (a0.f1.flatMap e52))), (36, (I (a0.f1.length : Int))), (37, (I x4)), (70, (B true))], [(256, [(.sl true a0.f0.length 1 (a0.f0.flatMap encI)), (.sl true a0.f1.length 4 (a0.f1.flatMap e52)), (I a0.f2)]), (3074, [(I (at_ a0.f1 x4).f0), (I (at_ a0.f1 x4).f1), (I (at_ a0.f1 x4).f2), (I (at_ a0.f1 x4).f3)])], [4 = 4 ∧ 0 + 1 ≤ 4, (B (decide ((at_ a0.f1 x4).f0 < 0)) : V) = B false, 4 = 4 ∧ 0 + 1 ≤ 4, 4 = 4 ∧ 1 + 1 ≤ 4, (B (decide ((at_ a0.f1 x4).f0 ≥ (at_ a0.f1 x4).f1)) : V) = B false, 4 = 4 ∧ 1 + 1 ≤ 4, 3 = 3 ∧ 0 + 1 ≤ 3, (B (decide ((at_ a0.f1 x4).f1 ≥ (a0.f0.length : Int))) : V) = B false, 4 = 4 ∧ 2 + 1 ≤ 4, COK (hget [(256, [(.sl true a0.f0.length 1 (a0.f0.flatMap encI)), (.sl true a0.f1.length 4 (a0.f1.flatMap e52)), (I a0.f2)]), (3074, [(I (at_ a0.f1 x4).f0), (I (at_ a0.f1 x4).f1), (I (at_ a0.f1 x4).f2), (I (at_ a0.f1 x4).f3)])]) [(I (at_ a0.f1 x4).f2), (I 0), (I 1000)] ⟨46, [(I (at_ a0.f1 x4).f2), (I 0), (I 1000)], [], (B x5), [], [], [], [], (B x5), []⟩, (B (!x5) : V) = B true], [⟨46, [(I (at_ a0.f1 x4).f2), (I 0), (I 1000)], [], (B x5), [], [], [], [], (B x5), []⟩]⟩ [c_ 31333, c_ 15667, b_ 3, c_ 1959, l_ 122, b_ 2, c_ 31] (alc ⟨rfl, by decide⟩ (alc (bF (dF c9)) (alc ⟨rfl, by decide⟩ (alc ⟨rfl, by decide⟩ (alc (bF (dF c10)) (alc ⟨rfl, by decide⟩ (alc ⟨rfl, by decide⟩ (alc (bF (dF c11)) (alc ⟨rfl, by decide⟩ (alc (cok0 false (a2c (.z .s) (a2c (.z .s) (a2c (.z .s) a2n))) (.z .s) (fun h => absurd h (by decide))) (alc (bT (nT (vF c12))) aln))))))))))) (acal (impl_between.J ((at_ a0.f1 x4).f2) 0 1000 _ hx5) nocal) ?_
                refine .cond' (.tmp 70) true [c_ 125332, c_ 125333, c_ 15667, b_ 3, c_ 1959, l_ 122, b_ 2, c_ 31] (rfl) ?_
                refine .reg' [2] [] ⟨[(2, (B false))], [(256, [(.sl true a0.f0.length 1 (a0.f0.flatMap encI)), (.sl true a0.f1.length 4 (a0.f1.flatMap e52)), (I a0.f2)]), (3074, [(I (at_ a0.f1 x4).f0), (I (at_ a0.f1 x4).f1), (I (at_ a0.f1 x4).f2), (I (at_ a0.f1 x4).f3)])], [], []⟩ [c_ 125333, c_ 15667, b_ 3, c_ 1959, l_ 122, b_ 2, c_ 31] aln nocal ?_
                have h := Option.some.inj h
                subst h
                exact .fin0 [] (B false) [] aln (.z .s)
      · rw [if_neg c8] at h
        cases h
    · rw [if_neg c7] at h
      refine .cond' (.tmp 38) false [c_ 62, c_ 63] (bF (dF c7)) ?_
      refine .reg' [2] [] ⟨[(2, (B true))], [(256, [(.sl true a0.f0.length 1 (a0.f0.flatMap encI)), (.sl true a0.f1.length 4 (a0.f1.flatMap e52)), (I a0.f2)])], [], []⟩ [c_ 63] aln nocal ?_
      have h := Option.some.inj h
      subst h
      exact .fin0 [] (B true) [] aln (.z .s)
theorem impl_WorkOk.J (k : Nat) (a0 : S29) (r : Bool) (h : impl_WorkOk.f k a0 = some r) : J prog (.call 16 [(.ag [(.sl true a0.f0.length 1 (a0.f0.flatMap encI)), (.sl true a0.f1.length 4 (a0.f1.flatMap e52)), (I a0.f2)])] [] (B r) []) := by
  unfold impl_WorkOk.f at h
  obtain ⟨ih0, ih1⟩ := impl_WorkOk.lab k
  refine .call' [c_ 2, c_ 3] ?_
  refine .reg' [1] [] ⟨[(1, (.pt 256 0 3))], [(256, [(.sl true a0.f0.length 1 (a0.f0.flatMap encI)), (.sl true a0.f1.length 4 (a0.f1.flatMap e52)), (I a0.f2)])], [], []⟩ [c_ 12, c_ 13, c_ 7] aln nocal ?_
  by_cases c1 : (a0.f0.length : Int) > 60
  · rw [if_pos c1] at h
    refine .reg' [1, 22] [.no, .no, .no, .no, .v (B true)] ⟨[(1, (.pt 256 0 3)), (22, (B true))], [(256, [(.sl true a0.f0.length 1 (a0.f0.flatMap encI)), (.sl true a0.f1.length 4 (a0.f1.flatMap e52)), (I a0.f2)])], [3 = 3 ∧ 0 + 1 ≤ 3, (B (decide ((a0.f0.length : Int) > 60)) : V) = B true], []⟩ [c_ 13, c_ 7] (alc ⟨rfl, by decide⟩ (alc (bT (dT c1)) aln)) nocal ?_
    refine .cond' (.tmp 22) true [c_ 52, c_ 53, c_ 7] (rfl) ?_
    refine .reg' [2] [] ⟨[(2, (B false))], [(256, [(.sl true a0.f0.length 1 (a0.f0.flatMap encI)), (.sl true a0.f1.length 4 (a0.f1.flatMap e52)), (I a0.f2)])], [], []⟩ [c_ 53, c_ 7] aln nocal ?_
    have h := Option.some.inj h
    subst h
    exact .fin0 [] (B false) [] aln (.z .s)
  · rw [if_neg c1] at h
    by_cases c2 : (a0.f1.length : Int) > 150
    · rw [if_pos c2] at h
      refine .reg' [1, 22] [.no, .no, .no, .no, .v (B false), .no, .no, .no, .no, .no, .v (B true)] ⟨[(1, (.pt 256 0 3)), (22, (B true))], [(256, [(.sl true a0.f0.length 1 (a0.f0.flatMap encI)), (.sl true a0.f1.length 4 (a0.f1.flatMap e52)), (I a0.f2)])], [3 = 3 ∧ 0 + 1 ≤ 3, (B (decide ((a0.f0.length : Int) > 60)) : V) = B false, 3 = 3 ∧ 1 + 1 ≤ 3, (B (decide ((a0.f1.length : Int) > 150)) : V) = B true], []⟩ [c_ 13, c_ 7] (alc ⟨rfl, by decide⟩ (alc (bF (dF c1)) (alc ⟨rfl, by decide⟩ (alc (bT (dT c2)) aln)))) nocal ?_
      refine .cond' (.tmp 22) true [c_ 52, c_ 53, c_ 7] (rfl) ?_
      refine .reg' [2] [] ⟨[(2, (B false))], [(256, [(.sl true a0.f0.length 1 (a0.f0.flatMap encI)), (.sl true a0.f1.length 4 (a0.f1.flatMap e52)), (I a0.f2)])], [], []⟩ [c_ 53, c_ 7] aln nocal ?_
      have h := Option.some.inj h
      subst h
      exact .fin0 [] (B false) [] aln (.z .s)
    · rw [if_neg c2] at h
      obtain ⟨x1, hx1, h⟩ := Option.bind_eq_some_iff.mp h
      refine .reg' [1, 22] [.no, .no, .no, .no, .v (B false), .no, .no, .no, .no, .no, .v (B false), .no, .no, .c ⟨46, [(I a0.f2), (I 0), (I 60)], [], (B x1), [], [], [], [], (B x1), []⟩] ⟨[(1, (.pt 256 0 3)), (22, (B (!x1)))], [(256, [(.sl true a0.f0.length 1 (a0.f0.flatMap encI)), (.sl true a0.f1.length 4 (a0.f1.flatMap e52)), (I a0.f2)])], [3 = 3 ∧ 0 + 1 ≤ 3, (B (decide ((a0.f0.length : Int) > 60)) : V) = B false, 3 = 3 ∧ 1 + 1 ≤ 3, (B (decide ((a0.f1.length : Int) > 150)) : V) = B false, 3 = 3 ∧ 2 + 1 ≤ 3, COK (hget [(256, [(.sl true a0.f0.length 1 (a0.f0.flatMap encI)), (.sl true a0.f1.length 4 (a0.f1.flatMap e52)), (I a0.f2)])]) [(I a0.f2), (I 0), (I 60)] ⟨46, [(I a0.f2), (I 0), (I 60)], [], (B x1), [], [], [], [], (B x1), []⟩], [⟨46, [(I a0.f2), (I 0), (I 60)], [], (B x1), [], [], [], [], (B x1), []⟩]⟩ [c_ 13, c_ 7] (alc ⟨rfl, by decide⟩ (alc (bF (dF c1)) (alc ⟨rfl, by decide⟩ (alc (bF (dF c2)) (alc ⟨rfl, by decide⟩ (alc (cok0 false (a2c (.z .s) (a2c (.z .s) (a2c (.z .s) a2n))) (.z .s) (fun h => absurd h (by decide))) aln)))))) (acal (impl_between.J a0.f2 0 60 _ hx1) nocal) ?_
      by_cases c3 : x1 = true
      · rw [if_pos c3] at h
        refine .cond' (.tmp 22) false [c_ 28, c_ 29, c_ 15] (bF (nF c3)) ?_
        refine .reg' [1, 24, 25, 26] [] ⟨[(1, (.pt 256 0 3)), (24, (.sl true a0.f0.length 1 (a0.f0.flatMap encI))), (25, (I (a0.f0.length : Int))), (26, (I 0))], [(256, [(.sl true a0.f0.length 1 (a0.f0.flatMap encI)), (.sl true a0.f1.length 4 (a0.f1.flatMap e52)), (I a0.f2)])], [3 = 3 ∧ 0 + 1 ≤ 3], []⟩ [l_ 58, b_ 0, c_ 15] (alc ⟨rfl, by decide⟩ aln) nocal ?_
        exact ih0 a0 0 _ h
      · rw [if_neg c3] at h
        refine .cond' (.tmp 22) true [c_ 52, c_ 53, c_ 7] (bT (nT (vF c3))) ?_
        refine .reg' [2] [] ⟨[(2, (B false))], [(256, [(.sl true a0.f0.length 1 (a0.f0.flatMap encI)), (.sl true a0.f1.length 4 (a0.f1.flatMap e52)), (I a0.f2)])], [], []⟩ [c_ 53, c_ 7] aln nocal ?_
        have h := Option.some.inj h
        subst h
        exact .fin0 [] (B false) [] aln (.z .s)
/-! impl_playable: function 51 -/
def impl_playable.l0 : Nat → (List Int) → Int → Option Bool
 | 0, _, _ => none
 | k + 1, a1, x2 => (if x2 < (a1.length : Int) then (if 0 ≤ x2 then ((impl_between.f (at_ a1 x2) 0 10000).bind fun x3 => (if x3 = true then (impl_playable.l0 k a1 (wrap64 (x2 + 1))) else (some false))) else none) else (some true))
def impl_playable.f (k : Nat) (a0 : S29) (a1 : (List Int)) : Option Bool := ((impl_WorkOk.f k a0).bind fun x1 => (if x1 = true then (if (a1.length : Int) = (a0.f0.length : Int) then (impl_playable.l0 k a1 0) else (some false)) else (some false)))
theorem impl_playable.lab : ∀ k, (∀ (a1 : (List Int)) (x2 : Int) (r : Bool), impl_playable.l0 k a1 x2 = some r → J prog (.run 51 [] [l_ 58, b_ 0, c_ 15] [(18, (.sl true a1.length 1 (a1.flatMap encI))), (19, (I (a1.length : Int))), (20, (I x2))] [] (B r) []))
 | 0 => (by intro a1 x2 r h; unfold impl_playable.l0 at h; cases h)
 | k + 1 => by
  have ih0 := impl_playable.lab k
  · intro a1 x2 r h
    unfold impl_playable.l0 at h
    refine .loop' [c_ 232, c_ 233, l_ 58, b_ 0, c_ 15] ?_
    refine .reg' [18, 19, 20, 21] [] ⟨[(18, (.sl true a1.length 1 (a1.flatMap encI))), (19, (I (a1.length : Int))), (20, (I x2)), (21, (B (decide (x2 < (a1.length : Int)))))], [], [], []⟩ [c_ 466, c_ 467, l_ 58, b_ 0, c_ 15] aln nocal ?_
    by_cases c3 : x2 < (a1.length : Int)
    · rw [if_pos c3] at h
      refine .cond' (.tmp 21) true [c_ 3736, c_ 3737, b_ 1, c_ 935, l_ 58, b_ 0, c_ 15] (bT (dT c3)) ?_
      by_cases c4 : 0 ≤ x2
      · rw [if_pos c4] at h
        refine .reg' [6, 18, 19, 20] [.no, .v (I (at_ a1 x2))] ⟨[(6, (I (at_ a1 x2))), (18, (.sl true a1.length 1 (a1.flatMap encI))), (19, (I (a1.length : Int))), (20, (I x2))], [], [(0 : Int) ≤ x2 ∧ x2 < (a1.length : Int), rdC prog 3 ((a1.flatMap encI).drop (x2.toNat * 1)) = (I (at_ a1 x2)), 1 ≤ ((a1.flatMap encI).drop (x2.toNat * 1)).length], []⟩ [c_ 7474, c_ 7475, b_ 1, c_ 935, l_ 58, b_ 0, c_ 15] (alc ⟨c4, c3⟩ (alc (ldC1 encI_ok rfl c4 c3) (alc (okI encI_ok c4 c3 (by decide)) aln))) nocal ?_
        obtain ⟨x3, hx3, h⟩ := Option.bind_eq_some_iff.mp h
        refine .reg' [18, 19, 20, 26] [.no, .c ⟨46, [(I (at_ a1 x2)), (I 0), (I 10000)], [], (B x3), [], [], [], [], (B x3), []⟩] ⟨[(18, (.sl true a1.length 1 (a1.flatMap encI))), (19, (I (a1.length : Int))), (20, (I x2)), (26, (B (!x3)))], [], [COK (hget []) [(I (at_ a1 x2)), (I 0), (I 10000)] ⟨46, [(I (at_ a1 x2)), (I 0), (I 10000)], [], (B x3), [], [], [], [], (B x3), []⟩], [⟨46, [(I (at_ a1 x2)), (I 0), (I 10000)], [], (B x3), [], [], [], [], (B x3), []⟩]⟩ [c_ 7475, b_ 1, c_ 935, l_ 58, b_ 0, c_ 15] (alc (cok0 false (a2c (.z .s) (a2c (.z .s) (a2c (.z .s) a2n))) (.z .s) (fun h => absurd h (by decide))) aln) (acal (impl_between.J (at_ a1 x2) 0 10000 _ hx3) nocal) ?_
        by_cases c5 : x3 = true
        · rw [if_pos c5] at h
          refine .cond' (.tmp 26) false [c_ 935, l_ 58, b_ 0, c_ 15] (bF (nF c5)) ?_
          refine .reg' [18, 19, 20] [] ⟨[(18, (.sl true a1.length 1 (a1.flatMap encI))), (19, (I (a1.length : Int))), (20, (I (wrap64 (x2 + 1))))], [], [], []⟩ [l_ 58, b_ 0, c_ 15] aln nocal ?_
          exact ih0 a1 (wrap64 (x2 + 1)) _ h
        · rw [if_neg c5] at h
          refine .cond' (.tmp 26) true [c_ 29900, c_ 29901, b_ 1, c_ 935, l_ 58, b_ 0, c_ 15] (bT (nT (vF c5))) ?_
          refine .reg' [4] [] ⟨[(4, (B false))], [], [], []⟩ [c_ 29901, b_ 1, c_ 935, l_ 58, b_ 0, c_ 15] aln nocal ?_
          have h := Option.some.inj h
          subst h
          exact .fin0 [] (B false) [] aln (.z .s)
      · rw [if_neg c4] at h
        cases h
    · rw [if_neg c3] at h
      refine .cond' (.tmp 21) false [c_ 30, c_ 31] (bF (dF c3)) ?_
      refine .reg' [4] [] ⟨[(4, (B true))], [], [], []⟩ [c_ 31] aln nocal ?_
      have h := Option.some.inj h
      subst h
      exact .fin0 [] (B true) [] aln (.z .s)
theorem impl_playable.J (k : Nat) (a0 : S29) (a1 : (List Int)) (r : Bool) (h : impl_playable.f k a0 a1 = some r) : J prog (.call 51 [(.ag [(.sl true a0.f0.length 1 (a0.f0.flatMap encI)), (.sl true a0.f1.length 4 (a0.f1.flatMap e52)), (I a0.f2)]), (.sl true a1.length 1 (a1.flatMap encI))] [] (B r) []) := by
  unfold impl_playable.f at h
  have ih0 := impl_playable.lab k
  refine .call' [c_ 2, c_ 3] ?_
  refine .reg' [1, 2] [] ⟨[(1, (.sl true a1.length 1 (a1.flatMap encI))), (2, (.pt 256 0 3))], [(256, [(.sl true a0.f0.length 1 (a0.f0.flatMap encI)), (.sl true a0.f1.length 4 (a0.f1.flatMap e52)), (I a0.f2)])], [], []⟩ [c_ 12, c_ 13, c_ 7] aln nocal ?_
  obtain ⟨x1, hx1, h⟩ := Option.bind_eq_some_iff.mp h
  by_cases c1 : x1 = true
  · rw [if_pos c1] at h
    refine .reg' [1, 17] [.no, .c ⟨16, [(.ag [(.sl true a0.f0.length 1 (a0.f0.flatMap encI)), (.sl true a0.f1.length 4 (a0.f1.flatMap e52)), (I a0.f2)])], [], (B x1), [], [], [], [], (B x1), []⟩, .no, .v (B false)] ⟨[(1, (.sl true a1.length 1 (a1.flatMap encI))), (17, (B (!((a1.length : Int) == (a0.f0.length : Int)))))], [(256, [(.sl true a0.f0.length 1 (a0.f0.flatMap encI)), (.sl true a0.f1.length 4 (a0.f1.flatMap e52)), (I a0.f2)])], [3 = 3 ∧ 0 + 3 ≤ 3, COK (hget [(256, [(.sl true a0.f0.length 1 (a0.f0.flatMap encI)), (.sl true a0.f1.length 4 (a0.f1.flatMap e52)), (I a0.f2)])]) [(.ag [(.sl true a0.f0.length 1 (a0.f0.flatMap encI)), (.sl true a0.f1.length 4 (a0.f1.flatMap e52)), (I a0.f2)])] ⟨16, [(.ag [(.sl true a0.f0.length 1 (a0.f0.flatMap encI)), (.sl true a0.f1.length 4 (a0.f1.flatMap e52)), (I a0.f2)])], [], (B x1), [], [], [], [], (B x1), []⟩, (B (!x1) : V) = B false, 3 = 3 ∧ 0 + 1 ≤ 3], [⟨16, [(.ag [(.sl true a0.f0.length 1 (a0.f0.flatMap encI)), (.sl true a0.f1.length 4 (a0.f1.flatMap e52)), (I a0.f2)])], [], (B x1), [], [], [], [], (B x1), []⟩]⟩ [c_ 13, c_ 7] (alc ⟨rfl, by decide⟩ (alc (cok0 false (a2c (.z (frz_ag (a2c (frz_sl encI_ok (fun h => h)) (a2c (frz_sl e52_ok (fun h => h)) (a2c .s a2n))))) a2n) (.z .s) (fun h => absurd h (by decide))) (alc (bF (nF c1)) (alc ⟨rfl, by decide⟩ aln)))) (acal (impl_WorkOk.J k a0 _ hx1) nocal) ?_
    by_cases c2 : (a1.length : Int) = (a0.f0.length : Int)
    · rw [if_pos c2] at h
      refine .cond' (.tmp 17) false [c_ 28, c_ 29, c_ 15] (bF (nF (qT c2))) ?_
      refine .reg' [18, 19, 20] [] ⟨[(18, (.sl true a1.length 1 (a1.flatMap encI))), (19, (I (a1.length : Int))), (20, (I 0))], [(256, [(.sl true a0.f0.length 1 (a0.f0.flatMap encI)), (.sl true a0.f1.length 4 (a0.f1.flatMap e52)), (I a0.f2)])], [], []⟩ [l_ 58, b_ 0, c_ 15] aln nocal ?_
      refine .wk' [] [] [(18, (.sl true a1.length 1 (a1.flatMap encI))), (19, (I (a1.length : Int))), (20, (I 0))] [] shn (enc_ (.z (frz_sl encI_ok (fun h => h))) (enc_ (.z .s) (enc_ (.z .s) enn))) ?_
      exact ih0 a1 0 _ h
    · rw [if_neg c2] at h
      refine .cond' (.tmp 17) true [c_ 52, c_ 53, c_ 7] (bT (nT (qF c2))) ?_
      refine .reg' [4] [] ⟨[(4, (B false))], [(256, [(.sl true a0.f0.length 1 (a0.f0.flatMap encI)), (.sl true a0.f1.length 4 (a0.f1.flatMap e52)), (I a0.f2)])], [], []⟩ [c_ 53, c_ 7] aln nocal ?_
      have h := Option.some.inj h
      subst h
      exact .fin0 [] (B false) [] aln (.z .s)
  · rw [if_neg c1] at h
    refine .reg' [1, 17] [.no, .c ⟨16, [(.ag [(.sl true a0.f0.length 1 (a0.f0.flatMap encI)), (.sl true a0.f1.length 4 (a0.f1.flatMap e52)), (I a0.f2)])], [], (B x1), [], [], [], [], (B x1), []⟩, .no, .v (B true)] ⟨[(1, (.sl true a1.length 1 (a1.flatMap encI))), (17, (B true))], [(256, [(.sl true a0.f0.length 1 (a0.f0.flatMap encI)), (.sl true a0.f1.length 4 (a0.f1.flatMap e52)), (I a0.f2)])], [3 = 3 ∧ 0 + 3 ≤ 3, COK (hget [(256, [(.sl true a0.f0.length 1 (a0.f0.flatMap encI)), (.sl true a0.f1.length 4 (a0.f1.flatMap e52)), (I a0.f2)])]) [(.ag [(.sl true a0.f0.length 1 (a0.f0.flatMap encI)), (.sl true a0.f1.length 4 (a0.f1.flatMap e52)), (I a0.f2)])] ⟨16, [(.ag [(.sl true a0.f0.length 1 (a0.f0.flatMap encI)), (.sl true a0.f1.length 4 (a0.f1.flatMap e52)), (I a0.f2)])], [], (B x1), [], [], [], [], (B x1), []⟩, (B (!x1) : V) = B true], [⟨16, [(.ag [(.sl true a0.f0.length 1 (a0.f0.flatMap encI)), (.sl true a0.f1.length 4 (a0.f1.flatMap e52)), (I a0.f2)])], [], (B x1), [], [], [], [], (B x1), []⟩]⟩ [c_ 13, c_ 7] (alc ⟨rfl, by decide⟩ (alc (cok0 false (a2c (.z (frz_ag (a2c (frz_sl encI_ok (fun h => h)) (a2c (frz_sl e52_ok (fun h => h)) (a2c .s a2n))))) a2n) (.z .s) (fun h => absurd h (by decide))) (alc (bT (nT (vF c1))) aln))) (acal (impl_WorkOk.J k a0 _ hx1) nocal) ?_
    refine .cond' (.tmp 17) true [c_ 52, c_ 53, c_ 7] (rfl) ?_
    refine .reg' [4] [] ⟨[(4, (B false))], [(256, [(.sl true a0.f0.length 1 (a0.f0.flatMap encI)), (.sl true a0.f1.length 4 (a0.f1.flatMap e52)), (I a0.f2)])], [], []⟩ [c_ 53, c_ 7] aln nocal ?_
    have h := Option.some.inj h
    subst h
    exact .fin0 [] (B false) [] aln (.z .s)
/-! impl_work: function 52 -/
mutual
def impl_work.l0 : Nat → S29 → (List Int) → (List Int) → (List Bool) → Int → Option ((List Int) × (List Bool))
 | 0, _, _, _, _, _ => none
 | k + 1, a0, a1, x1, x2, x3 => (if x3 < (a0.f0.length : Int) then (if 0 ≤ x3 then (impl_work.l1 k a0 a1 x1 x3 x2 (at_ a0.f0 x3) 0) else none) else (some (x1, x2)))
def impl_work.l1 : Nat → S29 → (List Int) → (List Int) → Int → (List Bool) → Int → Int → Option ((List Int) × (List Bool))
 | 0, _, _, _, _, _, _, _ => none
 | k + 1, a0, a1, x1, x3, x4, x5, x6 => (if x6 < (a0.f1.length : Int) then (if 0 ≤ x6 then (if (at_ a0.f1 x6).f1 = x3 then (if (at_ a0.f1 x6).f3 = 0 then (if x6 < (x4.length : Int) then (if 0 ≤ (at_ a0.f1 x6).f0 then (if (at_ a0.f1 x6).f0 < (x1.length : Int) then (impl_work.l1 k a0 a1 x1 x3 (x4.set x6.toNat true) (mx x5 (wrap64 ((at_ x1 (at_ a0.f1 x6).f0) + (at_ a0.f1 x6).f2))) (wrap64 (x6 + 1))) else none) else none) else none) else (impl_work.l1 k a0 a1 x1 x3 x4 x5 (wrap64 (x6 + 1)))) else (impl_work.l1 k a0 a1 x1 x3 x4 x5 (wrap64 (x6 + 1)))) else none) else (impl_work.l2 k a0 a1 x1 x3 x5 x4 x5 0))
def impl_work.l2 : Nat → S29 → (List Int) → (List Int) → Int → Int → (List Bool) → Int → Int → Option ((List Int) × (List Bool))
 | 0, _, _, _, _, _, _, _, _ => none
 | k + 1, a0, a1, x1, x3, x5, x7, x8, x9 => (if x9 < (a0.f1.length : Int) then (if 0 ≤ x9 then (if (at_ a0.f1 x9).f1 = x3 then (if (at_ a0.f1 x9).f3 = 1 then (if 0 ≤ (at_ a0.f1 x9).f0 then (if (at_ a0.f1 x9).f0 < (x1.length : Int) then (if (wrap64 ((at_ x1 (at_ a0.f1 x9).f0) + (at_ a0.f1 x9).f2)) ≤ (wrap64 (x5 + a0.f2)) then (if x9 < (x7.length : Int) then (impl_work.l2 k a0 a1 x1 x3 x5 (x7.set x9.toNat true) (mx x8 (wrap64 ((at_ x1 (at_ a0.f1 x9).f0) + (at_ a0.f1 x9).f2))) (wrap64 (x9 + 1))) else none) else (impl_work.l2 k a0 a1 x1 x3 x5 x7 x8 (wrap64 (x9 + 1)))) else none) else none) else (impl_work.l2 k a0 a1 x1 x3 x5 x7 x8 (wrap64 (x9 + 1)))) else (impl_work.l2 k a0 a1 x1 x3 x5 x7 x8 (wrap64 (x9 + 1)))) else none) else (if 0 ≤ x3 then (if x3 < (a1.length : Int) then (if x3 < (x1.length : Int) then (impl_work.l0 k a0 a1 (x1.set x3.toNat (wrap64 (x8 + (at_ a1 x3)))) x7 (wrap64 (x3 + 1))) else none) else none) else none))
end
def impl_work.f (k : Nat) (a0 : S29) (a1 : (List Int)) : Option ((List Int) × (List Bool)) := (if 0 ≤ (a0.f0.length : Int) then (if (a0.f0.length : Int) * 8 ≤ 281474976710656 then (if 0 ≤ (a0.f1.length : Int) then (if (a0.f1.length : Int) * 1 ≤ 281474976710656 then (impl_work.l0 k a0 a1 (List.replicate (a0.f0.length : Int).toNat (0 : Int)) (List.replicate (a0.f1.length : Int).toNat (false : Bool)) 0) else none) else none) else none) else none)
end Go.Proofs.Ytomkglmlhoaniaa.Fns
