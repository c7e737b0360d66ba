/- The functions that the law FnStuck reaches, by the engine. Printed by a program of this seat. -/
import Derived.Test.YtpjmefdpjlhkhaaE5
import Derived.Test.YtpjmefdpjlhkhaaProg
import Derived.Test.YtpjmefdpjlhkhaaFFnStuckx1
namespace Go.Proofs.Ytpjmefdpjlhkhaa.Fns
open Go.Proofs.Try Go.Proofs.Ytpjmefdpjlhkhaa.Eng Go.RowKit
set_option maxRecDepth 100000
set_option linter.unusedVariables false
set_option linter.unusedSimpArgs false
theorem impl_CanFinish.J (k : Nat) (a0 : (List Int)) (a1 : (List S44)) (r : Bool) (h : impl_CanFinish.f k a0 a1 = some r) : J prog (.call 29 [(.sl true a0.length 1 (a0.flatMap encI)), (.sl true a1.length 2 (a1.flatMap e44))] [] (B r) []) := by
  unfold impl_CanFinish.f at h
  refine .call' [c_ 2, c_ 3] ?_
  refine .reg' [0, 1] [] ⟨[(0, (.sl true a0.length 1 (a0.flatMap encI))), (1, (.sl true a1.length 2 (a1.flatMap e44)))], [], [], []⟩ [c_ 6, c_ 7] aln nocal ?_
  obtain ⟨x1, hx1, h⟩ := Option.bind_eq_some_iff.mp h
  by_cases c1 : x1 = true
  · rw [if_pos c1] at h
    obtain ⟨x2, hx2, h⟩ := Option.bind_eq_some_iff.mp h
    obtain ⟨x3, hx3, h⟩ := Option.bind_eq_some_iff.mp h
    refine .reg' [4] [.no, .no, .c ⟨16, [(.sl true a0.length 1 (a0.flatMap encI)), (.sl true a1.length 2 (a1.flatMap e44))], [], (B x1), [], [], [], [], (B x1), []⟩, .v (B true), .no, .c ⟨51, [(.sl true a0.length 1 (a0.flatMap encI))], [], (.pt 515 0 2), [(515, [(.sl true x2.f0.length 1 (x2.f0.flatMap encI)), (.pt 2000000515 0 1)]), (2000000515, (mrow x2.f1))], [], [], [(1000517, 515), (2002000517, 2000000515)], (.pt 1000517 0 2), [(1000517, [(.sl true x2.f0.length 1 (x2.f0.flatMap encI)), (.pt 2002000517 0 1)]), (2002000517, (mrow x2.f1))]⟩, .no, .c ⟨52, [(.pt 0 0 2), (.sl true a1.length 2 (a1.flatMap e44))], [(0, [(.sl true x2.f0.length 1 (x2.f0.flatMap encI)), (.pt 2000000001 0 1)]), (2000000001, (mrow x2.f1))], (B x3.1), [(0, [(.sl true x3.2.1.f0.length 1 (x3.2.1.f0.flatMap encI)), (.pt 2000000001 0 1)]), (2000000001, (mrow x3.2.2))], [], [(1000517, 0), (2002000517, 2000000001)], [(1000517, 0), (2002000517, 2000000001)], (B x3.1), [(1000517, [(.sl true x3.2.1.f0.length 1 (x3.2.1.f0.flatMap encI)), (.pt 2002000517 0 1)]), (2002000517, (mrow x3.2.2))]⟩] ⟨[(4, (B x3.1))], [(2002000517, (mrow x3.2.2)), (1000517, [(.sl true x3.2.1.f0.length 1 (x3.2.1.f0.flatMap encI)), (.pt 2002000517 0 1)])], [COK (hget []) [(.sl true a0.length 1 (a0.flatMap encI)), (.sl true a1.length 2 (a1.flatMap e44))] ⟨16, [(.sl true a0.length 1 (a0.flatMap encI)), (.sl true a1.length 2 (a1.flatMap e44))], [], (B x1), [], [], [], [], (B x1), []⟩, (B x1 : V) = B true, COK (hget []) [(.sl true a0.length 1 (a0.flatMap encI))] ⟨51, [(.sl true a0.length 1 (a0.flatMap encI))], [], (.pt 515 0 2), [(515, [(.sl true x2.f0.length 1 (x2.f0.flatMap encI)), (.pt 2000000515 0 1)]), (2000000515, (mrow x2.f1))], [], [], [(1000517, 515), (2002000517, 2000000515)], (.pt 1000517 0 2), [(1000517, [(.sl true x2.f0.length 1 (x2.f0.flatMap encI)), (.pt 2002000517 0 1)]), (2002000517, (mrow x2.f1))]⟩, COK (hget [(2002000517, (mrow x2.f1)), (1000517, [(.sl true x2.f0.length 1 (x2.f0.flatMap encI)), (.pt 2002000517 0 1)])]) [(.pt 1000517 0 2), (.sl true a1.length 2 (a1.flatMap e44))] ⟨52, [(.pt 0 0 2), (.sl true a1.length 2 (a1.flatMap e44))], [(0, [(.sl true x2.f0.length 1 (x2.f0.flatMap encI)), (.pt 2000000001 0 1)]), (2000000001, (mrow x2.f1))], (B x3.1), [(0, [(.sl true x3.2.1.f0.length 1 (x3.2.1.f0.flatMap encI)), (.pt 2000000001 0 1)]), (2000000001, (mrow x3.2.2))], [], [(1000517, 0), (2002000517, 2000000001)], [(1000517, 0), (2002000517, 2000000001)], (B x3.1), [(1000517, [(.sl true x3.2.1.f0.length 1 (x3.2.1.f0.flatMap encI)), (.pt 2002000517 0 1)]), (2002000517, (mrow x3.2.2))]⟩], [⟨16, [(.sl true a0.length 1 (a0.flatMap encI)), (.sl true a1.length 2 (a1.flatMap e44))], [], (B x1), [], [], [], [], (B x1), []⟩, ⟨51, [(.sl true a0.length 1 (a0.flatMap encI))], [], (.pt 515 0 2), [(515, [(.sl true x2.f0.length 1 (x2.f0.flatMap encI)), (.pt 2000000515 0 1)]), (2000000515, (mrow x2.f1))], [], [], [(1000517, 515), (2002000517, 2000000515)], (.pt 1000517 0 2), [(1000517, [(.sl true x2.f0.length 1 (x2.f0.flatMap encI)), (.pt 2002000517 0 1)]), (2002000517, (mrow x2.f1))]⟩, ⟨52, [(.pt 0 0 2), (.sl true a1.length 2 (a1.flatMap e44))], [(0, [(.sl true x2.f0.length 1 (x2.f0.flatMap encI)), (.pt 2000000001 0 1)]), (2000000001, (mrow x2.f1))], (B x3.1), [(0, [(.sl true x3.2.1.f0.length 1 (x3.2.1.f0.flatMap encI)), (.pt 2000000001 0 1)]), (2000000001, (mrow x3.2.2))], [], [(1000517, 0), (2002000517, 2000000001)], [(1000517, 0), (2002000517, 2000000001)], (B x3.1), [(1000517, [(.sl true x3.2.1.f0.length 1 (x3.2.1.f0.flatMap encI)), (.pt 2002000517 0 1)]), (2002000517, (mrow x3.2.2))]⟩]⟩ [c_ 7] (alc (cok0 false (a2c (.z (frz_sl encI_ok (fun h => h))) (a2c (.z (frz_sl e44_ok (fun h => h))) a2n)) (.z .s) (fun h => absurd h (by decide))) (alc (bT c1) (alc (cokW true (a2c (.z (frz_sl encI_ok (fun h => h))) a2n) akn (akc (.inr rfl) (akc (.inr rfl) akn)) (.pt (memP_mem (p := (1000517, 515)) rfl)) (akc ⟨_, _, rfl, rfl, (a2c (.z (clnS encI_c (fun h => rfl))) (a2c (.pt (memP_mem (p := (2002000517, 2000000515)) rfl)) a2n))⟩ (akc ⟨_, _, rfl, rfl, mrowB _⟩ akn)) (fun h => rfl)) (alc (cokW true (a2c (.pt (memP_mem (p := (1000517, 0)) rfl)) (a2c (.z (frz_sl e44_ok (fun h => h))) a2n)) (akc ⟨_, _, rfl, rfl, (a2c (.z (frz_sl encI_ok (fun h => h))) (a2c (.pt (memP_mem (p := (2002000517, 2000000001)) rfl)) a2n))⟩ (akc ⟨_, _, rfl, rfl, (mrowC _)⟩ akn)) (akc (.inl rfl) (akc (.inl rfl) akn)) (.z .s) (akc ⟨_, _, rfl, rfl, (a2c (.z (clnS encI_c (fun h => rfl))) (a2c (.pt (memP_mem (p := (2002000517, 2000000001)) rfl)) a2n))⟩ (akc ⟨_, _, rfl, rfl, mrowB _⟩ akn)) (fun h => rfl)) aln)))) (acal (impl_SinglesOk.J k a0 a1 _ hx1) (acal (impl_newSearch.J a0 _ hx2) (acal (impl_search_canFinish.J k x2 a1 _ hx3) nocal))) ?_
    have h := Option.some.inj h
    subst h
    exact .fin0 [] (B x3.1) [] aln (.z .s)
  · rw [if_neg c1] at h
    refine .reg' [4] [.no, .no, .c ⟨16, [(.sl true a0.length 1 (a0.flatMap encI)), (.sl true a1.length 2 (a1.flatMap e44))], [], (B x1), [], [], [], [], (B x1), []⟩, .v (B false)] ⟨[(4, (B false))], [], [COK (hget []) [(.sl true a0.length 1 (a0.flatMap encI)), (.sl true a1.length 2 (a1.flatMap e44))] ⟨16, [(.sl true a0.length 1 (a0.flatMap encI)), (.sl true a1.length 2 (a1.flatMap e44))], [], (B x1), [], [], [], [], (B x1), []⟩, (B x1 : V) = B false], [⟨16, [(.sl true a0.length 1 (a0.flatMap encI)), (.sl true a1.length 2 (a1.flatMap e44))], [], (B x1), [], [], [], [], (B x1), []⟩]⟩ [c_ 7] (alc (cok0 false (a2c (.z (frz_sl encI_ok (fun h => h))) (a2c (.z (frz_sl e44_ok (fun h => h))) a2n)) (.z .s) (fun h => absurd h (by decide))) (alc (bF (vF c1)) aln)) (acal (impl_SinglesOk.J k a0 a1 _ hx1) nocal) ?_
    have h := Option.some.inj h
    subst h
    exact .fin0 [] (B false) [] aln (.z .s)
/-! impl_MayMove: function 20 -/
def impl_MayMove.f (k : Nat) (a0 : (List Int)) (a1 : (List S44)) (a2 : Int) : Option Bool := ((impl_SinglesOk.f k a0 a1).bind fun x1 => (if x1 = true then ((impl_between.f a2 0 (wrap64 ((a1.length : Int) - 1))).bind fun x2 => (if x2 = true then ((impl_mayMove.f k a0 a1 a2).bind fun x3 => (some x3)) else (some false))) else (some false)))
theorem impl_MayMove.J (k : Nat) (a0 : (List Int)) (a1 : (List S44)) (a2 : Int) (r : Bool) (h : impl_MayMove.f k a0 a1 a2 = some r) : J prog (.call 20 [(.sl true a0.length 1 (a0.flatMap encI)), (.sl true a1.length 2 (a1.flatMap e44)), (I a2)] [] (B r) []) := by
  unfold impl_MayMove.f at h
  refine .call' [c_ 2, c_ 3] ?_
  refine .reg' [0, 1, 2] [] ⟨[(0, (.sl true a0.length 1 (a0.flatMap encI))), (1, (.sl true a1.length 2 (a1.flatMap e44))), (2, (I a2))], [], [], []⟩ [c_ 6, c_ 7] aln nocal ?_
  obtain ⟨x1, hx1, h⟩ := Option.bind_eq_some_iff.mp h
  by_cases c1 : x1 = true
  · rw [if_pos c1] at h
    obtain ⟨x2, hx2, h⟩ := Option.bind_eq_some_iff.mp h
    by_cases c2 : x2 = true
    · rw [if_pos c2] at h
      obtain ⟨x3, hx3, h⟩ := Option.bind_eq_some_iff.mp h
      refine .reg' [6] [.no, .no, .c ⟨16, [(.sl true a0.length 1 (a0.flatMap encI)), (.sl true a1.length 2 (a1.flatMap e44))], [], (B x1), [], [], [], [], (B x1), []⟩, .v (B true), .no, .no, .no, .no, .c ⟨42, [(I a2), (I 0), (I (wrap64 ((a1.length : Int) - 1)))], [], (B x2), [], [], [], [], (B x2), []⟩, .no, .v (B true), .no, .no, .no, .c ⟨46, [(.sl true a0.length 1 (a0.flatMap encI)), (.sl true a1.length 2 (a1.flatMap e44)), (I a2)], [], (B x3), [], [], [], [], (B x3), []⟩] ⟨[(6, (B x3))], [], [COK (hget []) [(.sl true a0.length 1 (a0.flatMap encI)), (.sl true a1.length 2 (a1.flatMap e44))] ⟨16, [(.sl true a0.length 1 (a0.flatMap encI)), (.sl true a1.length 2 (a1.flatMap e44))], [], (B x1), [], [], [], [], (B x1), []⟩, (B x1 : V) = B true, COK (hget []) [(I a2), (I 0), (I (wrap64 ((a1.length : Int) - 1)))] ⟨42, [(I a2), (I 0), (I (wrap64 ((a1.length : Int) - 1)))], [], (B x2), [], [], [], [], (B x2), []⟩, (B x2 : V) = B true, COK (hget []) [(.sl true a0.length 1 (a0.flatMap encI)), (.sl true a1.length 2 (a1.flatMap e44)), (I a2)] ⟨46, [(.sl true a0.length 1 (a0.flatMap encI)), (.sl true a1.length 2 (a1.flatMap e44)), (I a2)], [], (B x3), [], [], [], [], (B x3), []⟩], [⟨16, [(.sl true a0.length 1 (a0.flatMap encI)), (.sl true a1.length 2 (a1.flatMap e44))], [], (B x1), [], [], [], [], (B x1), []⟩, ⟨42, [(I a2), (I 0), (I (wrap64 ((a1.length : Int) - 1)))], [], (B x2), [], [], [], [], (B x2), []⟩, ⟨46, [(.sl true a0.length 1 (a0.flatMap encI)), (.sl true a1.length 2 (a1.flatMap e44)), (I a2)], [], (B x3), [], [], [], [], (B x3), []⟩]⟩ [c_ 7] (alc (cok0 false (a2c (.z (frz_sl encI_ok (fun h => h))) (a2c (.z (frz_sl e44_ok (fun h => h))) a2n)) (.z .s) (fun h => absurd h (by decide))) (alc (bT c1) (alc (cok0 false (a2c (.z .s) (a2c (.z .s) (a2c (.z .s) a2n))) (.z .s) (fun h => absurd h (by decide))) (alc (bT c2) (alc (cok0 false (a2c (.z (frz_sl encI_ok (fun h => h))) (a2c (.z (frz_sl e44_ok (fun h => h))) (a2c (.z .s) a2n))) (.z .s) (fun h => absurd h (by decide))) aln))))) (acal (impl_SinglesOk.J k a0 a1 _ hx1) (acal (impl_between.J a2 0 (wrap64 ((a1.length : Int) - 1)) _ hx2) (acal (impl_mayMove.J k a0 a1 a2 _ hx3) nocal))) ?_
      have h := Option.some.inj h
      subst h
      exact .fin0 [] (B x3) [] aln (.z .s)
    · rw [if_neg c2] at h
      refine .reg' [6] [.no, .no, .c ⟨16, [(.sl true a0.length 1 (a0.flatMap encI)), (.sl true a1.length 2 (a1.flatMap e44))], [], (B x1), [], [], [], [], (B x1), []⟩, .v (B true), .no, .no, .no, .no, .c ⟨42, [(I a2), (I 0), (I (wrap64 ((a1.length : Int) - 1)))], [], (B x2), [], [], [], [], (B x2), []⟩, .no, .v (B false)] ⟨[(6, (B false))], [], [COK (hget []) [(.sl true a0.length 1 (a0.flatMap encI)), (.sl true a1.length 2 (a1.flatMap e44))] ⟨16, [(.sl true a0.length 1 (a0.flatMap encI)), (.sl true a1.length 2 (a1.flatMap e44))], [], (B x1), [], [], [], [], (B x1), []⟩, (B x1 : V) = B true, COK (hget []) [(I a2), (I 0), (I (wrap64 ((a1.length : Int) - 1)))] ⟨42, [(I a2), (I 0), (I (wrap64 ((a1.length : Int) - 1)))], [], (B x2), [], [], [], [], (B x2), []⟩, (B x2 : V) = B false], [⟨16, [(.sl true a0.length 1 (a0.flatMap encI)), (.sl true a1.length 2 (a1.flatMap e44))], [], (B x1), [], [], [], [], (B x1), []⟩, ⟨42, [(I a2), (I 0), (I (wrap64 ((a1.length : Int) - 1)))], [], (B x2), [], [], [], [], (B x2), []⟩]⟩ [c_ 7] (alc (cok0 false (a2c (.z (frz_sl encI_ok (fun h => h))) (a2c (.z (frz_sl e44_ok (fun h => h))) a2n)) (.z .s) (fun h => absurd h (by decide))) (alc (bT c1) (alc (cok0 false (a2c (.z .s) (a2c (.z .s) (a2c (.z .s) a2n))) (.z .s) (fun h => absurd h (by decide))) (alc (bF (vF c2)) aln)))) (acal (impl_SinglesOk.J k a0 a1 _ hx1) (acal (impl_between.J a2 0 (wrap64 ((a1.length : Int) - 1)) _ hx2) nocal)) ?_
      have h := Option.some.inj h
      subst h
      exact .fin0 [] (B false) [] aln (.z .s)
  · rw [if_neg c1] at h
    refine .reg' [6] [.no, .no, .c ⟨16, [(.sl true a0.length 1 (a0.flatMap encI)), (.sl true a1.length 2 (a1.flatMap e44))], [], (B x1), [], [], [], [], (B x1), []⟩, .v (B false)] ⟨[(6, (B false))], [], [COK (hget []) [(.sl true a0.length 1 (a0.flatMap encI)), (.sl true a1.length 2 (a1.flatMap e44))] ⟨16, [(.sl true a0.length 1 (a0.flatMap encI)), (.sl true a1.length 2 (a1.flatMap e44))], [], (B x1), [], [], [], [], (B x1), []⟩, (B x1 : V) = B false], [⟨16, [(.sl true a0.length 1 (a0.flatMap encI)), (.sl true a1.length 2 (a1.flatMap e44))], [], (B x1), [], [], [], [], (B x1), []⟩]⟩ [c_ 7] (alc (cok0 false (a2c (.z (frz_sl encI_ok (fun h => h))) (a2c (.z (frz_sl e44_ok (fun h => h))) a2n)) (.z .s) (fun h => absurd h (by decide))) (alc (bF (vF c1)) aln)) (acal (impl_SinglesOk.J k a0 a1 _ hx1) nocal) ?_
    have h := Option.some.inj h
    subst h
    exact .fin0 [] (B false) [] aln (.z .s)
/-! impl_MoveOn: function 24 -/
def impl_MoveOn.f (k : Nat) (a0 : (List Int)) (a1 : (List S44)) (a2 : Int) : Option ((List S44) × Bool) := ((impl_MayMove.f k a0 a1 a2).bind fun x1 => (if x1 = true then ((impl_moved.f a1 a2).bind fun x2 => (some (x2, true))) else (some (([] : List S44), false))))
theorem impl_MoveOn.J (k : Nat) (a0 : (List Int)) (a1 : (List S44)) (a2 : Int) (r : ((List S44) × Bool)) (h : impl_MoveOn.f k a0 a1 a2 = some r) : J prog (.call 24 [(.sl true a0.length 1 (a0.flatMap encI)), (.sl true a1.length 2 (a1.flatMap e44)), (I a2)] [] (.tp [(.rf 1001026 0 r.1.length 2 (r.1.length * 2)), (B r.2)]) [(1001026, (r.1.flatMap e44))]) := by
  unfold impl_MoveOn.f at h
  refine .call' [c_ 2, c_ 3] ?_
  refine .reg' [0, 1, 2] [] ⟨[(0, (.sl true a0.length 1 (a0.flatMap encI))), (1, (.sl true a1.length 2 (a1.flatMap e44))), (2, (I a2))], [], [], []⟩ [c_ 12, c_ 13, c_ 7] aln nocal ?_
  obtain ⟨x1, hx1, h⟩ := Option.bind_eq_some_iff.mp h
  refine .reg' [1, 2, 12] [.no, .no, .no, .c ⟨20, [(.sl true a0.length 1 (a0.flatMap encI)), (.sl true a1.length 2 (a1.flatMap e44)), (I a2)], [], (B x1), [], [], [], [], (B x1), []⟩] ⟨[(1, (.sl true a1.length 2 (a1.flatMap e44))), (2, (I a2)), (12, (B (!x1)))], [], [COK (hget []) [(.sl true a0.length 1 (a0.flatMap encI)), (.sl true a1.length 2 (a1.flatMap e44)), (I a2)] ⟨20, [(.sl true a0.length 1 (a0.flatMap encI)), (.sl true a1.length 2 (a1.flatMap e44)), (I a2)], [], (B x1), [], [], [], [], (B x1), []⟩], [⟨20, [(.sl true a0.length 1 (a0.flatMap encI)), (.sl true a1.length 2 (a1.flatMap e44)), (I a2)], [], (B x1), [], [], [], [], (B x1), []⟩]⟩ [c_ 13, c_ 7] (alc (cok0 false (a2c (.z (frz_sl encI_ok (fun h => h))) (a2c (.z (frz_sl e44_ok (fun h => h))) (a2c (.z .s) a2n))) (.z .s) (fun h => absurd h (by decide))) aln) (acal (impl_MayMove.J k a0 a1 a2 _ hx1) nocal) ?_
  by_cases c1 : x1 = true
  · rw [if_pos c1] at h
    refine .cond' (.tmp 12) false [c_ 14, c_ 15] (bF (nF c1)) ?_
    obtain ⟨x2, hx2, h⟩ := Option.bind_eq_some_iff.mp h
    refine .reg' [6, 7] [.no, .no, .c ⟨49, [(.sl true a1.length 2 (a1.flatMap e44)), (I a2)], [], (.rf 512 0 x2.length 2 (x2.length * 2)), [(512, (x2.flatMap e44))], [], [], [(1001026, 512)], (.rf 1001026 0 x2.length 2 (x2.length * 2)), [(1001026, (x2.flatMap e44))]⟩] ⟨[(6, (.rf 1001026 0 x2.length 2 (x2.length * 2))), (7, (B true))], [(1001026, (x2.flatMap e44))], [COK (hget []) [(.sl true a1.length 2 (a1.flatMap e44)), (I a2)] ⟨49, [(.sl true a1.length 2 (a1.flatMap e44)), (I a2)], [], (.rf 512 0 x2.length 2 (x2.length * 2)), [(512, (x2.flatMap e44))], [], [], [(1001026, 512)], (.rf 1001026 0 x2.length 2 (x2.length * 2)), [(1001026, (x2.flatMap e44))]⟩], [⟨49, [(.sl true a1.length 2 (a1.flatMap e44)), (I a2)], [], (.rf 512 0 x2.length 2 (x2.length * 2)), [(512, (x2.flatMap e44))], [], [], [(1001026, 512)], (.rf 1001026 0 x2.length 2 (x2.length * 2)), [(1001026, (x2.flatMap e44))]⟩]⟩ [c_ 15] (alc (cokW false (a2c (.z (frz_sl e44_ok (fun h => h))) (a2c (.z .s) a2n)) akn (akc (.inr rfl) akn) (.rf (memP_mem (p := (1001026, 512)) rfl)) (akc ⟨_, _, rfl, rfl, rowB e44_c _⟩ akn) (fun h => absurd h (by decide))) aln) (acal (impl_moved.J a1 a2 _ hx2) nocal) ?_
    have h := Option.some.inj h
    subst h
    exact .fin' [] [(1001026, 1001026)] (.tp [(.rf 1001026 0 x2.length 2 (x2.length * 2)), (B true)]) [] aln (shc 1001026 (rowF e44_ok _) shn) (cnv_tp (a2c (.rf (memP_mem (p := (1001026, 1001026)) rfl)) (a2c (.z .s) a2n)))
  · rw [if_neg c1] at h
    refine .cond' (.tmp 12) true [c_ 52, c_ 53, c_ 7] (bT (nT (vF c1))) ?_
    refine .reg' [6, 7] [] ⟨[(6, nilS), (7, (B false))], [], [], []⟩ [c_ 53, c_ 7] aln nocal ?_
    have h := Option.some.inj h
    subst h
    refine .nl' 1001026 ?_
    exact .fin' [] [(1001026, 1001026)] (.tp [nilS, (B false)]) [] aln (shc 1001026 (rowF e44_ok _) shn) (cnv_tp (a2c (.nl (memP_mem (p := (1001026, 1001026)) rfl) rfl) (a2c (.z .s) a2n)))
/-! spec_l01In: function 38 -/
def spec_l01In.f (a0 : Int) (a1 : Int) (a2 : Int) : Option Bool := (if a1 ≤ a0 then (some (decide (a0 ≤ a2))) else (some false))
theorem spec_l01In.J (a0 : Int) (a1 : Int) (a2 : Int) (r : Bool) (h : spec_l01In.f a0 a1 a2 = some r) : J prog (.call 38 [(I a0), (I a1), (I a2)] [] (B r) []) := by
  unfold spec_l01In.f at h
  refine .call' [c_ 2, c_ 3] ?_
  refine .reg' [0, 1, 2] [] ⟨[(0, (I a0)), (1, (I a1)), (2, (I a2))], [], [], []⟩ [c_ 6, c_ 7] aln nocal ?_
  by_cases c1 : a1 ≤ a0
  · rw [if_pos c1] at h
    refine .reg' [6] [.no, .no, .no, .v (B true)] ⟨[(6, (B (decide (a0 ≤ a2))))], [], [(B (decide (a1 ≤ a0)) : V) = B true], []⟩ [c_ 7] (alc (bT (dT c1)) aln) nocal ?_
    have h := Option.some.inj h
    subst h
    exact .fin0 [] (B (decide (a0 ≤ a2))) [] aln (.z .s)
  · rw [if_neg c1] at h
    refine .reg' [6] [.no, .no, .no, .v (B false)] ⟨[(6, (B false))], [], [(B (decide (a1 ≤ a0)) : V) = B false], []⟩ [c_ 7] (alc (bF (dF c1)) aln) nocal ?_
    have h := Option.some.inj h
    subst h
    exact .fin0 [] (B false) [] aln (.z .s)
/-! spec_l07Line: function 37 -/
def spec_l07Line.l0 : Nat → (List Int) → Int → Option Bool
 | 0, _, _ => none
 | k + 1, a0, x1 => (if x1 < (a0.length : Int) then (if 0 ≤ x1 then ((spec_l01In.f (at_ a0 x1) 1 4).bind fun x2 => (if x2 = true then (spec_l07Line.l0 k a0 (wrap64 (x1 + 1))) else (some false))) else none) else ((spec_l01In.f (a0.length : Int) 2 5).bind fun x3 => (some x3)))
def spec_l07Line.f (k : Nat) (a0 : (List Int)) : Option Bool := (spec_l07Line.l0 k a0 0)
theorem spec_l07Line.lab : ∀ k, (∀ (a0 : (List Int)) (x1 : Int) (r : Bool), spec_l07Line.l0 k a0 x1 = some r → J prog (.run 37 [] [l_ 26, b_ 0, c_ 7] [(0, (.sl true a0.length 1 (a0.flatMap encI))), (3, (I x1))] [] (B r) []))
 | 0 => (by intro a0 x1 r h; unfold spec_l07Line.l0 at h; cases h)
 | k + 1 => by
  have ih0 := spec_l07Line.lab k
  · intro a0 x1 r h
    unfold spec_l07Line.l0 at h
    refine .loop' [c_ 208, c_ 209, c_ 105, l_ 26, b_ 0, c_ 7] ?_
    refine .reg' [0, 3, 7] [] ⟨[(0, (.sl true a0.length 1 (a0.flatMap encI))), (3, (I x1)), (7, (B (decide (x1 < (a0.length : Int)))))], [], [], []⟩ [c_ 209, c_ 105, l_ 26, b_ 0, c_ 7] aln nocal ?_
    by_cases c1 : x1 < (a0.length : Int)
    · rw [if_pos c1] at h
      refine .cond' (.tmp 7) true [c_ 840, c_ 841, b_ 1, c_ 211, l_ 26, b_ 0, c_ 7] (bT (dT c1)) ?_
      by_cases c2 : 0 ≤ x1
      · rw [if_pos c2] at h
        obtain ⟨x2, hx2, h⟩ := Option.bind_eq_some_iff.mp h
        refine .reg' [0, 3, 15] [.no, .no, .no, .v (I (at_ a0 x1)), .c ⟨38, [(I (at_ a0 x1)), (I 1), (I 4)], [], (B x2), [], [], [], [], (B x2), []⟩] ⟨[(0, (.sl true a0.length 1 (a0.flatMap encI))), (3, (I x1)), (15, (B (!x2)))], [], [(0 : Int) ≤ x1 ∧ x1 < (a0.length : Int), rdC prog 3 ((a0.flatMap encI).drop (x1.toNat * 1)) = (I (at_ a0 x1)), 1 ≤ ((a0.flatMap encI).drop (x1.toNat * 1)).length, COK (hget []) [(I (at_ a0 x1)), (I 1), (I 4)] ⟨38, [(I (at_ a0 x1)), (I 1), (I 4)], [], (B x2), [], [], [], [], (B x2), []⟩], [⟨38, [(I (at_ a0 x1)), (I 1), (I 4)], [], (B x2), [], [], [], [], (B x2), []⟩]⟩ [c_ 841, b_ 1, c_ 211, l_ 26, b_ 0, c_ 7] (alc ⟨c2, c1⟩ (alc (ldC1 encI_ok rfl c2 c1) (alc (okI encI_ok c2 c1 (by decide)) (alc (cok0 false (a2c (.z .s) (a2c (.z .s) (a2c (.z .s) a2n))) (.z .s) (fun h => absurd h (by decide))) aln)))) (acal (spec_l01In.J (at_ a0 x1) 1 4 _ hx2) nocal) ?_
        by_cases c3 : x2 = true
        · rw [if_pos c3] at h
          refine .cond' (.tmp 15) false [c_ 211, l_ 26, b_ 0, c_ 7] (bF (nF c3)) ?_
          refine .reg' [0, 3] [] ⟨[(0, (.sl true a0.length 1 (a0.flatMap encI))), (3, (I (wrap64 (x1 + 1))))], [], [], []⟩ [l_ 26, b_ 0, c_ 7] aln nocal ?_
          exact ih0 a0 (wrap64 (x1 + 1)) _ h
        · rw [if_neg c3] at h
          refine .cond' (.tmp 15) true [c_ 3364, c_ 3365, b_ 1, c_ 211, l_ 26, b_ 0, c_ 7] (bT (nT (vF c3))) ?_
          refine .reg' [2] [] ⟨[(2, (B false))], [], [], []⟩ [c_ 3365, b_ 1, c_ 211, l_ 26, b_ 0, c_ 7] aln nocal ?_
          have h := Option.some.inj h
          subst h
          exact .fin0 [] (B false) [] aln (.z .s)
      · rw [if_neg c2] at h
        cases h
    · rw [if_neg c1] at h
      refine .cond' (.tmp 7) false [c_ 14, c_ 15] (bF (dF c1)) ?_
      obtain ⟨x3, hx3, h⟩ := Option.bind_eq_some_iff.mp h
      refine .reg' [2] [.no, .no, .c ⟨38, [(I (a0.length : Int)), (I 2), (I 5)], [], (B x3), [], [], [], [], (B x3), []⟩] ⟨[(2, (B x3))], [], [COK (hget []) [(I (a0.length : Int)), (I 2), (I 5)] ⟨38, [(I (a0.length : Int)), (I 2), (I 5)], [], (B x3), [], [], [], [], (B x3), []⟩], [⟨38, [(I (a0.length : Int)), (I 2), (I 5)], [], (B x3), [], [], [], [], (B x3), []⟩]⟩ [c_ 15] (alc (cok0 false (a2c (.z .s) (a2c (.z .s) (a2c (.z .s) a2n))) (.z .s) (fun h => absurd h (by decide))) aln) (acal (spec_l01In.J (a0.length : Int) 2 5 _ hx3) nocal) ?_
      have h := Option.some.inj h
      subst h
      exact .fin0 [] (B x3) [] aln (.z .s)
theorem spec_l07Line.J (k : Nat) (a0 : (List Int)) (r : Bool) (h : spec_l07Line.f k a0 = some r) : J prog (.call 37 [(.sl true a0.length 1 (a0.flatMap encI))] [] (B r) []) := by
  unfold spec_l07Line.f at h
  have ih0 := spec_l07Line.lab k
  refine .call' [c_ 2, c_ 3] ?_
  refine .reg' [0] [] ⟨[(0, (.sl true a0.length 1 (a0.flatMap encI)))], [], [], []⟩ [c_ 12, c_ 13, c_ 7] aln nocal ?_
  refine .reg' [0, 3] [] ⟨[(0, (.sl true a0.length 1 (a0.flatMap encI))), (3, (I 0))], [], [], []⟩ [l_ 26, b_ 0, c_ 7] aln nocal ?_
  exact ih0 a0 0 _ h
/-! spec_SinglesOk: function 13 -/
def spec_SinglesOk.l0 : Nat → (List Int) → (List S44) → Int → Option Bool
 | 0, _, _, _ => none
 | k + 1, a0, a1, x2 => (if x2 < (a1.length : Int) then (if 0 ≤ x2 then ((spec_l01In.f ((at_ a1 x2).f0) 0 (wrap64 ((wrap64 (2 * (a0.length : Int))) - 2))).bind fun x3 => (if x3 = true then ((spec_l01In.f ((at_ a1 x2).f1) 0 (wrap64 ((wrap64 (2 * (a0.length : Int))) - 2))).bind fun x4 => (if x4 = true then (if ((at_ a1 x2).f1.tmod (2 : Int)) = 0 then ((spec_l07At.f k a1 ((at_ a1 x2).f0)).bind fun x5 => ((spec_l07Fits.f a0 ((at_ a1 x2).f0)).bind fun x6 => (if x5 > x6 then (some false) else (spec_SinglesOk.l0 k a0 a1 (wrap64 (x2 + 1)))))) else (some false)) else (some false))) else (some false))) else none) else (some true))
def spec_SinglesOk.f (k : Nat) (a0 : (List Int)) (a1 : (List S44)) : Option Bool := ((spec_l07Line.f k a0).bind fun x1 => (if x1 = true then (if (a1.length : Int) > 4 then (some false) else (spec_SinglesOk.l0 k a0 a1 0)) else (some false)))
theorem spec_SinglesOk.lab : ∀ k, (∀ (a0 : (List Int)) (a1 : (List S44)) (x2 : Int) (r : Bool), spec_SinglesOk.l0 k a0 a1 x2 = some r → J prog (.run 13 [] [l_ 122, b_ 0, c_ 31] [(0, (.sl true a0.length 1 (a0.flatMap encI))), (1, (.sl true a1.length 2 (a1.flatMap e44))), (5, (I (wrap64 ((wrap64 (2 * (a0.length : Int))) - 2)))), (6, (I x2))] [] (B r) []))
 | 0 => (by intro a0 a1 x2 r h; unfold spec_SinglesOk.l0 at h; cases h)
 | k + 1 => by
  have ih0 := spec_SinglesOk.lab k
  · intro a0 a1 x2 r h
    unfold spec_SinglesOk.l0 at h
    refine .loop' [c_ 976, c_ 977, c_ 489, l_ 122, b_ 0, c_ 31] ?_
    refine .reg' [0, 1, 5, 6, 23] [] ⟨[(0, (.sl true a0.length 1 (a0.flatMap encI))), (1, (.sl true a1.length 2 (a1.flatMap e44))), (5, (I (wrap64 ((wrap64 (2 * (a0.length : Int))) - 2)))), (6, (I x2)), (23, (B (decide (x2 < (a1.length : Int)))))], [], [], []⟩ [c_ 977, c_ 489, l_ 122, b_ 0, c_ 31] aln nocal ?_
    by_cases c3 : x2 < (a1.length : Int)
    · rw [if_pos c3] at h
      refine .cond' (.tmp 23) true [c_ 3912, c_ 3913, b_ 1, c_ 979, l_ 122, b_ 0, c_ 31] (bT (dT c3)) ?_
      by_cases c4 : 0 ≤ x2
      · rw [if_pos c4] at h
        refine .reg' [0, 1, 5, 6, 7] [.no, .no, .no, .v (.ag [(I (at_ a1 x2).f0), (I (at_ a1 x2).f1)])] ⟨[(0, (.sl true a0.length 1 (a0.flatMap encI))), (1, (.sl true a1.length 2 (a1.flatMap e44))), (5, (I (wrap64 ((wrap64 (2 * (a0.length : Int))) - 2)))), (6, (I x2)), (7, (.pt 2052 0 2))], [(2052, [(I (at_ a1 x2).f0), (I (at_ a1 x2).f1)])], [(0 : Int) ≤ x2 ∧ x2 < (a1.length : Int), rdC prog 45 ((a1.flatMap e44).drop (x2.toNat * 2)) = (.ag [(I (at_ a1 x2).f0), (I (at_ a1 x2).f1)]), 2 ≤ ((a1.flatMap e44).drop (x2.toNat * 2)).length, 2 = 2 ∧ 0 + 2 ≤ 2], []⟩ [c_ 7826, c_ 7827, b_ 1, c_ 979, l_ 122, b_ 0, c_ 31] (alc ⟨c4, c3⟩ (alc (ldA e44_ok rfl rfl c4 c3) (alc (okI e44_ok c4 c3 (by decide)) (alc ⟨rfl, by decide⟩ aln)))) nocal ?_
        obtain ⟨x3, hx3, h⟩ := Option.bind_eq_some_iff.mp h
        by_cases c5 : x3 = true
        · rw [if_pos c5] at h
          obtain ⟨x4, hx4, h⟩ := Option.bind_eq_some_iff.mp h
          by_cases c6 : x4 = true
          · rw [if_pos c6] at h
            by_cases c7 : ((at_ a1 x2).f1.tmod (2 : Int)) = 0
            · rw [if_pos c7] at h
              obtain ⟨x5, hx5, h⟩ := Option.bind_eq_some_iff.mp h
              obtain ⟨x6, hx6, h⟩ := Option.bind_eq_some_iff.mp h
              refine .reg' [0, 1, 5, 6, 58] [.no, .no, .no, .c ⟨38, [(I (at_ a1 x2).f0), (I 0), (I (wrap64 ((wrap64 (2 * (a0.length : Int))) - 2)))], [], (B x3), [], [], [], [], (B x3), []⟩, .no, .v (B false), .no, .no, .no, .c ⟨38, [(I (at_ a1 x2).f1), (I 0), (I (wrap64 ((wrap64 (2 * (a0.length : Int))) - 2)))], [], (B x4), [], [], [], [], (B x4), []⟩, .no, .no, .v (B false), .no, .no, .no, .no, .no, .v (B false), .no, .no, .no, .c ⟨39, [(.sl true a1.length 2 (a1.flatMap e44)), (I (at_ a1 x2).f0)], [], (I x5), [], [], [], [], (I x5), []⟩, .no, .no, .no, .c ⟨40, [(.sl true a0.length 1 (a0.flatMap encI)), (I (at_ a1 x2).f0)], [], (I x6), [], [], [], [], (I x6), []⟩] ⟨[(0, (.sl true a0.length 1 (a0.flatMap encI))), (1, (.sl true a1.length 2 (a1.flatMap e44))), (5, (I (wrap64 ((wrap64 (2 * (a0.length : Int))) - 2)))), (6, (I x2)), (58, (B (decide (x5 > x6))))], [(2052, [(I (at_ a1 x2).f0), (I (at_ a1 x2).f1)])], [2 = 2 ∧ 0 + 1 ≤ 2, COK (hget [(2052, [(I (at_ a1 x2).f0), (I (at_ a1 x2).f1)])]) [(I (at_ a1 x2).f0), (I 0), (I (wrap64 ((wrap64 (2 * (a0.length : Int))) - 2)))] ⟨38, [(I (at_ a1 x2).f0), (I 0), (I (wrap64 ((wrap64 (2 * (a0.length : Int))) - 2)))], [], (B x3), [], [], [], [], (B x3), []⟩, (B (!x3) : V) = B false, 2 = 2 ∧ 1 + 1 ≤ 2, COK (hget [(2052, [(I (at_ a1 x2).f0), (I (at_ a1 x2).f1)])]) [(I (at_ a1 x2).f1), (I 0), (I (wrap64 ((wrap64 (2 * (a0.length : Int))) - 2)))] ⟨38, [(I (at_ a1 x2).f1), (I 0), (I (wrap64 ((wrap64 (2 * (a0.length : Int))) - 2)))], [], (B x4), [], [], [], [], (B x4), []⟩, (B (!x4) : V) = B false, 2 = 2 ∧ 1 + 1 ≤ 2, (2 : Int) ≠ 0, (B (!(((at_ a1 x2).f1.tmod (2 : Int)) == 0)) : V) = B false, 2 = 2 ∧ 0 + 1 ≤ 2, COK (hget [(2052, [(I (at_ a1 x2).f0), (I (at_ a1 x2).f1)])]) [(.sl true a1.length 2 (a1.flatMap e44)), (I (at_ a1 x2).f0)] ⟨39, [(.sl true a1.length 2 (a1.flatMap e44)), (I (at_ a1 x2).f0)], [], (I x5), [], [], [], [], (I x5), []⟩, 2 = 2 ∧ 0 + 1 ≤ 2, COK (hget [(2052, [(I (at_ a1 x2).f0), (I (at_ a1 x2).f1)])]) [(.sl true a0.length 1 (a0.flatMap encI)), (I (at_ a1 x2).f0)] ⟨40, [(.sl true a0.length 1 (a0.flatMap encI)), (I (at_ a1 x2).f0)], [], (I x6), [], [], [], [], (I x6), []⟩], [⟨38, [(I (at_ a1 x2).f0), (I 0), (I (wrap64 ((wrap64 (2 * (a0.length : Int))) - 2)))], [], (B x3), [], [], [], [], (B x3), []⟩, ⟨38, [(I (at_ a1 x2).f1), (I 0), (I (wrap64 ((wrap64 (2 * (a0.length : Int))) - 2)))], [], (B x4), [], [], [], [], (B x4), []⟩, ⟨39, [(.sl true a1.length 2 (a1.flatMap e44)), (I (at_ a1 x2).f0)], [], (I x5), [], [], [], [], (I x5), []⟩, ⟨40, [(.sl true a0.length 1 (a0.flatMap encI)), (I (at_ a1 x2).f0)], [], (I x6), [], [], [], [], (I x6), []⟩]⟩ [c_ 7827, b_ 1, c_ 979, l_ 122, b_ 0, c_ 31] (alc ⟨rfl, by decide⟩ (alc (cok0 false (a2c (.z .s) (a2c (.z .s) (a2c (.z .s) a2n))) (.z .s) (fun h => absurd h (by decide))) (alc (bF (nF c5)) (alc ⟨rfl, by decide⟩ (alc (cok0 false (a2c (.z .s) (a2c (.z .s) (a2c (.z .s) a2n))) (.z .s) (fun h => absurd h (by decide))) (alc (bF (nF c6)) (alc ⟨rfl, by decide⟩ (alc (by decide) (alc (bF (nF (qT c7))) (alc ⟨rfl, by decide⟩ (alc (cok0 false (a2c (.z (frz_sl e44_ok (fun h => h))) (a2c (.z .s) a2n)) (.z .s) (fun h => absurd h (by decide))) (alc ⟨rfl, by decide⟩ (alc (cok0 false (a2c (.z (frz_sl encI_ok (fun h => h))) (a2c (.z .s) a2n)) (.z .s) (fun h => absurd h (by decide))) aln))))))))))))) (acal (spec_l01In.J ((at_ a1 x2).f0) 0 (wrap64 ((wrap64 (2 * (a0.length : Int))) - 2)) _ hx3) (acal (spec_l01In.J ((at_ a1 x2).f1) 0 (wrap64 ((wrap64 (2 * (a0.length : Int))) - 2)) _ hx4) (acal (spec_l07At.J k a1 ((at_ a1 x2).f0) _ hx5) (acal (spec_l07Fits.J a0 ((at_ a1 x2).f0) _ hx6) nocal)))) ?_
              by_cases c8 : x5 > x6
              · rw [if_pos c8] at h
                refine .cond' (.tmp 58) true [c_ 31308, c_ 31309, b_ 1, c_ 979, l_ 122, b_ 0, c_ 31] (bT (dT c8)) ?_
                refine .reg' [4] [] ⟨[(4, (B false))], [(2052, [(I (at_ a1 x2).f0), (I (at_ a1 x2).f1)])], [], []⟩ [c_ 31309, b_ 1, c_ 979, l_ 122, b_ 0, c_ 31] aln nocal ?_
                have h := Option.some.inj h
                subst h
                exact .fin0 [] (B false) [] aln (.z .s)
              · rw [if_neg c8] at h
                refine .cond' (.tmp 58) false [c_ 979, l_ 122, b_ 0, c_ 31] (bF (dF c8)) ?_
                refine .reg' [0, 1, 5, 6] [] ⟨[(0, (.sl true a0.length 1 (a0.flatMap encI))), (1, (.sl true a1.length 2 (a1.flatMap e44))), (5, (I (wrap64 ((wrap64 (2 * (a0.length : Int))) - 2)))), (6, (I (wrap64 (x2 + 1))))], [(2052, [(I (at_ a1 x2).f0), (I (at_ a1 x2).f1)])], [], []⟩ [l_ 122, b_ 0, c_ 31] aln nocal ?_
                refine .wk' [] [] [(0, (.sl true a0.length 1 (a0.flatMap encI))), (1, (.sl true a1.length 2 (a1.flatMap e44))), (5, (I (wrap64 ((wrap64 (2 * (a0.length : Int))) - 2)))), (6, (I (wrap64 (x2 + 1))))] [] shn (enc_ (.z (frz_sl encI_ok (fun h => h))) (enc_ (.z (frz_sl e44_ok (fun h => h))) (enc_ (.z .s) (enc_ (.z .s) enn)))) ?_
                exact ih0 a0 a1 (wrap64 (x2 + 1)) _ h
            · rw [if_neg c7] at h
              refine .reg' [0, 1, 5, 6, 58] [.no, .no, .no, .c ⟨38, [(I (at_ a1 x2).f0), (I 0), (I (wrap64 ((wrap64 (2 * (a0.length : Int))) - 2)))], [], (B x3), [], [], [], [], (B x3), []⟩, .no, .v (B false), .no, .no, .no, .c ⟨38, [(I (at_ a1 x2).f1), (I 0), (I (wrap64 ((wrap64 (2 * (a0.length : Int))) - 2)))], [], (B x4), [], [], [], [], (B x4), []⟩, .no, .no, .v (B false), .no, .no, .no, .no, .no, .v (B true)] ⟨[(0, (.sl true a0.length 1 (a0.flatMap encI))), (1, (.sl true a1.length 2 (a1.flatMap e44))), (5, (I (wrap64 ((wrap64 (2 * (a0.length : Int))) - 2)))), (6, (I x2)), (58, (B true))], [(2052, [(I (at_ a1 x2).f0), (I (at_ a1 x2).f1)])], [2 = 2 ∧ 0 + 1 ≤ 2, COK (hget [(2052, [(I (at_ a1 x2).f0), (I (at_ a1 x2).f1)])]) [(I (at_ a1 x2).f0), (I 0), (I (wrap64 ((wrap64 (2 * (a0.length : Int))) - 2)))] ⟨38, [(I (at_ a1 x2).f0), (I 0), (I (wrap64 ((wrap64 (2 * (a0.length : Int))) - 2)))], [], (B x3), [], [], [], [], (B x3), []⟩, (B (!x3) : V) = B false, 2 = 2 ∧ 1 + 1 ≤ 2, COK (hget [(2052, [(I (at_ a1 x2).f0), (I (at_ a1 x2).f1)])]) [(I (at_ a1 x2).f1), (I 0), (I (wrap64 ((wrap64 (2 * (a0.length : Int))) - 2)))] ⟨38, [(I (at_ a1 x2).f1), (I 0), (I (wrap64 ((wrap64 (2 * (a0.length : Int))) - 2)))], [], (B x4), [], [], [], [], (B x4), []⟩, (B (!x4) : V) = B false, 2 = 2 ∧ 1 + 1 ≤ 2, (2 : Int) ≠ 0, (B (!(((at_ a1 x2).f1.tmod (2 : Int)) == 0)) : V) = B true], [⟨38, [(I (at_ a1 x2).f0), (I 0), (I (wrap64 ((wrap64 (2 * (a0.length : Int))) - 2)))], [], (B x3), [], [], [], [], (B x3), []⟩, ⟨38, [(I (at_ a1 x2).f1), (I 0), (I (wrap64 ((wrap64 (2 * (a0.length : Int))) - 2)))], [], (B x4), [], [], [], [], (B x4), []⟩]⟩ [c_ 7827, b_ 1, c_ 979, l_ 122, b_ 0, c_ 31] (alc ⟨rfl, by decide⟩ (alc (cok0 false (a2c (.z .s) (a2c (.z .s) (a2c (.z .s) a2n))) (.z .s) (fun h => absurd h (by decide))) (alc (bF (nF c5)) (alc ⟨rfl, by decide⟩ (alc (cok0 false (a2c (.z .s) (a2c (.z .s) (a2c (.z .s) a2n))) (.z .s) (fun h => absurd h (by decide))) (alc (bF (nF c6)) (alc ⟨rfl, by decide⟩ (alc (by decide) (alc (bT (nT (qF c7))) aln))))))))) (acal (spec_l01In.J ((at_ a1 x2).f0) 0 (wrap64 ((wrap64 (2 * (a0.length : Int))) - 2)) _ hx3) (acal (spec_l01In.J ((at_ a1 x2).f1) 0 (wrap64 ((wrap64 (2 * (a0.length : Int))) - 2)) _ hx4) nocal)) ?_
              refine .cond' (.tmp 58) true [c_ 31308, c_ 31309, b_ 1, c_ 979, l_ 122, b_ 0, c_ 31] (rfl) ?_
              refine .reg' [4] [] ⟨[(4, (B false))], [(2052, [(I (at_ a1 x2).f0), (I (at_ a1 x2).f1)])], [], []⟩ [c_ 31309, b_ 1, c_ 979, l_ 122, b_ 0, c_ 31] aln nocal ?_
              have h := Option.some.inj h
              subst h
              exact .fin0 [] (B false) [] aln (.z .s)
          · rw [if_neg c6] at h
            refine .reg' [0, 1, 5, 6, 58] [.no, .no, .no, .c ⟨38, [(I (at_ a1 x2).f0), (I 0), (I (wrap64 ((wrap64 (2 * (a0.length : Int))) - 2)))], [], (B x3), [], [], [], [], (B x3), []⟩, .no, .v (B false), .no, .no, .no, .c ⟨38, [(I (at_ a1 x2).f1), (I 0), (I (wrap64 ((wrap64 (2 * (a0.length : Int))) - 2)))], [], (B x4), [], [], [], [], (B x4), []⟩, .no, .no, .v (B true)] ⟨[(0, (.sl true a0.length 1 (a0.flatMap encI))), (1, (.sl true a1.length 2 (a1.flatMap e44))), (5, (I (wrap64 ((wrap64 (2 * (a0.length : Int))) - 2)))), (6, (I x2)), (58, (B true))], [(2052, [(I (at_ a1 x2).f0), (I (at_ a1 x2).f1)])], [2 = 2 ∧ 0 + 1 ≤ 2, COK (hget [(2052, [(I (at_ a1 x2).f0), (I (at_ a1 x2).f1)])]) [(I (at_ a1 x2).f0), (I 0), (I (wrap64 ((wrap64 (2 * (a0.length : Int))) - 2)))] ⟨38, [(I (at_ a1 x2).f0), (I 0), (I (wrap64 ((wrap64 (2 * (a0.length : Int))) - 2)))], [], (B x3), [], [], [], [], (B x3), []⟩, (B (!x3) : V) = B false, 2 = 2 ∧ 1 + 1 ≤ 2, COK (hget [(2052, [(I (at_ a1 x2).f0), (I (at_ a1 x2).f1)])]) [(I (at_ a1 x2).f1), (I 0), (I (wrap64 ((wrap64 (2 * (a0.length : Int))) - 2)))] ⟨38, [(I (at_ a1 x2).f1), (I 0), (I (wrap64 ((wrap64 (2 * (a0.length : Int))) - 2)))], [], (B x4), [], [], [], [], (B x4), []⟩, (B (!x4) : V) = B true], [⟨38, [(I (at_ a1 x2).f0), (I 0), (I (wrap64 ((wrap64 (2 * (a0.length : Int))) - 2)))], [], (B x3), [], [], [], [], (B x3), []⟩, ⟨38, [(I (at_ a1 x2).f1), (I 0), (I (wrap64 ((wrap64 (2 * (a0.length : Int))) - 2)))], [], (B x4), [], [], [], [], (B x4), []⟩]⟩ [c_ 7827, b_ 1, c_ 979, l_ 122, b_ 0, c_ 31] (alc ⟨rfl, by decide⟩ (alc (cok0 false (a2c (.z .s) (a2c (.z .s) (a2c (.z .s) a2n))) (.z .s) (fun h => absurd h (by decide))) (alc (bF (nF c5)) (alc ⟨rfl, by decide⟩ (alc (cok0 false (a2c (.z .s) (a2c (.z .s) (a2c (.z .s) a2n))) (.z .s) (fun h => absurd h (by decide))) (alc (bT (nT (vF c6))) aln)))))) (acal (spec_l01In.J ((at_ a1 x2).f0) 0 (wrap64 ((wrap64 (2 * (a0.length : Int))) - 2)) _ hx3) (acal (spec_l01In.J ((at_ a1 x2).f1) 0 (wrap64 ((wrap64 (2 * (a0.length : Int))) - 2)) _ hx4) nocal)) ?_
            refine .cond' (.tmp 58) true [c_ 31308, c_ 31309, b_ 1, c_ 979, l_ 122, b_ 0, c_ 31] (rfl) ?_
            refine .reg' [4] [] ⟨[(4, (B false))], [(2052, [(I (at_ a1 x2).f0), (I (at_ a1 x2).f1)])], [], []⟩ [c_ 31309, b_ 1, c_ 979, l_ 122, b_ 0, c_ 31] aln nocal ?_
            have h := Option.some.inj h
            subst h
            exact .fin0 [] (B false) [] aln (.z .s)
        · rw [if_neg c5] at h
          refine .reg' [0, 1, 5, 6, 58] [.no, .no, .no, .c ⟨38, [(I (at_ a1 x2).f0), (I 0), (I (wrap64 ((wrap64 (2 * (a0.length : Int))) - 2)))], [], (B x3), [], [], [], [], (B x3), []⟩, .no, .v (B true)] ⟨[(0, (.sl true a0.length 1 (a0.flatMap encI))), (1, (.sl true a1.length 2 (a1.flatMap e44))), (5, (I (wrap64 ((wrap64 (2 * (a0.length : Int))) - 2)))), (6, (I x2)), (58, (B true))], [(2052, [(I (at_ a1 x2).f0), (I (at_ a1 x2).f1)])], [2 = 2 ∧ 0 + 1 ≤ 2, COK (hget [(2052, [(I (at_ a1 x2).f0), (I (at_ a1 x2).f1)])]) [(I (at_ a1 x2).f0), (I 0), (I (wrap64 ((wrap64 (2 * (a0.length : Int))) - 2)))] ⟨38, [(I (at_ a1 x2).f0), (I 0), (I (wrap64 ((wrap64 (2 * (a0.length : Int))) - 2)))], [], (B x3), [], [], [], [], (B x3), []⟩, (B (!x3) : V) = B true], [⟨38, [(I (at_ a1 x2).f0), (I 0), (I (wrap64 ((wrap64 (2 * (a0.length : Int))) - 2)))], [], (B x3), [], [], [], [], (B x3), []⟩]⟩ [c_ 7827, b_ 1, c_ 979, l_ 122, b_ 0, c_ 31] (alc ⟨rfl, by decide⟩ (alc (cok0 false (a2c (.z .s) (a2c (.z .s) (a2c (.z .s) a2n))) (.z .s) (fun h => absurd h (by decide))) (alc (bT (nT (vF c5))) aln))) (acal (spec_l01In.J ((at_ a1 x2).f0) 0 (wrap64 ((wrap64 (2 * (a0.length : Int))) - 2)) _ hx3) nocal) ?_
          refine .cond' (.tmp 58) true [c_ 31308, c_ 31309, b_ 1, c_ 979, l_ 122, b_ 0, c_ 31] (rfl) ?_
          refine .reg' [4] [] ⟨[(4, (B false))], [(2052, [(I (at_ a1 x2).f0), (I (at_ a1 x2).f1)])], [], []⟩ [c_ 31309, b_ 1, c_ 979, l_ 122, b_ 0, c_ 31] aln nocal ?_
          have h := Option.some.inj h
          subst h
          exact .fin0 [] (B false) [] aln (.z .s)
      · rw [if_neg c4] at h
        cases h
    · rw [if_neg c3] at h
      refine .cond' (.tmp 23) false [c_ 62, c_ 63] (bF (dF c3)) ?_
      refine .reg' [4] [] ⟨[(4, (B true))], [], [], []⟩ [c_ 63] aln nocal ?_
      have h := Option.some.inj h
      subst h
      exact .fin0 [] (B true) [] aln (.z .s)
theorem spec_SinglesOk.J (k : Nat) (a0 : (List Int)) (a1 : (List S44)) (r : Bool) (h : spec_SinglesOk.f k a0 a1 = some r) : J prog (.call 13 [(.sl true a0.length 1 (a0.flatMap encI)), (.sl true a1.length 2 (a1.flatMap e44))] [] (B r) []) := by
  unfold spec_SinglesOk.f at h
  have ih0 := spec_SinglesOk.lab k
  refine .call' [c_ 2, c_ 3] ?_
  refine .reg' [0, 1] [] ⟨[(0, (.sl true a0.length 1 (a0.flatMap encI))), (1, (.sl true a1.length 2 (a1.flatMap e44)))], [], [], []⟩ [c_ 12, c_ 13, c_ 7] aln nocal ?_
  obtain ⟨x1, hx1, h⟩ := Option.bind_eq_some_iff.mp h
  by_cases c1 : x1 = true
  · rw [if_pos c1] at h
    refine .reg' [0, 1, 15] [.no, .c ⟨37, [(.sl true a0.length 1 (a0.flatMap encI))], [], (B x1), [], [], [], [], (B x1), []⟩, .no, .v (B false)] ⟨[(0, (.sl true a0.length 1 (a0.flatMap encI))), (1, (.sl true a1.length 2 (a1.flatMap e44))), (15, (B (decide ((a1.length : Int) > 4))))], [], [COK (hget []) [(.sl true a0.length 1 (a0.flatMap encI))] ⟨37, [(.sl true a0.length 1 (a0.flatMap encI))], [], (B x1), [], [], [], [], (B x1), []⟩, (B (!x1) : V) = B false], [⟨37, [(.sl true a0.length 1 (a0.flatMap encI))], [], (B x1), [], [], [], [], (B x1), []⟩]⟩ [c_ 13, c_ 7] (alc (cok0 false (a2c (.z (frz_sl encI_ok (fun h => h))) a2n) (.z .s) (fun h => absurd h (by decide))) (alc (bF (nF c1)) aln)) (acal (spec_l07Line.J k a0 _ hx1) nocal) ?_
    by_cases c2 : (a1.length : Int) > 4
    · rw [if_pos c2] at h
      refine .cond' (.tmp 15) true [c_ 52, c_ 53, c_ 7] (bT (dT c2)) ?_
      refine .reg' [4] [] ⟨[(4, (B false))], [], [], []⟩ [c_ 53, c_ 7] aln nocal ?_
      have h := Option.some.inj h
      subst h
      exact .fin0 [] (B false) [] aln (.z .s)
    · rw [if_neg c2] at h
      refine .cond' (.tmp 15) false [c_ 14, c_ 15] (bF (dF c2)) ?_
      refine .reg' [0, 1, 5] [] ⟨[(0, (.sl true a0.length 1 (a0.flatMap encI))), (1, (.sl true a1.length 2 (a1.flatMap e44))), (5, (I (wrap64 ((wrap64 (2 * (a0.length : Int))) - 2))))], [], [], []⟩ [c_ 60, c_ 61, c_ 31] aln nocal ?_
      refine .reg' [0, 1, 5, 6] [] ⟨[(0, (.sl true a0.length 1 (a0.flatMap encI))), (1, (.sl true a1.length 2 (a1.flatMap e44))), (5, (I (wrap64 ((wrap64 (2 * (a0.length : Int))) - 2)))), (6, (I 0))], [], [], []⟩ [l_ 122, b_ 0, c_ 31] aln nocal ?_
      exact ih0 a0 a1 0 _ h
  · rw [if_neg c1] at h
    refine .reg' [0, 1, 15] [.no, .c ⟨37, [(.sl true a0.length 1 (a0.flatMap encI))], [], (B x1), [], [], [], [], (B x1), []⟩, .no, .v (B true)] ⟨[(0, (.sl true a0.length 1 (a0.flatMap encI))), (1, (.sl true a1.length 2 (a1.flatMap e44))), (15, (B true))], [], [COK (hget []) [(.sl true a0.length 1 (a0.flatMap encI))] ⟨37, [(.sl true a0.length 1 (a0.flatMap encI))], [], (B x1), [], [], [], [], (B x1), []⟩, (B (!x1) : V) = B true], [⟨37, [(.sl true a0.length 1 (a0.flatMap encI))], [], (B x1), [], [], [], [], (B x1), []⟩]⟩ [c_ 13, c_ 7] (alc (cok0 false (a2c (.z (frz_sl encI_ok (fun h => h))) a2n) (.z .s) (fun h => absurd h (by decide))) (alc (bT (nT (vF c1))) aln)) (acal (spec_l07Line.J k a0 _ hx1) nocal) ?_
    refine .cond' (.tmp 15) true [c_ 52, c_ 53, c_ 7] (rfl) ?_
    refine .reg' [4] [] ⟨[(4, (B false))], [], [], []⟩ [c_ 53, c_ 7] aln nocal ?_
    have h := Option.some.inj h
    subst h
    exact .fin0 [] (B false) [] aln (.z .s)
/-! spec_l07Next: function 45 -/
def spec_l07Next.f (a0 : S44) : Option Int := (if a0.f0 < a0.f1 then (some (wrap64 (a0.f0 + 1))) else (some (wrap64 (a0.f0 - 1))))
theorem spec_l07Next.J (a0 : S44) (r : Int) (h : spec_l07Next.f a0 = some r) : J prog (.call 45 [(.ag [(I a0.f0), (I a0.f1)])] [] (I r) []) := by
  unfold spec_l07Next.f at h
  refine .call' [c_ 2, c_ 3] ?_
  refine .reg' [1] [] ⟨[(1, (.pt 256 0 2))], [(256, [(I a0.f0), (I a0.f1)])], [], []⟩ [c_ 12, c_ 13, c_ 7] aln nocal ?_
  refine .reg' [1, 7] [] ⟨[(1, (.pt 256 0 2)), (7, (B (decide (a0.f0 < a0.f1))))], [(256, [(I a0.f0), (I a0.f1)])], [2 = 2 ∧ 0 + 1 ≤ 2, 2 = 2 ∧ 1 + 1 ≤ 2], []⟩ [c_ 13, c_ 7] (alc ⟨rfl, by decide⟩ (alc ⟨rfl, by decide⟩ aln)) nocal ?_
  by_cases c1 : a0.f0 < a0.f1
  · rw [if_pos c1] at h
    refine .cond' (.tmp 7) true [c_ 52, c_ 53, c_ 7] (bT (dT c1)) ?_
    refine .reg' [2] [] ⟨[(2, (I (wrap64 (a0.f0 + 1))))], [(256, [(I a0.f0), (I a0.f1)])], [2 = 2 ∧ 0 + 1 ≤ 2], []⟩ [c_ 53, c_ 7] (alc ⟨rfl, by decide⟩ aln) nocal ?_
    have h := Option.some.inj h
    subst h
    exact .fin0 [] (I (wrap64 (a0.f0 + 1))) [] aln (.z .s)
  · rw [if_neg c1] at h
    refine .cond' (.tmp 7) false [c_ 14, c_ 15] (bF (dF c1)) ?_
    refine .reg' [2] [] ⟨[(2, (I (wrap64 (a0.f0 - 1))))], [(256, [(I a0.f0), (I a0.f1)])], [2 = 2 ∧ 0 + 1 ≤ 2], []⟩ [c_ 15] (alc ⟨rfl, by decide⟩ aln) nocal ?_
    have h := Option.some.inj h
    subst h
    exact .fin0 [] (I (wrap64 (a0.f0 - 1))) [] aln (.z .s)
/-! spec_MayMove: function 19 -/
def spec_MayMove.f (k : Nat) (a0 : (List Int)) (a1 : (List S44)) (a2 : Int) : Option Bool := ((spec_SinglesOk.f k a0 a1).bind fun x1 => (if x1 = true then ((spec_l01In.f a2 0 (wrap64 ((a1.length : Int) - 1))).bind fun x2 => (if x2 = true then (if 0 ≤ a2 then (if a2 < (a1.length : Int) then (if (at_ a1 a2).f0 = (at_ a1 a2).f1 then (some false) else ((spec_l07Next.f (at_ a1 a2)).bind fun x3 => ((spec_l07At.f k a1 x3).bind fun x4 => ((spec_l07Fits.f a0 x3).bind fun x5 => (some (decide (x4 < x5))))))) else none) else none) else (some false))) else (some false)))
theorem spec_MayMove.J (k : Nat) (a0 : (List Int)) (a1 : (List S44)) (a2 : Int) (r : Bool) (h : spec_MayMove.f k a0 a1 a2 = some r) : J prog (.call 19 [(.sl true a0.length 1 (a0.flatMap encI)), (.sl true a1.length 2 (a1.flatMap e44)), (I a2)] [] (B r) []) := by
  unfold spec_MayMove.f at h
  refine .call' [c_ 2, c_ 3] ?_
  refine .reg' [0, 1, 2] [] ⟨[(0, (.sl true a0.length 1 (a0.flatMap encI))), (1, (.sl true a1.length 2 (a1.flatMap e44))), (2, (I a2))], [], [], []⟩ [c_ 12, c_ 13, c_ 7] aln nocal ?_
  obtain ⟨x1, hx1, h⟩ := Option.bind_eq_some_iff.mp h
  by_cases c1 : x1 = true
  · rw [if_pos c1] at h
    obtain ⟨x2, hx2, h⟩ := Option.bind_eq_some_iff.mp h
    by_cases c2 : x2 = true
    · rw [if_pos c2] at h
      by_cases c3 : 0 ≤ a2
      · rw [if_pos c3] at h
        by_cases c4 : a2 < (a1.length : Int)
        · rw [if_pos c4] at h
          refine .reg' [0, 1, 2, 32] [.no, .no, .c ⟨13, [(.sl true a0.length 1 (a0.flatMap encI)), (.sl true a1.length 2 (a1.flatMap e44))], [], (B x1), [], [], [], [], (B x1), []⟩, .no, .v (B false), .no, .no, .no, .no, .c ⟨38, [(I a2), (I 0), (I (wrap64 ((a1.length : Int) - 1)))], [], (B x2), [], [], [], [], (B x2), []⟩, .no, .no, .v (B false), .no, .no, .no, .no, .v (I (at_ a1 a2).f0), .no, .no, .no, .no, .v (I (at_ a1 a2).f1)] ⟨[(0, (.sl true a0.length 1 (a0.flatMap encI))), (1, (.sl true a1.length 2 (a1.flatMap e44))), (2, (I a2)), (32, (B ((at_ a1 a2).f0 == (at_ a1 a2).f1)))], [], [COK (hget []) [(.sl true a0.length 1 (a0.flatMap encI)), (.sl true a1.length 2 (a1.flatMap e44))] ⟨13, [(.sl true a0.length 1 (a0.flatMap encI)), (.sl true a1.length 2 (a1.flatMap e44))], [], (B x1), [], [], [], [], (B x1), []⟩, (B (!x1) : V) = B false, COK (hget []) [(I a2), (I 0), (I (wrap64 ((a1.length : Int) - 1)))] ⟨38, [(I a2), (I 0), (I (wrap64 ((a1.length : Int) - 1)))], [], (B x2), [], [], [], [], (B x2), []⟩, (B (!x2) : V) = B false, (0 : Int) ≤ a2 ∧ a2 < (a1.length : Int), rdC prog 3 (((a1.flatMap e44).drop (a2.toNat * 2)).drop 0) = (I (at_ a1 a2).f0), 1 ≤ (((a1.flatMap e44).drop (a2.toNat * 2)).drop 0).length, (0 : Int) ≤ a2 ∧ a2 < (a1.length : Int), rdC prog 3 (((a1.flatMap e44).drop (a2.toNat * 2)).drop 1) = (I (at_ a1 a2).f1), 1 ≤ (((a1.flatMap e44).drop (a2.toNat * 2)).drop 1).length], [⟨13, [(.sl true a0.length 1 (a0.flatMap encI)), (.sl true a1.length 2 (a1.flatMap e44))], [], (B x1), [], [], [], [], (B x1), []⟩, ⟨38, [(I a2), (I 0), (I (wrap64 ((a1.length : Int) - 1)))], [], (B x2), [], [], [], [], (B x2), []⟩]⟩ [c_ 13, c_ 7] (alc (cok0 false (a2c (.z (frz_sl encI_ok (fun h => h))) (a2c (.z (frz_sl e44_ok (fun h => h))) a2n)) (.z .s) (fun h => absurd h (by decide))) (alc (bF (nF c1)) (alc (cok0 false (a2c (.z .s) (a2c (.z .s) (a2c (.z .s) a2n))) (.z .s) (fun h => absurd h (by decide))) (alc (bF (nF c2)) (alc ⟨c3, c4⟩ (alc (ldC e44_ok 0 (by decide) rfl c3 c4) (alc (okIj e44_ok c3 c4 (by decide)) (alc ⟨c3, c4⟩ (alc (ldC e44_ok 1 (by decide) rfl c3 c4) (alc (okIj e44_ok c3 c4 (by decide)) aln)))))))))) (acal (spec_SinglesOk.J k a0 a1 _ hx1) (acal (spec_l01In.J a2 0 (wrap64 ((a1.length : Int) - 1)) _ hx2) nocal)) ?_
          by_cases c5 : (at_ a1 a2).f0 = (at_ a1 a2).f1
          · rw [if_pos c5] at h
            refine .cond' (.tmp 32) true [c_ 52, c_ 53, c_ 7] (bT (qT c5)) ?_
            refine .reg' [6] [] ⟨[(6, (B false))], [], [], []⟩ [c_ 53, c_ 7] aln nocal ?_
            have h := Option.some.inj h
            subst h
            exact .fin0 [] (B false) [] aln (.z .s)
          · rw [if_neg c5] at h
            refine .cond' (.tmp 32) false [c_ 14, c_ 15] (bF (qF c5)) ?_
            obtain ⟨x3, hx3, h⟩ := Option.bind_eq_some_iff.mp h
            refine .reg' [0, 1, 7] [.no, .no, .no, .v (.ag [(I (at_ a1 a2).f0), (I (at_ a1 a2).f1)]), .c ⟨45, [(.ag [(I (at_ a1 a2).f0), (I (at_ a1 a2).f1)])], [], (I x3), [], [], [], [], (I x3), []⟩] ⟨[(0, (.sl true a0.length 1 (a0.flatMap encI))), (1, (.sl true a1.length 2 (a1.flatMap e44))), (7, (I x3))], [], [(0 : Int) ≤ a2 ∧ a2 < (a1.length : Int), rdC prog 45 ((a1.flatMap e44).drop (a2.toNat * 2)) = (.ag [(I (at_ a1 a2).f0), (I (at_ a1 a2).f1)]), 2 ≤ ((a1.flatMap e44).drop (a2.toNat * 2)).length, COK (hget []) [(.ag [(I (at_ a1 a2).f0), (I (at_ a1 a2).f1)])] ⟨45, [(.ag [(I (at_ a1 a2).f0), (I (at_ a1 a2).f1)])], [], (I x3), [], [], [], [], (I x3), []⟩], [⟨45, [(.ag [(I (at_ a1 a2).f0), (I (at_ a1 a2).f1)])], [], (I x3), [], [], [], [], (I x3), []⟩]⟩ [c_ 30, c_ 31] (alc ⟨c3, c4⟩ (alc (ldA e44_ok rfl rfl c3 c4) (alc (okI e44_ok c3 c4 (by decide)) (alc (cok0 false (a2c (.z (frz_ag (a2c .s (a2c .s a2n)))) a2n) (.z .s) (fun h => absurd h (by decide))) aln)))) (acal (spec_l07Next.J (at_ a1 a2) _ hx3) nocal) ?_
            obtain ⟨x4, hx4, h⟩ := Option.bind_eq_some_iff.mp h
            obtain ⟨x5, hx5, h⟩ := Option.bind_eq_some_iff.mp h
            refine .reg' [6] [.no, .no, .c ⟨39, [(.sl true a1.length 2 (a1.flatMap e44)), (I x3)], [], (I x4), [], [], [], [], (I x4), []⟩, .no, .no, .c ⟨40, [(.sl true a0.length 1 (a0.flatMap encI)), (I x3)], [], (I x5), [], [], [], [], (I x5), []⟩] ⟨[(6, (B (decide (x4 < x5))))], [], [COK (hget []) [(.sl true a1.length 2 (a1.flatMap e44)), (I x3)] ⟨39, [(.sl true a1.length 2 (a1.flatMap e44)), (I x3)], [], (I x4), [], [], [], [], (I x4), []⟩, COK (hget []) [(.sl true a0.length 1 (a0.flatMap encI)), (I x3)] ⟨40, [(.sl true a0.length 1 (a0.flatMap encI)), (I x3)], [], (I x5), [], [], [], [], (I x5), []⟩], [⟨39, [(.sl true a1.length 2 (a1.flatMap e44)), (I x3)], [], (I x4), [], [], [], [], (I x4), []⟩, ⟨40, [(.sl true a0.length 1 (a0.flatMap encI)), (I x3)], [], (I x5), [], [], [], [], (I x5), []⟩]⟩ [c_ 31] (alc (cok0 false (a2c (.z (frz_sl e44_ok (fun h => h))) (a2c (.z .s) a2n)) (.z .s) (fun h => absurd h (by decide))) (alc (cok0 false (a2c (.z (frz_sl encI_ok (fun h => h))) (a2c (.z .s) a2n)) (.z .s) (fun h => absurd h (by decide))) aln)) (acal (spec_l07At.J k a1 x3 _ hx4) (acal (spec_l07Fits.J a0 x3 _ hx5) nocal)) ?_
            have h := Option.some.inj h
            subst h
            exact .fin0 [] (B (decide (x4 < x5))) [] aln (.z .s)
        · rw [if_neg c4] at h
          cases h
      · rw [if_neg c3] at h
        cases h
    · rw [if_neg c2] at h
      refine .reg' [0, 1, 2, 32] [.no, .no, .c ⟨13, [(.sl true a0.length 1 (a0.flatMap encI)), (.sl true a1.length 2 (a1.flatMap e44))], [], (B x1), [], [], [], [], (B x1), []⟩, .no, .v (B false), .no, .no, .no, .no, .c ⟨38, [(I a2), (I 0), (I (wrap64 ((a1.length : Int) - 1)))], [], (B x2), [], [], [], [], (B x2), []⟩, .no, .no, .v (B true)] ⟨[(0, (.sl true a0.length 1 (a0.flatMap encI))), (1, (.sl true a1.length 2 (a1.flatMap e44))), (2, (I a2)), (32, (B true))], [], [COK (hget []) [(.sl true a0.length 1 (a0.flatMap encI)), (.sl true a1.length 2 (a1.flatMap e44))] ⟨13, [(.sl true a0.length 1 (a0.flatMap encI)), (.sl true a1.length 2 (a1.flatMap e44))], [], (B x1), [], [], [], [], (B x1), []⟩, (B (!x1) : V) = B false, COK (hget []) [(I a2), (I 0), (I (wrap64 ((a1.length : Int) - 1)))] ⟨38, [(I a2), (I 0), (I (wrap64 ((a1.length : Int) - 1)))], [], (B x2), [], [], [], [], (B x2), []⟩, (B (!x2) : V) = B true], [⟨13, [(.sl true a0.length 1 (a0.flatMap encI)), (.sl true a1.length 2 (a1.flatMap e44))], [], (B x1), [], [], [], [], (B x1), []⟩, ⟨38, [(I a2), (I 0), (I (wrap64 ((a1.length : Int) - 1)))], [], (B x2), [], [], [], [], (B x2), []⟩]⟩ [c_ 13, c_ 7] (alc (cok0 false (a2c (.z (frz_sl encI_ok (fun h => h))) (a2c (.z (frz_sl e44_ok (fun h => h))) a2n)) (.z .s) (fun h => absurd h (by decide))) (alc (bF (nF c1)) (alc (cok0 false (a2c (.z .s) (a2c (.z .s) (a2c (.z .s) a2n))) (.z .s) (fun h => absurd h (by decide))) (alc (bT (nT (vF c2))) aln)))) (acal (spec_SinglesOk.J k a0 a1 _ hx1) (acal (spec_l01In.J a2 0 (wrap64 ((a1.length : Int) - 1)) _ hx2) nocal)) ?_
      refine .cond' (.tmp 32) true [c_ 52, c_ 53, c_ 7] (rfl) ?_
      refine .reg' [6] [] ⟨[(6, (B false))], [], [], []⟩ [c_ 53, c_ 7] aln nocal ?_
      have h := Option.some.inj h
      subst h
      exact .fin0 [] (B false) [] aln (.z .s)
  · rw [if_neg c1] at h
    refine .reg' [0, 1, 2, 32] [.no, .no, .c ⟨13, [(.sl true a0.length 1 (a0.flatMap encI)), (.sl true a1.length 2 (a1.flatMap e44))], [], (B x1), [], [], [], [], (B x1), []⟩, .no, .v (B true)] ⟨[(0, (.sl true a0.length 1 (a0.flatMap encI))), (1, (.sl true a1.length 2 (a1.flatMap e44))), (2, (I a2)), (32, (B true))], [], [COK (hget []) [(.sl true a0.length 1 (a0.flatMap encI)), (.sl true a1.length 2 (a1.flatMap e44))] ⟨13, [(.sl true a0.length 1 (a0.flatMap encI)), (.sl true a1.length 2 (a1.flatMap e44))], [], (B x1), [], [], [], [], (B x1), []⟩, (B (!x1) : V) = B true], [⟨13, [(.sl true a0.length 1 (a0.flatMap encI)), (.sl true a1.length 2 (a1.flatMap e44))], [], (B x1), [], [], [], [], (B x1), []⟩]⟩ [c_ 13, c_ 7] (alc (cok0 false (a2c (.z (frz_sl encI_ok (fun h => h))) (a2c (.z (frz_sl e44_ok (fun h => h))) a2n)) (.z .s) (fun h => absurd h (by decide))) (alc (bT (nT (vF c1))) aln)) (acal (spec_SinglesOk.J k a0 a1 _ hx1) nocal) ?_
    refine .cond' (.tmp 32) true [c_ 52, c_ 53, c_ 7] (rfl) ?_
    refine .reg' [6] [] ⟨[(6, (B false))], [], [], []⟩ [c_ 53, c_ 7] aln nocal ?_
    have h := Option.some.inj h
    subst h
    exact .fin0 [] (B false) [] aln (.z .s)
/-! laws_FnStuck: function 11 -/
mutual
def laws_FnStuck.l0 : Nat → ((List Int) × (List S44)) → Int → Option Bool
 | 0, _, _ => none
 | k + 1, x2, x5 => (if x5 < (x2.2.length : Int) then ((impl_MoveOn.f k x2.1 x2.2 x5).bind fun x6 => ((impl_MayMove.f k x2.1 x2.2 x5).bind fun x7 => (if (x6.2 == x7) = true then ((spec_MayMove.f k x2.1 x2.2 x5).bind fun x8 => (if (x6.2 == x8) = true then (if x6.2 = true then (if (x6.1.length : Int) = (x2.2.length : Int) then (laws_FnStuck.j1 k x2 x5 x6) else (some false)) else (laws_FnStuck.j1 k x2 x5 x6)) else (some false))) else (some false)))) else (some true))
def laws_FnStuck.j1 : Nat → ((List Int) × (List S44)) → Int → ((List S44) × Bool) → Option Bool
 | 0, _, _, _ => none
 | k + 1, x2, x5, x6 => (laws_FnStuck.l2 k x2 x5 x6 0)
def laws_FnStuck.l2 : Nat → ((List Int) × (List S44)) → Int → ((List S44) × Bool) → Int → Option Bool
 | 0, _, _, _, _ => none
 | k + 1, x2, x5, x6, x9 => (if x6.2 = true then (if x9 < (x2.2.length : Int) then (if 0 ≤ x9 then (if x9 < (x6.1.length : Int) then (if x9 = x5 then (if (wrap64 ((wrap64 ((at_ x6.1 x9).f0 - (at_ x2.2 x9).f0)) * (wrap64 ((at_ x6.1 x9).f0 - (at_ x2.2 x9).f0)))) = 1 then (laws_FnStuck.l2 k x2 x5 x6 (wrap64 (x9 + 1))) else (some false)) else (if (wrap64 ((at_ x6.1 x9).f0 - (at_ x2.2 x9).f0)) = 0 then (laws_FnStuck.l2 k x2 x5 x6 (wrap64 (x9 + 1))) else (some false))) else none) else none) else (laws_FnStuck.l0 k x2 (wrap64 (x5 + 1)))) else (laws_FnStuck.l0 k x2 (wrap64 (x5 + 1))))
end
def laws_FnStuck.f (k : Nat) (a0 : (List Int)) : Option Bool := ((laws_big.f a0).bind fun x1 => (if x1 = true then (some true) else ((spec_DrawRightSingles.f k a0).bind fun x2 => ((impl_Stuck.f k x2.1 x2.2).bind fun x3 => (if x3 = true then ((impl_CanFinish.f k x2.1 x2.2).bind fun x4 => (some (!x4))) else (laws_FnStuck.l0 k x2 0))))))
theorem laws_FnStuck.lab : ∀ k, (∀ (x2 : ((List Int) × (List S44))) (x5 : Int) (r : Bool), laws_FnStuck.l0 k x2 x5 = some r → J prog (.run 11 [] [l_ 250, b_ 0, c_ 63] [(3, (.rf 1001025 0 x2.1.length 1 (x2.1.length * 1))), (4, (.rf 2001025 0 x2.2.length 2 (x2.2.length * 2))), (5, (I x5))] [(2001025, (x2.2.flatMap e44)), (1001025, (x2.1.flatMap encI))] (B r) [])) ∧ (∀ (x2 : ((List Int) × (List S44))) (x5 : Int) (x6 : ((List S44) × Bool)) (r : Bool), laws_FnStuck.j1 k x2 x5 x6 = some r → J prog (.run 11 [] [c_ 64078, c_ 64079, b_ 1, c_ 2003, l_ 250, b_ 0, c_ 63] [(3, (.rf 1001025 0 x2.1.length 1 (x2.1.length * 1))), (4, (.rf 2001025 0 x2.2.length 2 (x2.2.length * 2))), (5, (I x5)), (6, (.rf 1002563 0 x6.1.length 2 (x6.1.length * 2))), (7, (B x6.2))] [(2001025, (x2.2.flatMap e44)), (1001025, (x2.1.flatMap encI)), (1002563, (x6.1.flatMap e44))] (B r) [])) ∧ (∀ (x2 : ((List Int) × (List S44))) (x5 : Int) (x6 : ((List S44) × Bool)) (x9 : Int) (r : Bool), laws_FnStuck.l2 k x2 x5 x6 x9 = some r → J prog (.run 11 [] [l_ 128158, b_ 2, b_ 1, c_ 2003, l_ 250, b_ 0, c_ 63] [(3, (.rf 1001025 0 x2.1.length 1 (x2.1.length * 1))), (4, (.rf 2001025 0 x2.2.length 2 (x2.2.length * 2))), (5, (I x5)), (6, (.rf 1002563 0 x6.1.length 2 (x6.1.length * 2))), (7, (B x6.2)), (8, (I x9))] [(2001025, (x2.2.flatMap e44)), (1001025, (x2.1.flatMap encI)), (1002563, (x6.1.flatMap e44))] (B r) []))
 | 0 => ⟨(by intro x2 x5 r h; unfold laws_FnStuck.l0 at h; cases h), (by intro x2 x5 x6 r h; unfold laws_FnStuck.j1 at h; cases h), (by intro x2 x5 x6 x9 r h; unfold laws_FnStuck.l2 at h; cases h)⟩
 | k + 1 => by
  obtain ⟨ih0, ih1, ih2⟩ := laws_FnStuck.lab k
  refine ⟨?_, ?_, ?_⟩
  · intro x2 x5 r h
    unfold laws_FnStuck.l0 at h
    refine .loop' [c_ 2000, c_ 2001, c_ 1001, l_ 250, b_ 0, c_ 63] ?_
    refine .reg' [3, 4, 5, 27] [] ⟨[(3, (.rf 1001025 0 x2.1.length 1 (x2.1.length * 1))), (4, (.rf 2001025 0 x2.2.length 2 (x2.2.length * 2))), (5, (I x5)), (27, (B (decide (x5 < (x2.2.length : Int)))))], [(2001025, (x2.2.flatMap e44)), (1001025, (x2.1.flatMap encI))], [], []⟩ [c_ 2001, c_ 1001, l_ 250, b_ 0, c_ 63] aln nocal ?_
    by_cases c3 : x5 < (x2.2.length : Int)
    · rw [if_pos c3] at h
      refine .cond' (.tmp 27) true [c_ 8008, c_ 8009, b_ 1, c_ 2003, l_ 250, b_ 0, c_ 63] (bT (dT c3)) ?_
      obtain ⟨x6, hx6, h⟩ := Option.bind_eq_some_iff.mp h
      refine .reg' [3, 4, 5, 6, 7] [.no, .no, .no, .c ⟨24, [(.sl true x2.1.length 1 (x2.1.flatMap encI)), (.sl true x2.2.length 2 (x2.2.flatMap e44)), (I x5)], [], (.tp [(.rf 1001026 0 x6.1.length 2 (x6.1.length * 2)), (B x6.2)]), [(1001026, (x6.1.flatMap e44))], [1001025, 2001025], [], [(1002563, 1001026)], (.tp [(.rf 1002563 0 x6.1.length 2 (x6.1.length * 2)), (B x6.2)]), [(1002563, (x6.1.flatMap e44))]⟩] ⟨[(3, (.rf 1001025 0 x2.1.length 1 (x2.1.length * 1))), (4, (.rf 2001025 0 x2.2.length 2 (x2.2.length * 2))), (5, (I x5)), (6, (.rf 1002563 0 x6.1.length 2 (x6.1.length * 2))), (7, (B x6.2))], [(2001025, (x2.2.flatMap e44)), (1001025, (x2.1.flatMap encI)), (1002563, (x6.1.flatMap e44))], [COK (hget [(2001025, (x2.2.flatMap e44)), (1001025, (x2.1.flatMap encI))]) [(.rf 1001025 0 x2.1.length 1 (x2.1.length * 1)), (.rf 2001025 0 x2.2.length 2 (x2.2.length * 2)), (I x5)] ⟨24, [(.sl true x2.1.length 1 (x2.1.flatMap encI)), (.sl true x2.2.length 2 (x2.2.flatMap e44)), (I x5)], [], (.tp [(.rf 1001026 0 x6.1.length 2 (x6.1.length * 2)), (B x6.2)]), [(1001026, (x6.1.flatMap e44))], [1001025, 2001025], [], [(1002563, 1001026)], (.tp [(.rf 1002563 0 x6.1.length 2 (x6.1.length * 2)), (B x6.2)]), [(1002563, (x6.1.flatMap e44))]⟩], [⟨24, [(.sl true x2.1.length 1 (x2.1.flatMap encI)), (.sl true x2.2.length 2 (x2.2.flatMap e44)), (I x5)], [], (.tp [(.rf 1001026 0 x6.1.length 2 (x6.1.length * 2)), (B x6.2)]), [(1001026, (x6.1.flatMap e44))], [1001025, 2001025], [], [(1002563, 1001026)], (.tp [(.rf 1002563 0 x6.1.length 2 (x6.1.length * 2)), (B x6.2)]), [(1002563, (x6.1.flatMap e44))]⟩]⟩ [c_ 32036, c_ 32037, c_ 16019, b_ 1, c_ 2003, l_ 250, b_ 0, c_ 63] (alc (cokW false (a2c (.z (frz_rf (k := 1001025) encI_ok (by simp) rfl rfl (row_len encI_ok _).symm)) (a2c (.z (frz_rf (k := 2001025) e44_ok (by simp) rfl rfl (row_len e44_ok _).symm)) (a2c (.z .s) a2n))) akn (akc (.inr rfl) akn) (bck_tp (a2c (.rf (memP_mem (p := (1002563, 1001026)) rfl)) (a2c (.z .s) a2n))) (akc ⟨_, _, rfl, rfl, rowB e44_c _⟩ akn) (fun h => absurd h (by decide))) aln) (acal (impl_MoveOn.J k x2.1 x2.2 x5 _ hx6) nocal) ?_
      obtain ⟨x7, hx7, h⟩ := Option.bind_eq_some_iff.mp h
      by_cases c4 : (x6.2 == x7) = true
      · rw [if_pos c4] at h
        obtain ⟨x8, hx8, h⟩ := Option.bind_eq_some_iff.mp h
        refine .reg' [3, 4, 5, 6, 7, 50] [.no, .no, .no, .no, .c ⟨20, [(.sl true x2.1.length 1 (x2.1.flatMap encI)), (.sl true x2.2.length 2 (x2.2.flatMap e44)), (I x5)], [], (B x7), [], [1001025, 2001025], [], [], (B x7), []⟩, .no, .v (B false), .no, .no, .no, .no, .c ⟨19, [(.sl true x2.1.length 1 (x2.1.flatMap encI)), (.sl true x2.2.length 2 (x2.2.flatMap e44)), (I x5)], [], (B x8), [], [1001025, 2001025], [], [], (B x8), []⟩] ⟨[(3, (.rf 1001025 0 x2.1.length 1 (x2.1.length * 1))), (4, (.rf 2001025 0 x2.2.length 2 (x2.2.length * 2))), (5, (I x5)), (6, (.rf 1002563 0 x6.1.length 2 (x6.1.length * 2))), (7, (B x6.2)), (50, (B (!(x6.2 == x8))))], [(2001025, (x2.2.flatMap e44)), (1001025, (x2.1.flatMap encI)), (1002563, (x6.1.flatMap e44))], [COK (hget [(2001025, (x2.2.flatMap e44)), (1001025, (x2.1.flatMap encI)), (1002563, (x6.1.flatMap e44))]) [(.rf 1001025 0 x2.1.length 1 (x2.1.length * 1)), (.rf 2001025 0 x2.2.length 2 (x2.2.length * 2)), (I x5)] ⟨20, [(.sl true x2.1.length 1 (x2.1.flatMap encI)), (.sl true x2.2.length 2 (x2.2.flatMap e44)), (I x5)], [], (B x7), [], [1001025, 2001025], [], [], (B x7), []⟩, (B (!(x6.2 == x7)) : V) = B false, COK (hget [(2001025, (x2.2.flatMap e44)), (1001025, (x2.1.flatMap encI)), (1002563, (x6.1.flatMap e44))]) [(.rf 1001025 0 x2.1.length 1 (x2.1.length * 1)), (.rf 2001025 0 x2.2.length 2 (x2.2.length * 2)), (I x5)] ⟨19, [(.sl true x2.1.length 1 (x2.1.flatMap encI)), (.sl true x2.2.length 2 (x2.2.flatMap e44)), (I x5)], [], (B x8), [], [1001025, 2001025], [], [], (B x8), []⟩], [⟨20, [(.sl true x2.1.length 1 (x2.1.flatMap encI)), (.sl true x2.2.length 2 (x2.2.flatMap e44)), (I x5)], [], (B x7), [], [1001025, 2001025], [], [], (B x7), []⟩, ⟨19, [(.sl true x2.1.length 1 (x2.1.flatMap encI)), (.sl true x2.2.length 2 (x2.2.flatMap e44)), (I x5)], [], (B x8), [], [1001025, 2001025], [], [], (B x8), []⟩]⟩ [c_ 32037, c_ 16019, b_ 1, c_ 2003, l_ 250, b_ 0, c_ 63] (alc (cok0 false (a2c (.z (frz_rf (k := 1001025) encI_ok (by simp) rfl rfl (row_len encI_ok _).symm)) (a2c (.z (frz_rf (k := 2001025) e44_ok (by simp) rfl rfl (row_len e44_ok _).symm)) (a2c (.z .s) a2n))) (.z .s) (fun h => absurd h (by decide))) (alc (bF (nF c4)) (alc (cok0 false (a2c (.z (frz_rf (k := 1001025) encI_ok (by simp) rfl rfl (row_len encI_ok _).symm)) (a2c (.z (frz_rf (k := 2001025) e44_ok (by simp) rfl rfl (row_len e44_ok _).symm)) (a2c (.z .s) a2n))) (.z .s) (fun h => absurd h (by decide))) aln))) (acal (impl_MayMove.J k x2.1 x2.2 x5 _ hx7) (acal (spec_MayMove.J k x2.1 x2.2 x5 _ hx8) nocal)) ?_
        by_cases c5 : (x6.2 == x8) = true
        · rw [if_pos c5] at h
          refine .cond' (.tmp 50) false [c_ 64076, c_ 64077, c_ 32039, b_ 1, c_ 2003, l_ 250, b_ 0, c_ 63] (bF (nF c5)) ?_
          by_cases c6 : x6.2 = true
          · rw [if_pos c6] at h
            refine .reg' [3, 4, 5, 6, 7, 58] [.no, .v (B true)] ⟨[(3, (.rf 1001025 0 x2.1.length 1 (x2.1.length * 1))), (4, (.rf 2001025 0 x2.2.length 2 (x2.2.length * 2))), (5, (I x5)), (6, (.rf 1002563 0 x6.1.length 2 (x6.1.length * 2))), (7, (B x6.2)), (58, (B (!((x6.1.length : Int) == (x2.2.length : Int)))))], [(2001025, (x2.2.flatMap e44)), (1001025, (x2.1.flatMap encI)), (1002563, (x6.1.flatMap e44))], [(B x6.2 : V) = B true], []⟩ [c_ 64077, c_ 32039, b_ 1, c_ 2003, l_ 250, b_ 0, c_ 63] (alc (bT c6) aln) nocal ?_
            by_cases c7 : (x6.1.length : Int) = (x2.2.length : Int)
            · rw [if_pos c7] at h
              refine .cond' (.tmp 58) false [c_ 64078, c_ 64079, b_ 1, c_ 2003, l_ 250, b_ 0, c_ 63] (bF (nF (qT c7))) ?_
              refine .wk' [] [(2001025, 2001025), (1001025, 1001025), (1002563, 1002563)] [(3, (.rf 1001025 0 x2.1.length 1 (x2.1.length * 1))), (4, (.rf 2001025 0 x2.2.length 2 (x2.2.length * 2))), (5, (I x5)), (6, (.rf 1002563 0 x6.1.length 2 (x6.1.length * 2))), (7, (B x6.2))] [(2001025, (x2.2.flatMap e44)), (1001025, (x2.1.flatMap encI)), (1002563, (x6.1.flatMap e44))] (shc 2001025 (rowF e44_ok _) (shc 1001025 (rowF encI_ok _) (shc 1002563 (rowF e44_ok _) shn))) (enc_ (.rf (memP_mem (p := (1001025, 1001025)) rfl)) (enc_ (.rf (memP_mem (p := (2001025, 2001025)) rfl)) (enc_ (.z .s) (enc_ (.rf (memP_mem (p := (1002563, 1002563)) rfl)) (enc_ (.z .s) enn))))) ?_
              exact ih1 x2 x5 x6 _ h
            · rw [if_neg c7] at h
              refine .cond' (.tmp 58) true [c_ 256308, c_ 256309, c_ 32039, b_ 1, c_ 2003, l_ 250, b_ 0, c_ 63] (bT (nT (qF c7))) ?_
              refine .reg' [2] [] ⟨[(2, (B false))], [(2001025, (x2.2.flatMap e44)), (1001025, (x2.1.flatMap encI)), (1002563, (x6.1.flatMap e44))], [], []⟩ [c_ 256309, c_ 32039, b_ 1, c_ 2003, l_ 250, b_ 0, c_ 63] aln nocal ?_
              have h := Option.some.inj h
              subst h
              exact .fin0 [] (B false) [] aln (.z .s)
          · rw [if_neg c6] at h
            refine .reg' [3, 4, 5, 6, 7, 58] [.no, .v (B false)] ⟨[(3, (.rf 1001025 0 x2.1.length 1 (x2.1.length * 1))), (4, (.rf 2001025 0 x2.2.length 2 (x2.2.length * 2))), (5, (I x5)), (6, (.rf 1002563 0 x6.1.length 2 (x6.1.length * 2))), (7, (B x6.2)), (58, (B false))], [(2001025, (x2.2.flatMap e44)), (1001025, (x2.1.flatMap encI)), (1002563, (x6.1.flatMap e44))], [(B x6.2 : V) = B false], []⟩ [c_ 64077, c_ 32039, b_ 1, c_ 2003, l_ 250, b_ 0, c_ 63] (alc (bF (vF c6)) aln) nocal ?_
            refine .cond' (.tmp 58) false [c_ 64078, c_ 64079, b_ 1, c_ 2003, l_ 250, b_ 0, c_ 63] (rfl) ?_
            refine .wk' [] [(2001025, 2001025), (1001025, 1001025), (1002563, 1002563)] [(3, (.rf 1001025 0 x2.1.length 1 (x2.1.length * 1))), (4, (.rf 2001025 0 x2.2.length 2 (x2.2.length * 2))), (5, (I x5)), (6, (.rf 1002563 0 x6.1.length 2 (x6.1.length * 2))), (7, (B x6.2))] [(2001025, (x2.2.flatMap e44)), (1001025, (x2.1.flatMap encI)), (1002563, (x6.1.flatMap e44))] (shc 2001025 (rowF e44_ok _) (shc 1001025 (rowF encI_ok _) (shc 1002563 (rowF e44_ok _) shn))) (enc_ (.rf (memP_mem (p := (1001025, 1001025)) rfl)) (enc_ (.rf (memP_mem (p := (2001025, 2001025)) rfl)) (enc_ (.z .s) (enc_ (.rf (memP_mem (p := (1002563, 1002563)) rfl)) (enc_ (.z .s) enn))))) ?_
            exact ih1 x2 x5 x6 _ h
        · rw [if_neg c5] at h
          refine .cond' (.tmp 50) true [c_ 128148, c_ 128149, c_ 16019, b_ 1, c_ 2003, l_ 250, b_ 0, c_ 63] (bT (nT (vF c5))) ?_
          refine .reg' [2] [] ⟨[(2, (B false))], [(2001025, (x2.2.flatMap e44)), (1001025, (x2.1.flatMap encI)), (1002563, (x6.1.flatMap e44))], [], []⟩ [c_ 128149, c_ 16019, b_ 1, c_ 2003, l_ 250, b_ 0, c_ 63] aln nocal ?_
          have h := Option.some.inj h
          subst h
          exact .fin0 [] (B false) [] aln (.z .s)
      · rw [if_neg c4] at h
        refine .reg' [3, 4, 5, 6, 7, 50] [.no, .no, .no, .no, .c ⟨20, [(.sl true x2.1.length 1 (x2.1.flatMap encI)), (.sl true x2.2.length 2 (x2.2.flatMap e44)), (I x5)], [], (B x7), [], [1001025, 2001025], [], [], (B x7), []⟩, .no, .v (B true)] ⟨[(3, (.rf 1001025 0 x2.1.length 1 (x2.1.length * 1))), (4, (.rf 2001025 0 x2.2.length 2 (x2.2.length * 2))), (5, (I x5)), (6, (.rf 1002563 0 x6.1.length 2 (x6.1.length * 2))), (7, (B x6.2)), (50, (B true))], [(2001025, (x2.2.flatMap e44)), (1001025, (x2.1.flatMap encI)), (1002563, (x6.1.flatMap e44))], [COK (hget [(2001025, (x2.2.flatMap e44)), (1001025, (x2.1.flatMap encI)), (1002563, (x6.1.flatMap e44))]) [(.rf 1001025 0 x2.1.length 1 (x2.1.length * 1)), (.rf 2001025 0 x2.2.length 2 (x2.2.length * 2)), (I x5)] ⟨20, [(.sl true x2.1.length 1 (x2.1.flatMap encI)), (.sl true x2.2.length 2 (x2.2.flatMap e44)), (I x5)], [], (B x7), [], [1001025, 2001025], [], [], (B x7), []⟩, (B (!(x6.2 == x7)) : V) = B true], [⟨20, [(.sl true x2.1.length 1 (x2.1.flatMap encI)), (.sl true x2.2.length 2 (x2.2.flatMap e44)), (I x5)], [], (B x7), [], [1001025, 2001025], [], [], (B x7), []⟩]⟩ [c_ 32037, c_ 16019, b_ 1, c_ 2003, l_ 250, b_ 0, c_ 63] (alc (cok0 false (a2c (.z (frz_rf (k := 1001025) encI_ok (by simp) rfl rfl (row_len encI_ok _).symm)) (a2c (.z (frz_rf (k := 2001025) e44_ok (by simp) rfl rfl (row_len e44_ok _).symm)) (a2c (.z .s) a2n))) (.z .s) (fun h => absurd h (by decide))) (alc (bT (nT (vF c4))) aln)) (acal (impl_MayMove.J k x2.1 x2.2 x5 _ hx7) nocal) ?_
        refine .cond' (.tmp 50) true [c_ 128148, c_ 128149, c_ 16019, b_ 1, c_ 2003, l_ 250, b_ 0, c_ 63] (rfl) ?_
        refine .reg' [2] [] ⟨[(2, (B false))], [(2001025, (x2.2.flatMap e44)), (1001025, (x2.1.flatMap encI)), (1002563, (x6.1.flatMap e44))], [], []⟩ [c_ 128149, c_ 16019, b_ 1, c_ 2003, l_ 250, b_ 0, c_ 63] aln nocal ?_
        have h := Option.some.inj h
        subst h
        exact .fin0 [] (B false) [] aln (.z .s)
    · rw [if_neg c3] at h
      refine .cond' (.tmp 27) false [c_ 126, c_ 127] (bF (dF c3)) ?_
      refine .reg' [2] [] ⟨[(2, (B true))], [(2001025, (x2.2.flatMap e44)), (1001025, (x2.1.flatMap encI))], [], []⟩ [c_ 127] aln nocal ?_
      have h := Option.some.inj h
      subst h
      exact .fin0 [] (B true) [] aln (.z .s)
  · intro x2 x5 x6 r h
    unfold laws_FnStuck.j1 at h
    refine .reg' [3, 4, 5, 6, 7, 8] [] ⟨[(3, (.rf 1001025 0 x2.1.length 1 (x2.1.length * 1))), (4, (.rf 2001025 0 x2.2.length 2 (x2.2.length * 2))), (5, (I x5)), (6, (.rf 1002563 0 x6.1.length 2 (x6.1.length * 2))), (7, (B x6.2)), (8, (I 0))], [(2001025, (x2.2.flatMap e44)), (1001025, (x2.1.flatMap encI)), (1002563, (x6.1.flatMap e44))], [], []⟩ [l_ 128158, b_ 2, b_ 1, c_ 2003, l_ 250, b_ 0, c_ 63] aln nocal ?_
    exact ih2 x2 x5 x6 0 _ h
  · intro x2 x5 x6 x9 r h
    unfold laws_FnStuck.l2 at h
    refine .loop' [c_ 1025264, c_ 1025265, c_ 512633, l_ 128158, b_ 2, b_ 1, c_ 2003, l_ 250, b_ 0, c_ 63] ?_
    by_cases c8 : x6.2 = true
    · rw [if_pos c8] at h
      refine .reg' [3, 4, 5, 6, 7, 8, 65] [.no, .v (B true)] ⟨[(3, (.rf 1001025 0 x2.1.length 1 (x2.1.length * 1))), (4, (.rf 2001025 0 x2.2.length 2 (x2.2.length * 2))), (5, (I x5)), (6, (.rf 1002563 0 x6.1.length 2 (x6.1.length * 2))), (7, (B x6.2)), (8, (I x9)), (65, (B (decide (x9 < (x2.2.length : Int)))))], [(2001025, (x2.2.flatMap e44)), (1001025, (x2.1.flatMap encI)), (1002563, (x6.1.flatMap e44))], [(B x6.2 : V) = B true], []⟩ [c_ 1025265, c_ 512633, l_ 128158, b_ 2, b_ 1, c_ 2003, l_ 250, b_ 0, c_ 63] (alc (bT c8) aln) nocal ?_
      by_cases c9 : x9 < (x2.2.length : Int)
      · rw [if_pos c9] at h
        refine .cond' (.tmp 65) true [c_ 4101064, c_ 4101065, b_ 3, c_ 1025267, l_ 128158, b_ 2, b_ 1, c_ 2003, l_ 250, b_ 0, c_ 63] (bT (dT c9)) ?_
        by_cases c10 : 0 ≤ x9
        · rw [if_pos c10] at h
          by_cases c11 : x9 < (x6.1.length : Int)
          · rw [if_pos c11] at h
            refine .reg' [3, 4, 5, 6, 7, 8, 9] [.no, .no, .no, .no, .v (I (at_ x6.1 x9).f0), .no, .no, .no, .no, .v (I (at_ x2.2 x9).f0)] ⟨[(3, (.rf 1001025 0 x2.1.length 1 (x2.1.length * 1))), (4, (.rf 2001025 0 x2.2.length 2 (x2.2.length * 2))), (5, (I x5)), (6, (.rf 1002563 0 x6.1.length 2 (x6.1.length * 2))), (7, (B x6.2)), (8, (I x9)), (9, (I (wrap64 ((at_ x6.1 x9).f0 - (at_ x2.2 x9).f0))))], [(2001025, (x2.2.flatMap e44)), (1001025, (x2.1.flatMap encI)), (1002563, (x6.1.flatMap e44))], [(0 : Int) ≤ x9 ∧ x9 < (x6.1.length : Int), rdC prog 3 ((x6.1.flatMap e44).drop (0 + x9.toNat * 2 + 0)) = (I (at_ x6.1 x9).f0), x6.1.length * 2 = (x6.1.flatMap e44).length ∧ 0 + x9.toNat * 2 + 0 + 1 ≤ (x6.1.flatMap e44).length, (0 : Int) ≤ x9 ∧ x9 < (x2.2.length : Int), rdC prog 3 ((x2.2.flatMap e44).drop (0 + x9.toNat * 2 + 0)) = (I (at_ x2.2 x9).f0), x2.2.length * 2 = (x2.2.flatMap e44).length ∧ 0 + x9.toNat * 2 + 0 + 1 ≤ (x2.2.flatMap e44).length], []⟩ [c_ 8202130, c_ 8202131, b_ 3, c_ 1025267, l_ 128158, b_ 2, b_ 1, c_ 2003, l_ 250, b_ 0, c_ 63] (alc ⟨c10, c11⟩ (alc (ldC0 e44_ok 0 (by decide) rfl c10 c11) (alc (okA e44_ok c10 c11 (by decide)) (alc ⟨c10, c9⟩ (alc (ldC0 e44_ok 0 (by decide) rfl c10 c9) (alc (okA e44_ok c10 c9 (by decide)) aln)))))) nocal ?_
            by_cases c12 : x9 = x5
            · rw [if_pos c12] at h
              refine .reg' [3, 4, 5, 6, 7, 8, 96] [.no, .no, .no, .v (B false), .no, .no, .no, .no, .no, .no, .no, .v (B true)] ⟨[(3, (.rf 1001025 0 x2.1.length 1 (x2.1.length * 1))), (4, (.rf 2001025 0 x2.2.length 2 (x2.2.length * 2))), (5, (I x5)), (6, (.rf 1002563 0 x6.1.length 2 (x6.1.length * 2))), (7, (B x6.2)), (8, (I x9)), (96, (B (!((wrap64 ((wrap64 ((at_ x6.1 x9).f0 - (at_ x2.2 x9).f0)) * (wrap64 ((at_ x6.1 x9).f0 - (at_ x2.2 x9).f0)))) == 1))))], [(2001025, (x2.2.flatMap e44)), (1001025, (x2.1.flatMap encI)), (1002563, (x6.1.flatMap e44))], [(B (!(x9 == x5)) : V) = B false, (B (x9 == x5) : V) = B true], []⟩ [c_ 8202131, b_ 3, c_ 1025267, l_ 128158, b_ 2, b_ 1, c_ 2003, l_ 250, b_ 0, c_ 63] (alc (bF (nF (qT c12))) (alc (bT (qT c12)) aln)) nocal ?_
              by_cases c13 : (wrap64 ((wrap64 ((at_ x6.1 x9).f0 - (at_ x2.2 x9).f0)) * (wrap64 ((at_ x6.1 x9).f0 - (at_ x2.2 x9).f0)))) = 1
              · rw [if_pos c13] at h
                refine .cond' (.tmp 96) false [c_ 1025267, l_ 128158, b_ 2, b_ 1, c_ 2003, l_ 250, b_ 0, c_ 63] (bF (nF (qT c13))) ?_
                refine .reg' [3, 4, 5, 6, 7, 8] [] ⟨[(3, (.rf 1001025 0 x2.1.length 1 (x2.1.length * 1))), (4, (.rf 2001025 0 x2.2.length 2 (x2.2.length * 2))), (5, (I x5)), (6, (.rf 1002563 0 x6.1.length 2 (x6.1.length * 2))), (7, (B x6.2)), (8, (I (wrap64 (x9 + 1))))], [(2001025, (x2.2.flatMap e44)), (1001025, (x2.1.flatMap encI)), (1002563, (x6.1.flatMap e44))], [], []⟩ [l_ 128158, b_ 2, b_ 1, c_ 2003, l_ 250, b_ 0, c_ 63] aln nocal ?_
                exact ih2 x2 x5 x6 (wrap64 (x9 + 1)) _ h
              · rw [if_neg c13] at h
                refine .cond' (.tmp 96) true [c_ 32808524, c_ 32808525, b_ 3, c_ 1025267, l_ 128158, b_ 2, b_ 1, c_ 2003, l_ 250, b_ 0, c_ 63] (bT (nT (qF c13))) ?_
                refine .reg' [2] [] ⟨[(2, (B false))], [(2001025, (x2.2.flatMap e44)), (1001025, (x2.1.flatMap encI)), (1002563, (x6.1.flatMap e44))], [], []⟩ [c_ 32808525, b_ 3, c_ 1025267, l_ 128158, b_ 2, b_ 1, c_ 2003, l_ 250, b_ 0, c_ 63] aln nocal ?_
                have h := Option.some.inj h
                subst h
                exact .fin0 [] (B false) [] aln (.z .s)
            · rw [if_neg c12] at h
              by_cases c14 : (wrap64 ((at_ x6.1 x9).f0 - (at_ x2.2 x9).f0)) = 0
              · rw [if_pos c14] at h
                refine .reg' [3, 4, 5, 6, 7, 8, 96] [.no, .no, .no, .v (B true), .no, .no, .no, .v (B false), .no, .no, .no, .v (B false)] ⟨[(3, (.rf 1001025 0 x2.1.length 1 (x2.1.length * 1))), (4, (.rf 2001025 0 x2.2.length 2 (x2.2.length * 2))), (5, (I x5)), (6, (.rf 1002563 0 x6.1.length 2 (x6.1.length * 2))), (7, (B x6.2)), (8, (I x9)), (96, (B false))], [(2001025, (x2.2.flatMap e44)), (1001025, (x2.1.flatMap encI)), (1002563, (x6.1.flatMap e44))], [(B (!(x9 == x5)) : V) = B true, (B (!((wrap64 ((at_ x6.1 x9).f0 - (at_ x2.2 x9).f0)) == 0)) : V) = B false, (B (x9 == x5) : V) = B false], []⟩ [c_ 8202131, b_ 3, c_ 1025267, l_ 128158, b_ 2, b_ 1, c_ 2003, l_ 250, b_ 0, c_ 63] (alc (bT (nT (qF c12))) (alc (bF (nF (qT c14))) (alc (bF (qF c12)) aln))) nocal ?_
                refine .cond' (.tmp 96) false [c_ 1025267, l_ 128158, b_ 2, b_ 1, c_ 2003, l_ 250, b_ 0, c_ 63] (rfl) ?_
                refine .reg' [3, 4, 5, 6, 7, 8] [] ⟨[(3, (.rf 1001025 0 x2.1.length 1 (x2.1.length * 1))), (4, (.rf 2001025 0 x2.2.length 2 (x2.2.length * 2))), (5, (I x5)), (6, (.rf 1002563 0 x6.1.length 2 (x6.1.length * 2))), (7, (B x6.2)), (8, (I (wrap64 (x9 + 1))))], [(2001025, (x2.2.flatMap e44)), (1001025, (x2.1.flatMap encI)), (1002563, (x6.1.flatMap e44))], [], []⟩ [l_ 128158, b_ 2, b_ 1, c_ 2003, l_ 250, b_ 0, c_ 63] aln nocal ?_
                exact ih2 x2 x5 x6 (wrap64 (x9 + 1)) _ h
              · rw [if_neg c14] at h
                refine .reg' [3, 4, 5, 6, 7, 8, 96] [.no, .no, .no, .v (B true), .no, .no, .no, .v (B true)] ⟨[(3, (.rf 1001025 0 x2.1.length 1 (x2.1.length * 1))), (4, (.rf 2001025 0 x2.2.length 2 (x2.2.length * 2))), (5, (I x5)), (6, (.rf 1002563 0 x6.1.length 2 (x6.1.length * 2))), (7, (B x6.2)), (8, (I x9)), (96, (B true))], [(2001025, (x2.2.flatMap e44)), (1001025, (x2.1.flatMap encI)), (1002563, (x6.1.flatMap e44))], [(B (!(x9 == x5)) : V) = B true, (B (!((wrap64 ((at_ x6.1 x9).f0 - (at_ x2.2 x9).f0)) == 0)) : V) = B true], []⟩ [c_ 8202131, b_ 3, c_ 1025267, l_ 128158, b_ 2, b_ 1, c_ 2003, l_ 250, b_ 0, c_ 63] (alc (bT (nT (qF c12))) (alc (bT (nT (qF c14))) aln)) nocal ?_
                refine .cond' (.tmp 96) true [c_ 32808524, c_ 32808525, b_ 3, c_ 1025267, l_ 128158, b_ 2, b_ 1, c_ 2003, l_ 250, b_ 0, c_ 63] (rfl) ?_
                refine .reg' [2] [] ⟨[(2, (B false))], [(2001025, (x2.2.flatMap e44)), (1001025, (x2.1.flatMap encI)), (1002563, (x6.1.flatMap e44))], [], []⟩ [c_ 32808525, b_ 3, c_ 1025267, l_ 128158, b_ 2, b_ 1, c_ 2003, l_ 250, b_ 0, c_ 63] aln nocal ?_
                have h := Option.some.inj h
                subst h
                exact .fin0 [] (B false) [] aln (.z .s)
          · rw [if_neg c11] at h
            cases h
        · rw [if_neg c10] at h
          cases h
      · rw [if_neg c9] at h
        refine .cond' (.tmp 65) false [c_ 2003, l_ 250, b_ 0, c_ 63] (bF (dF c9)) ?_
        refine .reg' [3, 4, 5] [] ⟨[(3, (.rf 1001025 0 x2.1.length 1 (x2.1.length * 1))), (4, (.rf 2001025 0 x2.2.length 2 (x2.2.length * 2))), (5, (I (wrap64 (x5 + 1))))], [(2001025, (x2.2.flatMap e44)), (1001025, (x2.1.flatMap encI)), (1002563, (x6.1.flatMap e44))], [], []⟩ [l_ 250, b_ 0, c_ 63] aln nocal ?_
        refine .wk' [] [(2001025, 2001025), (1001025, 1001025)] [(3, (.rf 1001025 0 x2.1.length 1 (x2.1.length * 1))), (4, (.rf 2001025 0 x2.2.length 2 (x2.2.length * 2))), (5, (I (wrap64 (x5 + 1))))] [(2001025, (x2.2.flatMap e44)), (1001025, (x2.1.flatMap encI))] (shc 2001025 (rowF e44_ok _) (shc 1001025 (rowF encI_ok _) shn)) (enc_ (.rf (memP_mem (p := (1001025, 1001025)) rfl)) (enc_ (.rf (memP_mem (p := (2001025, 2001025)) rfl)) (enc_ (.z .s) enn))) ?_
        exact ih0 x2 (wrap64 (x5 + 1)) _ h
    · rw [if_neg c8] at h
      refine .reg' [3, 4, 5, 6, 7, 8, 65] [.no, .v (B false)] ⟨[(3, (.rf 1001025 0 x2.1.length 1 (x2.1.length * 1))), (4, (.rf 2001025 0 x2.2.length 2 (x2.2.length * 2))), (5, (I x5)), (6, (.rf 1002563 0 x6.1.length 2 (x6.1.length * 2))), (7, (B x6.2)), (8, (I x9)), (65, (B false))], [(2001025, (x2.2.flatMap e44)), (1001025, (x2.1.flatMap encI)), (1002563, (x6.1.flatMap e44))], [(B x6.2 : V) = B false], []⟩ [c_ 1025265, c_ 512633, l_ 128158, b_ 2, b_ 1, c_ 2003, l_ 250, b_ 0, c_ 63] (alc (bF (vF c8)) aln) nocal ?_
      refine .cond' (.tmp 65) false [c_ 2003, l_ 250, b_ 0, c_ 63] (rfl) ?_
      refine .reg' [3, 4, 5] [] ⟨[(3, (.rf 1001025 0 x2.1.length 1 (x2.1.length * 1))), (4, (.rf 2001025 0 x2.2.length 2 (x2.2.length * 2))), (5, (I (wrap64 (x5 + 1))))], [(2001025, (x2.2.flatMap e44)), (1001025, (x2.1.flatMap encI)), (1002563, (x6.1.flatMap e44))], [], []⟩ [l_ 250, b_ 0, c_ 63] aln nocal ?_
      refine .wk' [] [(2001025, 2001025), (1001025, 1001025)] [(3, (.rf 1001025 0 x2.1.length 1 (x2.1.length * 1))), (4, (.rf 2001025 0 x2.2.length 2 (x2.2.length * 2))), (5, (I (wrap64 (x5 + 1))))] [(2001025, (x2.2.flatMap e44)), (1001025, (x2.1.flatMap encI))] (shc 2001025 (rowF e44_ok _) (shc 1001025 (rowF encI_ok _) shn)) (enc_ (.rf (memP_mem (p := (1001025, 1001025)) rfl)) (enc_ (.rf (memP_mem (p := (2001025, 2001025)) rfl)) (enc_ (.z .s) enn))) ?_
      exact ih0 x2 (wrap64 (x5 + 1)) _ h
theorem laws_FnStuck.J (k : Nat) (a0 : (List Int)) (r : Bool) (h : laws_FnStuck.f k a0 = some r) : J prog (.call 11 [(.sl false a0.length 1 (a0.flatMap encU))] [] (B r) []) := by
  unfold laws_FnStuck.f at h
  obtain ⟨ih0, ih1, ih2⟩ := laws_FnStuck.lab k
  refine .call' [c_ 2, c_ 3] ?_
  refine .reg' [0] [] ⟨[(0, (.sl false a0.length 1 (a0.flatMap encU)))], [], [], []⟩ [c_ 12, c_ 13, c_ 7] aln nocal ?_
  obtain ⟨x1, hx1, h⟩ := Option.bind_eq_some_iff.mp h
  refine .reg' [0, 11] [.no, .c ⟨35, [(.sl true a0.length 1 (a0.flatMap encU))], [], (B x1), [], [], [], [], (B x1), []⟩] ⟨[(0, (.sl false a0.length 1 (a0.flatMap encU))), (11, (B x1))], [], [COK (hget []) [(.sl false a0.length 1 (a0.flatMap encU))] ⟨35, [(.sl true a0.length 1 (a0.flatMap encU))], [], (B x1), [], [], [], [], (B x1), []⟩], [⟨35, [(.sl true a0.length 1 (a0.flatMap encU))], [], (B x1), [], [], [], [], (B x1), []⟩]⟩ [c_ 13, c_ 7] (alc (cok0 false (a2c (.z (frz_sl encU_ok (fun h => absurd h (by decide)))) a2n) (.z .s) (fun h => absurd h (by decide))) aln) (acal (laws_big.J a0 _ hx1) nocal) ?_
  by_cases c1 : x1 = true
  · rw [if_pos c1] at h
    refine .cond' (.tmp 11) true [c_ 52, c_ 53, c_ 7] (bT c1) ?_
    refine .reg' [2] [] ⟨[(2, (B true))], [], [], []⟩ [c_ 53, c_ 7] aln nocal ?_
    have h := Option.some.inj h
    subst h
    exact .fin0 [] (B true) [] aln (.z .s)
  · rw [if_neg c1] at h
    refine .cond' (.tmp 11) false [c_ 14, c_ 15] (bF (vF c1)) ?_
    obtain ⟨x2, hx2, h⟩ := Option.bind_eq_some_iff.mp h
    refine .reg' [3, 4] [.no, .c ⟨36, [(.sl false a0.length 1 (a0.flatMap encU))], [], (.tp [(.rf 1000769 0 x2.1.length 1 (x2.1.length * 1)), (.rf 1001027 0 x2.2.length 2 (x2.2.length * 2))]), [(1000769, (x2.1.flatMap encI)), (1001027, (x2.2.flatMap e44))], [], [], [(1001025, 1000769), (2001025, 1001027)], (.tp [(.rf 1001025 0 x2.1.length 1 (x2.1.length * 1)), (.rf 2001025 0 x2.2.length 2 (x2.2.length * 2))]), [(1001025, (x2.1.flatMap encI)), (2001025, (x2.2.flatMap e44))]⟩] ⟨[(3, (.rf 1001025 0 x2.1.length 1 (x2.1.length * 1))), (4, (.rf 2001025 0 x2.2.length 2 (x2.2.length * 2)))], [(2001025, (x2.2.flatMap e44)), (1001025, (x2.1.flatMap encI))], [COK (hget []) [(.sl false a0.length 1 (a0.flatMap encU))] ⟨36, [(.sl false a0.length 1 (a0.flatMap encU))], [], (.tp [(.rf 1000769 0 x2.1.length 1 (x2.1.length * 1)), (.rf 1001027 0 x2.2.length 2 (x2.2.length * 2))]), [(1000769, (x2.1.flatMap encI)), (1001027, (x2.2.flatMap e44))], [], [], [(1001025, 1000769), (2001025, 1001027)], (.tp [(.rf 1001025 0 x2.1.length 1 (x2.1.length * 1)), (.rf 2001025 0 x2.2.length 2 (x2.2.length * 2))]), [(1001025, (x2.1.flatMap encI)), (2001025, (x2.2.flatMap e44))]⟩], [⟨36, [(.sl false a0.length 1 (a0.flatMap encU))], [], (.tp [(.rf 1000769 0 x2.1.length 1 (x2.1.length * 1)), (.rf 1001027 0 x2.2.length 2 (x2.2.length * 2))]), [(1000769, (x2.1.flatMap encI)), (1001027, (x2.2.flatMap e44))], [], [], [(1001025, 1000769), (2001025, 1001027)], (.tp [(.rf 1001025 0 x2.1.length 1 (x2.1.length * 1)), (.rf 2001025 0 x2.2.length 2 (x2.2.length * 2))]), [(1001025, (x2.1.flatMap encI)), (2001025, (x2.2.flatMap e44))]⟩]⟩ [c_ 60, c_ 61, c_ 31] (alc (cokW false (a2c (.z (frz_sl encU_ok (fun h => h))) a2n) akn (akc (.inr rfl) (akc (.inr rfl) akn)) (bck_tp (a2c (.rf (memP_mem (p := (1001025, 1000769)) rfl)) (a2c (.rf (memP_mem (p := (2001025, 1001027)) rfl)) a2n))) (akc ⟨_, _, rfl, rfl, rowB encI_c _⟩ (akc ⟨_, _, rfl, rfl, rowB e44_c _⟩ akn)) (fun h => absurd h (by decide))) aln) (acal (spec_DrawRightSingles.J k a0 _ hx2) nocal) ?_
    obtain ⟨x3, hx3, h⟩ := Option.bind_eq_some_iff.mp h
    refine .reg' [3, 4, 19] [.no, .no, .c ⟨22, [(.sl true x2.1.length 1 (x2.1.flatMap encI)), (.sl true x2.2.length 2 (x2.2.flatMap e44))], [], (B x3), [], [1001025, 2001025], [], [], (B x3), []⟩] ⟨[(3, (.rf 1001025 0 x2.1.length 1 (x2.1.length * 1))), (4, (.rf 2001025 0 x2.2.length 2 (x2.2.length * 2))), (19, (B x3))], [(2001025, (x2.2.flatMap e44)), (1001025, (x2.1.flatMap encI))], [COK (hget [(2001025, (x2.2.flatMap e44)), (1001025, (x2.1.flatMap encI))]) [(.rf 1001025 0 x2.1.length 1 (x2.1.length * 1)), (.rf 2001025 0 x2.2.length 2 (x2.2.length * 2))] ⟨22, [(.sl true x2.1.length 1 (x2.1.flatMap encI)), (.sl true x2.2.length 2 (x2.2.flatMap e44))], [], (B x3), [], [1001025, 2001025], [], [], (B x3), []⟩], [⟨22, [(.sl true x2.1.length 1 (x2.1.flatMap encI)), (.sl true x2.2.length 2 (x2.2.flatMap e44))], [], (B x3), [], [1001025, 2001025], [], [], (B x3), []⟩]⟩ [c_ 61, c_ 31] (alc (cok0 false (a2c (.z (frz_rf (k := 1001025) encI_ok (by simp) rfl rfl (row_len encI_ok _).symm)) (a2c (.z (frz_rf (k := 2001025) e44_ok (by simp) rfl rfl (row_len e44_ok _).symm)) a2n)) (.z .s) (fun h => absurd h (by decide))) aln) (acal (impl_Stuck.J k x2.1 x2.2 _ hx3) nocal) ?_
    by_cases c2 : x3 = true
    · rw [if_pos c2] at h
      refine .cond' (.tmp 19) true [c_ 244, c_ 245, c_ 31] (bT c2) ?_
      obtain ⟨x4, hx4, h⟩ := Option.bind_eq_some_iff.mp h
      refine .reg' [2] [.no, .no, .c ⟨29, [(.sl true x2.1.length 1 (x2.1.flatMap encI)), (.sl true x2.2.length 2 (x2.2.flatMap e44))], [], (B x4), [], [1001025, 2001025], [], [], (B x4), []⟩] ⟨[(2, (B (!x4)))], [(2001025, (x2.2.flatMap e44)), (1001025, (x2.1.flatMap encI))], [COK (hget [(2001025, (x2.2.flatMap e44)), (1001025, (x2.1.flatMap encI))]) [(.rf 1001025 0 x2.1.length 1 (x2.1.length * 1)), (.rf 2001025 0 x2.2.length 2 (x2.2.length * 2))] ⟨29, [(.sl true x2.1.length 1 (x2.1.flatMap encI)), (.sl true x2.2.length 2 (x2.2.flatMap e44))], [], (B x4), [], [1001025, 2001025], [], [], (B x4), []⟩], [⟨29, [(.sl true x2.1.length 1 (x2.1.flatMap encI)), (.sl true x2.2.length 2 (x2.2.flatMap e44))], [], (B x4), [], [1001025, 2001025], [], [], (B x4), []⟩]⟩ [c_ 245, c_ 31] (alc (cok0 false (a2c (.z (frz_rf (k := 1001025) encI_ok (by simp) rfl rfl (row_len encI_ok _).symm)) (a2c (.z (frz_rf (k := 2001025) e44_ok (by simp) rfl rfl (row_len e44_ok _).symm)) a2n)) (.z .s) (fun h => absurd h (by decide))) aln) (acal (impl_CanFinish.J k x2.1 x2.2 _ hx4) nocal) ?_
      have h := Option.some.inj h
      subst h
      exact .fin0 [] (B (!x4)) [] aln (.z .s)
    · rw [if_neg c2] at h
      refine .cond' (.tmp 19) false [c_ 124, c_ 125, c_ 63] (bF (vF c2)) ?_
      refine .reg' [3, 4, 5] [] ⟨[(3, (.rf 1001025 0 x2.1.length 1 (x2.1.length * 1))), (4, (.rf 2001025 0 x2.2.length 2 (x2.2.length * 2))), (5, (I 0))], [(2001025, (x2.2.flatMap e44)), (1001025, (x2.1.flatMap encI))], [], []⟩ [l_ 250, b_ 0, c_ 63] aln nocal ?_
      exact ih0 x2 0 _ h
end Go.Proofs.Ytpjmefdpjlhkhaa.Fns
