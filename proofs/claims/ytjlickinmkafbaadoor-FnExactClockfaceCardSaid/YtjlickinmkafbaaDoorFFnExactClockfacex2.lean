/- The functions that the law FnExactClockface reaches, by the engine. Printed by a program of this seat. -/
import Derived.Test.YtjlickinmkafbaaDoorE5
import Derived.Test.YtjlickinmkafbaaDoorProg
import Derived.Test.YtjlickinmkafbaaDoorFFnExactClockfacex1
namespace Go.Proofs.YtjlickinmkafbaaDoor.Fns
open Go.Proofs.Tryd Go.Proofs.YtjlickinmkafbaaDoor.Eng Go.RowKit
set_option maxRecDepth 100000
set_option linter.unusedVariables false
set_option linter.unusedSimpArgs false
def lays171_ren : Go.Shelf.Ren := ⟨fun | 171 => 35 | 243 => 60 | 246 => 71 | 283 => 78 | 284 => 79 | 285 => 80 | 286 => 81 | 129 => 90 | 317 => 89 | 318 => 91 | 319 => 92 | 320 => 93 | 337 => 97 | 338 => 98 | n => n, fun | 3 => 3 | 9 => 9 | 2 => 2 | 4 => 4 | 171 => 92 | 0 => 0 | 53 => 93 | 37 => 42 | 5 => 5 | 173 => 96 | 212 => 104 | 51 => 105 | 20 => 20 | 213 => 106 | 46 => 102 | 232 => 115 | 233 => 116 | n => n, fun | 17 => 1 | 18 => 4 | 19 => 5 | n => n⟩
theorem lays171 : Go.Proofs.LaysM.n171 Tryd.prog lays171_ren where
  mixed := by kernel_rfl
  f129 := Tryd.func90.trans (congrArg some (by kernel_rfl))
  f171 := Tryd.func35.trans (congrArg some (by kernel_rfl))
  f243 := Tryd.func60.trans (congrArg some (by kernel_rfl))
  f246 := Tryd.func71.trans (congrArg some (by kernel_rfl))
  f283 := Tryd.func78.trans (congrArg some (by kernel_rfl))
  f284 := Tryd.func79.trans (congrArg some (by kernel_rfl))
  f285 := Tryd.func80.trans (congrArg some (by kernel_rfl))
  f286 := Tryd.func81.trans (congrArg some (by kernel_rfl))
  f317 := Tryd.func89.trans (congrArg some (by kernel_rfl))
  f318 := Tryd.func91.trans (congrArg some (by kernel_rfl))
  f319 := Tryd.func92.trans (congrArg some (by kernel_rfl))
  f320 := Tryd.func93.trans (congrArg some (by kernel_rfl))
  f337 := Tryd.func97.trans (congrArg some (by kernel_rfl))
  f338 := Tryd.func98.trans (congrArg some (by kernel_rfl))
  t0 := Tryd.underlying0
  a0 := Tryd.isAgg0
  z0 := Tryd.sizeOf0
  v0 := Tryd.zeroValue0
  t2 := Tryd.underlying2
  a2 := Tryd.isAgg2
  z2 := Tryd.sizeOf2
  v2 := Tryd.zeroValue2
  t3 := Tryd.underlying3
  a3 := Tryd.isAgg3
  z3 := Tryd.sizeOf3
  v3 := Tryd.zeroValue3
  t4 := Tryd.underlying4
  a4 := Tryd.isAgg4
  z4 := Tryd.sizeOf4
  v4 := Tryd.zeroValue4
  t5 := Tryd.underlying5
  a5 := Tryd.isAgg5
  z5 := Tryd.sizeOf5
  v5 := Tryd.zeroValue5
  t9 := Tryd.underlying9
  a9 := Tryd.isAgg9
  z9 := Tryd.sizeOf9
  v9 := Tryd.zeroValue9
  t20 := Tryd.underlying20
  a20 := Tryd.isAgg20
  z20 := Tryd.sizeOf20
  v20 := Tryd.zeroValue20
  t37 := Tryd.underlying42
  a37 := Tryd.isAgg42
  z37 := Tryd.sizeOf42
  v37 := Tryd.zeroValue42
  t46 := Tryd.underlying102
  a46 := Tryd.isAgg102
  z46 := Tryd.sizeOf102
  v46 := Tryd.zeroValue102
  t51 := Tryd.underlying105
  a51 := Tryd.isAgg105
  z51 := Tryd.sizeOf105
  v51 := Tryd.zeroValue105
  t53 := Tryd.underlying93
  a53 := Tryd.isAgg93
  z53 := Tryd.sizeOf93
  v53 := Tryd.zeroValue93
  t171 := Tryd.underlying92
  a171 := Tryd.isAgg92
  z171 := Tryd.sizeOf92
  v171 := Tryd.zeroValue92
  t173 := Tryd.underlying96
  a173 := Tryd.isAgg96
  z173 := Tryd.sizeOf96
  v173 := Tryd.zeroValue96
  t212 := Tryd.underlying104
  a212 := Tryd.isAgg104
  z212 := Tryd.sizeOf104
  v212 := Tryd.zeroValue104
  t213 := Tryd.underlying106
  a213 := Tryd.isAgg106
  z213 := Tryd.sizeOf106
  t232 := Tryd.underlying115
  a232 := Tryd.isAgg115
  z232 := Tryd.sizeOf115
  v232 := Tryd.zeroValue115
  t233 := Tryd.underlying116
  a233 := Tryd.isAgg116
  z233 := Tryd.sizeOf116
  v233 := Tryd.zeroValue116
  g17 := by kernel_rfl
  g18 := by kernel_rfl
  g19 := by kernel_rfl
  i0 := by kernel_rfl
  i2 := by kernel_rfl
  i3 := by kernel_rfl
  i4 := by kernel_rfl
  i5 := by kernel_rfl
  i9 := by kernel_rfl
  i20 := by kernel_rfl
  i37 := by kernel_rfl
  i46 := by kernel_rfl
  i51 := by kernel_rfl
  i53 := by kernel_rfl
  i171 := by kernel_rfl
  i173 := by kernel_rfl
  i212 := by kernel_rfl
  i232 := by kernel_rfl
  i233 := by kernel_rfl
  m17 := by kernel_rfl
  m18 := by kernel_rfl
  m19 := by kernel_rfl
/-! strconv_Itoa: function 35 (the shelf's contract) -/
def strconv_Itoa.f (a0 : Int) : Option ByteArray := (if -9223372036854775808 ≤ a0 then (if a0 ≤ 9223372036854775807 then (some (⟨(Go.Lib.itoa a0).toArray⟩ : ByteArray)) else none) else none)
theorem strconv_Itoa.J (a0 : Int) (r : ByteArray) (h : strconv_Itoa.f a0 = some r) : J prog (.call 35 [(I a0)] [] (S r) []) := by
  unfold strconv_Itoa.f at h
  by_cases h0 : -9223372036854775808 ≤ a0
  · rw [if_pos h0] at h
    by_cases h1 : a0 ≤ 9223372036854775807
    · rw [if_pos h1] at h
      have h := Option.some.inj h
      subst h
      refine lib_below1 rfl fun w hg => (Go.Proofs.Any.strconv_Itoa lays171 a0 h0 h1 w hg.1).mono ?_
      rintro e w2 ⟨rfl, k, os, rfl⟩
      exact ⟨rfl, Go.Lib.below_grow _ _ (Nat.le_refl _) _ _⟩
    · rw [if_neg h1] at h
      cases h
  · rw [if_neg h0] at h
    cases h
/-! impl_tripNamed_1: function 70 -/
def impl_tripNamed_1.f (a0 : S28) (a1c0 : ByteArray) : Option (Bool × ByteArray) := (some ((sEq a0.f0 a1c0), a1c0))
theorem impl_tripNamed_1.J (a0 : S28) (a1c0 : ByteArray) (r : (Bool × ByteArray)) (h : impl_tripNamed_1.f a0 a1c0 = some r) : J prog (.call 70 [(.ag [(S a0.f0), (.sl true a0.f1.length 3 (a0.f1.flatMap e48))]), (.pt 24 0 1)] [(24, [(S a1c0)])] (B r.1) [(24, [(S r.2)])]) := by
  unfold impl_tripNamed_1.f at h
  refine .call' [c_ 2, c_ 3] ?_
  refine .reg' [1, 2] [] ⟨[(1, (.pt 24 0 1)), (2, (.pt 256 0 2))], [(24, [(S a1c0)]), (256, [(S a0.f0), (.sl true a0.f1.length 3 (a0.f1.flatMap e48))])], [], []⟩ [c_ 6, c_ 7] aln nocal ?_
  refine .reg' [3] [] ⟨[(3, (B (sEq a0.f0 a1c0)))], [(24, [(S a1c0)]), (256, [(S a0.f0), (.sl true a0.f1.length 3 (a0.f1.flatMap e48))])], [2 = 2 ∧ 0 + 1 ≤ 2, 1 = 1 ∧ 0 + 1 ≤ 1], []⟩ [c_ 7] (alc ⟨rfl, by decide⟩ (alc ⟨rfl, by decide⟩ aln)) nocal ?_
  have h := Option.some.inj h
  subst h
  exact .fin' [] [(24, 24)] (B (sEq a0.f0 a1c0)) [] aln (shc 24 (a2c (.z .s) a2n) shn) (.z .s)
/-! slices_IndexFunc_1: function 69 -/
def slices_IndexFunc_1.l0 : Nat → (List S28) → ByteArray → Int → Option (Int × ByteArray)
 | 0, _, _, _ => none
 | k + 1, a0, x1, x2 => (if x2 < (a0.length : Int) then (if 0 ≤ x2 then ((impl_tripNamed_1.f (at_ a0 x2) x1).bind fun x3 => (if x3.1 = true then (some (x2, x3.2)) else (slices_IndexFunc_1.l0 k a0 x3.2 (wrap64 (x2 + 1))))) else none) else (some ((-1), x1)))
def slices_IndexFunc_1.f (k : Nat) (a0 : (List S28)) (a1c0 : ByteArray) : Option (Int × ByteArray) := (slices_IndexFunc_1.l0 k a0 a1c0 0)
theorem slices_IndexFunc_1.lab : ∀ k, (∀ (a0 : (List S28)) (x1 : ByteArray) (x2 : Int) (r : (Int × ByteArray)), slices_IndexFunc_1.l0 k a0 x1 x2 = some r → J prog (.run 69 [24] [l_ 26, b_ 0, c_ 7] [(0, (.sl true a0.length 2 (a0.flatMap (e28 true)))), (1, (.fn (.func 70) [] [(.pt 24 0 1)])), (7, (I (a0.length : Int))), (8, (I x2))] [(24, [(S x1)])] (I r.1) [(24, [(S r.2)])]))
 | 0 => (by intro a0 x1 x2 r h; unfold slices_IndexFunc_1.l0 at h; cases h)
 | k + 1 => by
  have ih0 := slices_IndexFunc_1.lab k
  · intro a0 x1 x2 r h
    unfold slices_IndexFunc_1.l0 at h
    refine .loop' [c_ 104, c_ 105, l_ 26, b_ 0, c_ 7] ?_
    refine .reg' [0, 1, 7, 8, 9] [] ⟨[(0, (.sl true a0.length 2 (a0.flatMap (e28 true)))), (1, (.fn (.func 70) [] [(.pt 24 0 1)])), (7, (I (a0.length : Int))), (8, (I x2)), (9, (B (decide (x2 < (a0.length : Int)))))], [(24, [(S x1)])], [], []⟩ [c_ 210, c_ 211, l_ 26, b_ 0, c_ 7] aln nocal ?_
    by_cases c1 : x2 < (a0.length : Int)
    · rw [if_pos c1] at h
      refine .cond' (.tmp 9) true [c_ 1688, c_ 1689, b_ 1, c_ 423, l_ 26, b_ 0, c_ 7] (bT (dT c1)) ?_
      refine .reg' [0, 1, 5, 7, 8] [] ⟨[(0, (.sl true a0.length 2 (a0.flatMap (e28 true)))), (1, (.fn (.func 70) [] [(.pt 24 0 1)])), (5, (I x2)), (7, (I (a0.length : Int))), (8, (I x2))], [(24, [(S x1)])], [], []⟩ [c_ 3378, c_ 3379, b_ 1, c_ 423, l_ 26, b_ 0, c_ 7] aln nocal ?_
      by_cases c2 : 0 ≤ x2
      · rw [if_pos c2] at h
        obtain ⟨x3, hx3, h⟩ := Option.bind_eq_some_iff.mp h
        refine .reg' [0, 1, 5, 7, 8, 16] [.no, .no, .no, .no, .v (.ag [(S (at_ a0 x2).f0), (.sl true (at_ a0 x2).f1.length 3 ((at_ a0 x2).f1.flatMap e48))]), .c ⟨70, [(.ag [(S (at_ a0 x2).f0), (.sl true (at_ a0 x2).f1.length 3 ((at_ a0 x2).f1.flatMap e48))]), (.pt 24 0 1)], [(24, [(S x1)])], (B x3.1), [(24, [(S x3.2)])], [], [(24, 24)], [(24, 24)], (B x3.1), [(24, [(S x3.2)])]⟩] ⟨[(0, (.sl true a0.length 2 (a0.flatMap (e28 true)))), (1, (.fn (.func 70) [] [(.pt 24 0 1)])), (5, (I x2)), (7, (I (a0.length : Int))), (8, (I x2)), (16, (B x3.1))], [(24, [(S x3.2)])], [(0 : Int) ≤ x2 ∧ x2 < (a0.length : Int), rdC prog 29 ((a0.flatMap (e28 true)).drop (x2.toNat * 2)) = (.ag [(S (at_ a0 x2).f0), (.sl true (at_ a0 x2).f1.length 3 ((at_ a0 x2).f1.flatMap e48))]), 2 ≤ ((a0.flatMap (e28 true)).drop (x2.toNat * 2)).length, COK (hget [(24, [(S x1)])]) [(.ag [(S (at_ a0 x2).f0), (.sl true (at_ a0 x2).f1.length 3 ((at_ a0 x2).f1.flatMap e48))]), (.pt 24 0 1)] ⟨70, [(.ag [(S (at_ a0 x2).f0), (.sl true (at_ a0 x2).f1.length 3 ((at_ a0 x2).f1.flatMap e48))]), (.pt 24 0 1)], [(24, [(S x1)])], (B x3.1), [(24, [(S x3.2)])], [], [(24, 24)], [(24, 24)], (B x3.1), [(24, [(S x3.2)])]⟩], [⟨70, [(.ag [(S (at_ a0 x2).f0), (.sl true (at_ a0 x2).f1.length 3 ((at_ a0 x2).f1.flatMap e48))]), (.pt 24 0 1)], [(24, [(S x1)])], (B x3.1), [(24, [(S x3.2)])], [], [(24, 24)], [(24, 24)], (B x3.1), [(24, [(S x3.2)])]⟩]⟩ [c_ 3379, b_ 1, c_ 423, l_ 26, b_ 0, c_ 7] (alc ⟨c2, c1⟩ (alc (ldA (e28_ok true) rfl rfl c2 c1) (alc (okI (e28_ok true) c2 c1 (by decide)) (alc (cokW false (a2c (.z (frz_ag (a2c .s (a2c (frz_sl e48_ok (fun h => h)) a2n)))) (a2c (.pt (memP_mem (p := (24, 24)) rfl)) a2n)) (akc ⟨_, _, rfl, rfl, (a2c (.z .s) a2n)⟩ akn) (akc (.inl rfl) akn) (.z .s) (akc ⟨_, _, rfl, rfl, (a2c (.z .s) a2n)⟩ akn) (fun h => absurd h (by decide))) aln)))) (acal (impl_tripNamed_1.J (at_ a0 x2) x1 _ hx3) nocal) ?_
        by_cases c3 : x3.1 = true
        · rw [if_pos c3] at h
          refine .cond' (.tmp 16) true [c_ 13516, c_ 13517, b_ 1, c_ 423, l_ 26, b_ 0, c_ 7] (bT c3) ?_
          refine .reg' [4] [] ⟨[(4, (I x2))], [(24, [(S x3.2)])], [], []⟩ [c_ 13517, b_ 1, c_ 423, l_ 26, b_ 0, c_ 7] aln nocal ?_
          have h := Option.some.inj h
          subst h
          exact .fin' [] [(24, 24)] (I x2) [] aln (shc 24 (a2c (.z .s) a2n) shn) (.z .s)
        · rw [if_neg c3] at h
          refine .cond' (.tmp 16) false [c_ 423, l_ 26, b_ 0, c_ 7] (bF (vF c3)) ?_
          refine .reg' [0, 1, 7, 8] [] ⟨[(0, (.sl true a0.length 2 (a0.flatMap (e28 true)))), (1, (.fn (.func 70) [] [(.pt 24 0 1)])), (7, (I (a0.length : Int))), (8, (I (wrap64 (x2 + 1))))], [(24, [(S x3.2)])], [], []⟩ [l_ 26, b_ 0, c_ 7] aln nocal ?_
          exact ih0 a0 x3.2 (wrap64 (x2 + 1)) _ h
      · rw [if_neg c2] at h
        cases h
    · rw [if_neg c1] at h
      refine .cond' (.tmp 9) false [c_ 14, c_ 15] (bF (dF c1)) ?_
      refine .reg' [4] [] ⟨[(4, (I (-1)))], [(24, [(S x1)])], [], []⟩ [c_ 15] aln nocal ?_
      have h := Option.some.inj h
      subst h
      exact .fin' [] [(24, 24)] (I (-1)) [] aln (shc 24 (a2c (.z .s) a2n) shn) (.z .s)
theorem slices_IndexFunc_1.J (k : Nat) (a0 : (List S28)) (a1c0 : ByteArray) (r : (Int × ByteArray)) (h : slices_IndexFunc_1.f k a0 a1c0 = some r) : J prog (.call 69 [(.sl true a0.length 2 (a0.flatMap (e28 true))), (.fn (.func 70) [] [(.pt 24 0 1)])] [(24, [(S a1c0)])] (I r.1) [(24, [(S r.2)])]) := by
  unfold slices_IndexFunc_1.f at h
  have ih0 := slices_IndexFunc_1.lab k
  refine .call' [c_ 2, c_ 3] ?_
  refine .reg' [0, 1] [] ⟨[(0, (.sl true a0.length 2 (a0.flatMap (e28 true)))), (1, (.fn (.func 70) [] [(.pt 24 0 1)]))], [(24, [(S a1c0)])], [], []⟩ [c_ 12, c_ 13, c_ 7] aln nocal ?_
  refine .reg' [0, 1, 7, 8] [] ⟨[(0, (.sl true a0.length 2 (a0.flatMap (e28 true)))), (1, (.fn (.func 70) [] [(.pt 24 0 1)])), (7, (I (a0.length : Int))), (8, (I 0))], [(24, [(S a1c0)])], [], []⟩ [l_ 26, b_ 0, c_ 7] aln nocal ?_
  exact ih0 a0 a1c0 0 _ h
/-! impl_tripNamed: function 57 -/
def impl_tripNamed.f (k : Nat) (a0 : (List S28)) (a1 : ByteArray) : Option Int := ((slices_IndexFunc_1.f k a0 a1).bind fun x1 => (some x1.1))
theorem impl_tripNamed.J (k : Nat) (a0 : (List S28)) (a1 : ByteArray) (r : Int) (h : impl_tripNamed.f k a0 a1 = some r) : J prog (.call 57 [(.sl true a0.length 2 (a0.flatMap (e28 true))), (S a1)] [] (I r) []) := by
  unfold impl_tripNamed.f at h
  refine .call' [c_ 2, c_ 3] ?_
  refine .reg' [0, 3] [] ⟨[(0, (.sl true a0.length 2 (a0.flatMap (e28 true)))), (3, (.pt 256 0 1))], [(256, [(S a1)])], [], []⟩ [c_ 6, c_ 7] aln nocal ?_
  obtain ⟨x1, hx1, h⟩ := Option.bind_eq_some_iff.mp h
  refine .reg' [4] [.no, .no, .c ⟨69, [(.sl true a0.length 2 (a0.flatMap (e28 true))), (.fn (.func 70) [] [(.pt 24 0 1)])], [(24, [(S a1)])], (I x1.1), [(24, [(S x1.2)])], [], [(256, 24)], [(256, 24)], (I x1.1), [(256, [(S x1.2)])]⟩] ⟨[(4, (I x1.1))], [(256, [(S x1.2)])], [COK (hget [(256, [(S a1)])]) [(.sl true a0.length 2 (a0.flatMap (e28 true))), (.fn (.func 70) [] [(.pt 256 0 1)])] ⟨69, [(.sl true a0.length 2 (a0.flatMap (e28 true))), (.fn (.func 70) [] [(.pt 24 0 1)])], [(24, [(S a1)])], (I x1.1), [(24, [(S x1.2)])], [], [(256, 24)], [(256, 24)], (I x1.1), [(256, [(S x1.2)])]⟩], [⟨69, [(.sl true a0.length 2 (a0.flatMap (e28 true))), (.fn (.func 70) [] [(.pt 24 0 1)])], [(24, [(S a1)])], (I x1.1), [(24, [(S x1.2)])], [], [(256, 24)], [(256, 24)], (I x1.1), [(256, [(S x1.2)])]⟩]⟩ [c_ 7] (alc (cokW false (a2c (.z (frz_sl (e28_ok true) (fun h => h))) (a2c (cnv_fn a2n (a2c (.pt (memP_mem (p := (256, 24)) rfl)) a2n)) a2n)) (akc ⟨_, _, rfl, rfl, (a2c (.z .s) a2n)⟩ akn) (akc (.inl rfl) akn) (.z .s) (akc ⟨_, _, rfl, rfl, (a2c (.z .s) a2n)⟩ akn) (fun h => absurd h (by decide))) aln) (acal (slices_IndexFunc_1.J k a0 a1 _ hx1) nocal) ?_
  have h := Option.some.inj h
  subst h
  exact .fin0 [] (I x1.1) [] aln (.z .s)
/-! impl_TableOk: function 29 -/
def impl_TableOk.l0 : Nat → (List S28) → Int → Option Bool
 | 0, _, _ => none
 | k + 1, a0, x1 => (if x1 < (a0.length : Int) then (if 0 ≤ x1 then ((impl_TripOk.f k (at_ a0 x1)).bind fun x2 => (if x2 = true then (if x1 ≤ (a0.length : Int) then ((impl_tripNamed.f k ((a0.drop (0 : Int).toNat).take (x1.toNat - (0 : Int).toNat)) ((at_ a0 x1).f0)).bind fun x3 => (if x3 ≥ 0 then (some false) else (impl_TableOk.l0 k a0 (wrap64 (x1 + 1))))) else none) else (some false))) else none) else (some true))
def impl_TableOk.f (k : Nat) (a0 : (List S28)) : Option Bool := (if (a0.length : Int) > 24 then (some false) else (impl_TableOk.l0 k a0 0))
theorem impl_TableOk.lab : ∀ k, (∀ (a0 : (List S28)) (x1 : Int) (r : Bool), impl_TableOk.l0 k a0 x1 = some r → J prog (.run 29 [] [l_ 58, b_ 0, c_ 15] [(0, (.sl true a0.length 2 (a0.flatMap (e28 true)))), (8, (.sl true a0.length 2 (a0.flatMap (e28 true)))), (9, (I (a0.length : Int))), (10, (I x1))] [] (B r) []))
 | 0 => (by intro a0 x1 r h; unfold impl_TableOk.l0 at h; cases h)
 | k + 1 => by
  have ih0 := impl_TableOk.lab k
  · intro a0 x1 r h
    unfold impl_TableOk.l0 at h
    refine .loop' [c_ 232, c_ 233, l_ 58, b_ 0, c_ 15] ?_
    refine .reg' [0, 8, 9, 10, 11] [] ⟨[(0, (.sl true a0.length 2 (a0.flatMap (e28 true)))), (8, (.sl true a0.length 2 (a0.flatMap (e28 true)))), (9, (I (a0.length : Int))), (10, (I x1)), (11, (B (decide (x1 < (a0.length : Int)))))], [], [], []⟩ [c_ 466, c_ 467, l_ 58, b_ 0, c_ 15] aln nocal ?_
    by_cases c2 : x1 < (a0.length : Int)
    · rw [if_pos c2] at h
      refine .cond' (.tmp 11) true [c_ 3736, c_ 3737, b_ 1, c_ 935, l_ 58, b_ 0, c_ 15] (bT (dT c2)) ?_
      by_cases c3 : 0 ≤ x1
      · rw [if_pos c3] at h
        refine .reg' [0, 3, 4, 8, 9, 10] [.no, .no, .v (.ag [(S (at_ a0 x1).f0), (.sl true (at_ a0 x1).f1.length 3 ((at_ a0 x1).f1.flatMap e48))])] ⟨[(0, (.sl true a0.length 2 (a0.flatMap (e28 true)))), (3, (I x1)), (4, (.pt 1539 0 2)), (8, (.sl true a0.length 2 (a0.flatMap (e28 true)))), (9, (I (a0.length : Int))), (10, (I x1))], [(1539, [(S (at_ a0 x1).f0), (.sl true (at_ a0 x1).f1.length 3 ((at_ a0 x1).f1.flatMap e48))])], [(0 : Int) ≤ x1 ∧ x1 < (a0.length : Int), rdC prog 29 ((a0.flatMap (e28 true)).drop (x1.toNat * 2)) = (.ag [(S (at_ a0 x1).f0), (.sl true (at_ a0 x1).f1.length 3 ((at_ a0 x1).f1.flatMap e48))]), 2 ≤ ((a0.flatMap (e28 true)).drop (x1.toNat * 2)).length, 2 = 2 ∧ 0 + 2 ≤ 2], []⟩ [c_ 7474, c_ 7475, b_ 1, c_ 935, l_ 58, b_ 0, c_ 15] (alc ⟨c3, c2⟩ (alc (ldA (e28_ok true) rfl rfl c3 c2) (alc (okI (e28_ok true) c3 c2 (by decide)) (alc ⟨rfl, by decide⟩ aln)))) nocal ?_
        obtain ⟨x2, hx2, h⟩ := Option.bind_eq_some_iff.mp h
        by_cases c4 : x2 = true
        · rw [if_pos c4] at h
          by_cases c5 : x1 ≤ (a0.length : Int)
          · rw [if_pos c5] at h
            obtain ⟨x3, hx3, h⟩ := Option.bind_eq_some_iff.mp h
            refine .reg' [0, 8, 9, 10, 26] [.no, .c ⟨24, [(.ag [(S (at_ a0 x1).f0), (.sl true (at_ a0 x1).f1.length 3 ((at_ a0 x1).f1.flatMap e48))])], [], (B x2), [], [], [], [], (B x2), []⟩, .no, .v (B false), .no, .no, .v (.sl true ((a0.drop (0 : Int).toNat).take (x1.toNat - (0 : Int).toNat)).length 2 (((a0.drop (0 : Int).toNat).take (x1.toNat - (0 : Int).toNat)).flatMap (e28 true))), .no, .no, .c ⟨57, [(.sl true ((a0.drop (0 : Int).toNat).take (x1.toNat - (0 : Int).toNat)).length 2 (((a0.drop (0 : Int).toNat).take (x1.toNat - (0 : Int).toNat)).flatMap (e28 true))), (S (at_ a0 x1).f0)], [], (I x3), [], [], [], [], (I x3), []⟩] ⟨[(0, (.sl true a0.length 2 (a0.flatMap (e28 true)))), (8, (.sl true a0.length 2 (a0.flatMap (e28 true)))), (9, (I (a0.length : Int))), (10, (I x1)), (26, (B (decide (x3 ≥ 0))))], [(1539, [(S (at_ a0 x1).f0), (.sl true (at_ a0 x1).f1.length 3 ((at_ a0 x1).f1.flatMap e48))])], [2 = 2 ∧ 0 + 2 ≤ 2, COK (hget [(1539, [(S (at_ a0 x1).f0), (.sl true (at_ a0 x1).f1.length 3 ((at_ a0 x1).f1.flatMap e48))])]) [(.ag [(S (at_ a0 x1).f0), (.sl true (at_ a0 x1).f1.length 3 ((at_ a0 x1).f1.flatMap e48))])] ⟨24, [(.ag [(S (at_ a0 x1).f0), (.sl true (at_ a0 x1).f1.length 3 ((at_ a0 x1).f1.flatMap e48))])], [], (B x2), [], [], [], [], (B x2), []⟩, (B (!x2) : V) = B false, V.sl true (x1.toNat - (0 : Int).toNat) 2 (((a0.flatMap (e28 true)).drop ((0 : Int).toNat * 2)).take ((x1.toNat - (0 : Int).toNat) * 2)) = (.sl true ((a0.drop (0 : Int).toNat).take (x1.toNat - (0 : Int).toNat)).length 2 (((a0.drop (0 : Int).toNat).take (x1.toNat - (0 : Int).toNat)).flatMap (e28 true))), 0 ≤ (0 : Int) ∧ 0 ≤ x1 ∧ x1 ≤ (a0.length : Int), 2 = 2 ∧ 0 + 1 ≤ 2, COK (hget [(1539, [(S (at_ a0 x1).f0), (.sl true (at_ a0 x1).f1.length 3 ((at_ a0 x1).f1.flatMap e48))])]) [(.sl true ((a0.drop (0 : Int).toNat).take (x1.toNat - (0 : Int).toNat)).length 2 (((a0.drop (0 : Int).toNat).take (x1.toNat - (0 : Int).toNat)).flatMap (e28 true))), (S (at_ a0 x1).f0)] ⟨57, [(.sl true ((a0.drop (0 : Int).toNat).take (x1.toNat - (0 : Int).toNat)).length 2 (((a0.drop (0 : Int).toNat).take (x1.toNat - (0 : Int).toNat)).flatMap (e28 true))), (S (at_ a0 x1).f0)], [], (I x3), [], [], [], [], (I x3), []⟩], [⟨24, [(.ag [(S (at_ a0 x1).f0), (.sl true (at_ a0 x1).f1.length 3 ((at_ a0 x1).f1.flatMap e48))])], [], (B x2), [], [], [], [], (B x2), []⟩, ⟨57, [(.sl true ((a0.drop (0 : Int).toNat).take (x1.toNat - (0 : Int).toNat)).length 2 (((a0.drop (0 : Int).toNat).take (x1.toNat - (0 : Int).toNat)).flatMap (e28 true))), (S (at_ a0 x1).f0)], [], (I x3), [], [], [], [], (I x3), []⟩]⟩ [c_ 7475, b_ 1, c_ 935, l_ 58, b_ 0, c_ 15] (alc ⟨rfl, by decide⟩ (alc (cok0 false (a2c (.z (frz_ag (a2c .s (a2c (frz_sl e48_ok (fun h => h)) a2n)))) a2n) (.z .s) (fun h => absurd h (by decide))) (alc (bF (nF c4)) (alc (slS (e28_ok true) (by omega) (by omega)) (alc ⟨(by decide), c3, c5⟩ (alc ⟨rfl, by decide⟩ (alc (cok0 false (a2c (.z (frz_sl (e28_ok true) (fun h => h))) (a2c (.z .s) a2n)) (.z .s) (fun h => absurd h (by decide))) aln))))))) (acal (impl_TripOk.J k (at_ a0 x1) _ hx2) (acal (impl_tripNamed.J k ((a0.drop (0 : Int).toNat).take (x1.toNat - (0 : Int).toNat)) ((at_ a0 x1).f0) _ hx3) nocal)) ?_
            by_cases c6 : x3 ≥ 0
            · rw [if_pos c6] at h
              refine .cond' (.tmp 26) true [c_ 29900, c_ 29901, b_ 1, c_ 935, l_ 58, b_ 0, c_ 15] (bT (dT c6)) ?_
              refine .reg' [2] [] ⟨[(2, (B false))], [(1539, [(S (at_ a0 x1).f0), (.sl true (at_ a0 x1).f1.length 3 ((at_ a0 x1).f1.flatMap e48))])], [], []⟩ [c_ 29901, b_ 1, c_ 935, l_ 58, b_ 0, c_ 15] aln nocal ?_
              have h := Option.some.inj h
              subst h
              exact .fin0 [] (B false) [] aln (.z .s)
            · rw [if_neg c6] at h
              refine .cond' (.tmp 26) false [c_ 935, l_ 58, b_ 0, c_ 15] (bF (dF c6)) ?_
              refine .reg' [0, 8, 9, 10] [] ⟨[(0, (.sl true a0.length 2 (a0.flatMap (e28 true)))), (8, (.sl true a0.length 2 (a0.flatMap (e28 true)))), (9, (I (a0.length : Int))), (10, (I (wrap64 (x1 + 1))))], [(1539, [(S (at_ a0 x1).f0), (.sl true (at_ a0 x1).f1.length 3 ((at_ a0 x1).f1.flatMap e48))])], [], []⟩ [l_ 58, b_ 0, c_ 15] aln nocal ?_
              refine .wk' [] [] [(0, (.sl true a0.length 2 (a0.flatMap (e28 true)))), (8, (.sl true a0.length 2 (a0.flatMap (e28 true)))), (9, (I (a0.length : Int))), (10, (I (wrap64 (x1 + 1))))] [] shn (enc_ (.z (frz_sl (e28_ok true) (fun h => h))) (enc_ (.z (frz_sl (e28_ok true) (fun h => h))) (enc_ (.z .s) (enc_ (.z .s) enn)))) ?_
              exact ih0 a0 (wrap64 (x1 + 1)) _ h
          · rw [if_neg c5] at h
            cases h
        · rw [if_neg c4] at h
          refine .reg' [0, 8, 9, 10, 26] [.no, .c ⟨24, [(.ag [(S (at_ a0 x1).f0), (.sl true (at_ a0 x1).f1.length 3 ((at_ a0 x1).f1.flatMap e48))])], [], (B x2), [], [], [], [], (B x2), []⟩, .no, .v (B true)] ⟨[(0, (.sl true a0.length 2 (a0.flatMap (e28 true)))), (8, (.sl true a0.length 2 (a0.flatMap (e28 true)))), (9, (I (a0.length : Int))), (10, (I x1)), (26, (B true))], [(1539, [(S (at_ a0 x1).f0), (.sl true (at_ a0 x1).f1.length 3 ((at_ a0 x1).f1.flatMap e48))])], [2 = 2 ∧ 0 + 2 ≤ 2, COK (hget [(1539, [(S (at_ a0 x1).f0), (.sl true (at_ a0 x1).f1.length 3 ((at_ a0 x1).f1.flatMap e48))])]) [(.ag [(S (at_ a0 x1).f0), (.sl true (at_ a0 x1).f1.length 3 ((at_ a0 x1).f1.flatMap e48))])] ⟨24, [(.ag [(S (at_ a0 x1).f0), (.sl true (at_ a0 x1).f1.length 3 ((at_ a0 x1).f1.flatMap e48))])], [], (B x2), [], [], [], [], (B x2), []⟩, (B (!x2) : V) = B true], [⟨24, [(.ag [(S (at_ a0 x1).f0), (.sl true (at_ a0 x1).f1.length 3 ((at_ a0 x1).f1.flatMap e48))])], [], (B x2), [], [], [], [], (B x2), []⟩]⟩ [c_ 7475, b_ 1, c_ 935, l_ 58, b_ 0, c_ 15] (alc ⟨rfl, by decide⟩ (alc (cok0 false (a2c (.z (frz_ag (a2c .s (a2c (frz_sl e48_ok (fun h => h)) a2n)))) a2n) (.z .s) (fun h => absurd h (by decide))) (alc (bT (nT (vF c4))) aln))) (acal (impl_TripOk.J k (at_ a0 x1) _ hx2) nocal) ?_
          refine .cond' (.tmp 26) true [c_ 29900, c_ 29901, b_ 1, c_ 935, l_ 58, b_ 0, c_ 15] (rfl) ?_
          refine .reg' [2] [] ⟨[(2, (B false))], [(1539, [(S (at_ a0 x1).f0), (.sl true (at_ a0 x1).f1.length 3 ((at_ a0 x1).f1.flatMap e48))])], [], []⟩ [c_ 29901, b_ 1, c_ 935, l_ 58, b_ 0, c_ 15] aln nocal ?_
          have h := Option.some.inj h
          subst h
          exact .fin0 [] (B false) [] aln (.z .s)
      · rw [if_neg c3] at h
        cases h
    · rw [if_neg c2] at h
      refine .cond' (.tmp 11) false [c_ 30, c_ 31] (bF (dF c2)) ?_
      refine .reg' [2] [] ⟨[(2, (B true))], [], [], []⟩ [c_ 31] aln nocal ?_
      have h := Option.some.inj h
      subst h
      exact .fin0 [] (B true) [] aln (.z .s)
theorem impl_TableOk.J (k : Nat) (a0 : (List S28)) (r : Bool) (h : impl_TableOk.f k a0 = some r) : J prog (.call 29 [(.sl true a0.length 2 (a0.flatMap (e28 true)))] [] (B r) []) := by
  unfold impl_TableOk.f at h
  have ih0 := impl_TableOk.lab k
  refine .call' [c_ 2, c_ 3] ?_
  refine .reg' [0] [] ⟨[(0, (.sl true a0.length 2 (a0.flatMap (e28 true))))], [], [], []⟩ [c_ 12, c_ 13, c_ 7] aln nocal ?_
  refine .reg' [0, 7] [] ⟨[(0, (.sl true a0.length 2 (a0.flatMap (e28 true)))), (7, (B (decide ((a0.length : Int) > 24))))], [], [], []⟩ [c_ 13, c_ 7] aln nocal ?_
  by_cases c1 : (a0.length : Int) > 24
  · rw [if_pos c1] at h
    refine .cond' (.tmp 7) true [c_ 52, c_ 53, c_ 7] (bT (dT c1)) ?_
    refine .reg' [2] [] ⟨[(2, (B false))], [], [], []⟩ [c_ 53, c_ 7] aln nocal ?_
    have h := Option.some.inj h
    subst h
    exact .fin0 [] (B false) [] aln (.z .s)
  · rw [if_neg c1] at h
    refine .cond' (.tmp 7) false [c_ 28, c_ 29, c_ 15] (bF (dF c1)) ?_
    refine .reg' [0, 8, 9, 10] [] ⟨[(0, (.sl true a0.length 2 (a0.flatMap (e28 true)))), (8, (.sl true a0.length 2 (a0.flatMap (e28 true)))), (9, (I (a0.length : Int))), (10, (I 0))], [], [], []⟩ [l_ 58, b_ 0, c_ 15] aln nocal ?_
    exact ih0 a0 0 _ h
/-! impl_Clockface: function 14 -/
def impl_Clockface.l0 : Nat → S28 → Int → Int → (List S28) → Int → Option (List S28)
 | 0, _, _, _, _, _ => none
 | k + 1, a0, a1, a2, x4, x5 => (if x5 < ((List.replicate a2.toNat (⟨ByteArray.empty, []⟩ : S28)).length : Int) then ((impl_Moved.f k a0 (wrap64 (x5 * a1))).bind fun x6 => (if 0 ≤ x5 then (if x5 < (x4.length : Int) then ((strconv_Itoa.f x5).bind fun x7 => (if x6.f0.size + x7.size ≤ 9223372036854775807 then (impl_Clockface.l0 k a0 a1 a2 (x4.set x5.toNat (⟨(x6.f0 ++ x7), x6.f1⟩ : S28)) (wrap64 (x5 + 1))) else none)) else none) else none)) else ((impl_TableOk.f k x4).bind fun x8 => (if x8 = true then (some x4) else (some ([] : List S28)))))
def impl_Clockface.f (k : Nat) (a0 : S28) (a1 : Int) (a2 : Int) : Option (List S28) := ((impl_TripOk.f k a0).bind fun x1 => (if x1 = true then ((impl_between.f a1 1 1440).bind fun x2 => (if x2 = true then ((impl_between.f a2 1 24).bind fun x3 => (if x3 = true then (if 0 ≤ a2 then (if a2 * 40 ≤ 281474976710656 then (impl_Clockface.l0 k a0 a1 a2 (List.replicate a2.toNat (⟨ByteArray.empty, []⟩ : S28)) 0) else none) else none) else (some ([] : List S28)))) else (some ([] : List S28)))) else (some ([] : List S28))))
theorem impl_Clockface.lab : ∀ k, (∀ (a0 : S28) (a1 : Int) (a2 : Int) (x4 : (List S28)) (x5 : Int) (r : (List S28)), impl_Clockface.l0 k a0 a1 a2 x4 x5 = some r → J prog (.run 14 [] [l_ 122, b_ 0, c_ 31] [(1, (I a1)), (3, (.pt 256 0 2)), (7, (.rf 4000001025 0 x4.length 2 (x4.length * 2))), (25, (I ((List.replicate a2.toNat (⟨ByteArray.empty, []⟩ : S28)).length : Int))), (26, (I x5))] [(256, [(S a0.f0), (.sl true a0.f1.length 3 (a0.f1.flatMap e48))]), (4000001025, (x4.flatMap o28))] (.rf 4000001025 0 r.length 2 (r.length * 2)) [(4000001025, (r.flatMap o28))]))
 | 0 => (by intro a0 a1 a2 x4 x5 r h; unfold impl_Clockface.l0 at h; cases h)
 | k + 1 => by
  have ih0 := impl_Clockface.lab k
  · intro a0 a1 a2 x4 x5 r h
    unfold impl_Clockface.l0 at h
    refine .loop' [c_ 488, c_ 489, l_ 122, b_ 0, c_ 31] ?_
    refine .reg' [1, 3, 7, 25, 26, 27] [] ⟨[(1, (I a1)), (3, (.pt 256 0 2)), (7, (.rf 4000001025 0 x4.length 2 (x4.length * 2))), (25, (I ((List.replicate a2.toNat (⟨ByteArray.empty, []⟩ : S28)).length : Int))), (26, (I x5)), (27, (B (decide (x5 < ((List.replicate a2.toNat (⟨ByteArray.empty, []⟩ : S28)).length : Int)))))], [(256, [(S a0.f0), (.sl true a0.f1.length 3 (a0.f1.flatMap e48))]), (4000001025, (x4.flatMap o28))], [], []⟩ [c_ 978, c_ 979, l_ 122, b_ 0, c_ 31] aln nocal ?_
    by_cases c6 : x5 < ((List.replicate a2.toNat (⟨ByteArray.empty, []⟩ : S28)).length : Int)
    · rw [if_pos c6] at h
      refine .cond' (.tmp 27) true [c_ 7832, c_ 7833, b_ 1, c_ 1959, l_ 122, b_ 0, c_ 31] (bT (dT c6)) ?_
      refine .reg' [1, 3, 7, 8, 25, 26] [] ⟨[(1, (I a1)), (3, (.pt 256 0 2)), (7, (.rf 4000001025 0 x4.length 2 (x4.length * 2))), (8, (I x5)), (25, (I ((List.replicate a2.toNat (⟨ByteArray.empty, []⟩ : S28)).length : Int))), (26, (I x5))], [(256, [(S a0.f0), (.sl true a0.f1.length 3 (a0.f1.flatMap e48))]), (4000001025, (x4.flatMap o28))], [], []⟩ [c_ 15666, c_ 15667, b_ 1, c_ 1959, l_ 122, b_ 0, c_ 31] aln nocal ?_
      obtain ⟨x6, hx6, h⟩ := Option.bind_eq_some_iff.mp h
      by_cases c7 : 0 ≤ x5
      · rw [if_pos c7] at h
        by_cases c8 : x5 < (x4.length : Int)
        · rw [if_pos c8] at h
          refine .reg' [1, 3, 7, 8, 25, 26] [.no, .no, .no, .no, .no, .no, .c ⟨27, [(.ag [(S a0.f0), (.sl true a0.f1.length 3 (a0.f1.flatMap e48))]), (I (wrap64 (x5 * a1)))], [], (.ag [(S x6.f0), (.rf 1001025 0 x6.f1.length 3 (x6.f1.length * 3))]), [(1001025, (x6.f1.flatMap e48))], [], [], [(1002054, 1001025)], (.ag [(S x6.f0), (.rf 1002054 0 x6.f1.length 3 (x6.f1.length * 3))]), [(1002054, (x6.f1.flatMap e48))]⟩, .no, .w .un (foc o28 x4 x5.toNat [(S x6.f0), (.rf 1002054 0 x6.f1.length 3 (x6.f1.length * 3))])] ⟨[(1, (I a1)), (3, (.pt 256 0 2)), (7, (.rf 4000001025 0 x4.length 2 (x4.length * 2))), (8, (I x5)), (25, (I ((List.replicate a2.toNat (⟨ByteArray.empty, []⟩ : S28)).length : Int))), (26, (I x5))], [(256, [(S a0.f0), (.sl true a0.f1.length 3 (a0.f1.flatMap e48))]), (4000001025, (foc o28 x4 x5.toNat [(S x6.f0), (.rf 1002054 0 x6.f1.length 3 (x6.f1.length * 3))])), (1002054, (x6.f1.flatMap e48))], [2 = 2 ∧ 0 + 2 ≤ 2, COK (hget [(256, [(S a0.f0), (.sl true a0.f1.length 3 (a0.f1.flatMap e48))]), (4000001025, (x4.flatMap o28))]) [(.ag [(S a0.f0), (.sl true a0.f1.length 3 (a0.f1.flatMap e48))]), (I (wrap64 (x5 * a1)))] ⟨27, [(.ag [(S a0.f0), (.sl true a0.f1.length 3 (a0.f1.flatMap e48))]), (I (wrap64 (x5 * a1)))], [], (.ag [(S x6.f0), (.rf 1001025 0 x6.f1.length 3 (x6.f1.length * 3))]), [(1001025, (x6.f1.flatMap e48))], [], [], [(1002054, 1001025)], (.ag [(S x6.f0), (.rf 1002054 0 x6.f1.length 3 (x6.f1.length * 3))]), [(1002054, (x6.f1.flatMap e48))]⟩, (0 : Int) ≤ x5 ∧ x5 < (x4.length : Int), V.un = V.un, spl (x4.flatMap o28) (0 + x5.toNat * 2) [(S x6.f0), (.rf 1002054 0 x6.f1.length 3 (x6.f1.length * 3))] = (foc o28 x4 x5.toNat [(S x6.f0), (.rf 1002054 0 x6.f1.length 3 (x6.f1.length * 3))]), x4.length * 2 = (x4.flatMap o28).length ∧ 0 + x5.toNat * 2 + 2 ≤ (x4.flatMap o28).length], [⟨27, [(.ag [(S a0.f0), (.sl true a0.f1.length 3 (a0.f1.flatMap e48))]), (I (wrap64 (x5 * a1)))], [], (.ag [(S x6.f0), (.rf 1001025 0 x6.f1.length 3 (x6.f1.length * 3))]), [(1001025, (x6.f1.flatMap e48))], [], [], [(1002054, 1001025)], (.ag [(S x6.f0), (.rf 1002054 0 x6.f1.length 3 (x6.f1.length * 3))]), [(1002054, (x6.f1.flatMap e48))]⟩]⟩ [c_ 15667, b_ 1, c_ 1959, l_ 122, b_ 0, c_ 31] (alc ⟨rfl, by decide⟩ (alc (cokW false (a2c (.z (frz_ag (a2c .s (a2c (frz_sl e48_ok (fun h => h)) a2n)))) (a2c (.z .s) a2n)) akn (akc (.inr rfl) akn) (bck_ag (a2c (.z .s) (a2c (.rf (memP_mem (p := (1002054, 1001025)) rfl)) a2n))) (akc ⟨_, _, rfl, rfl, rowB e48_c _⟩ akn) (fun h => absurd h (by decide))) (alc ⟨c7, c8⟩ (alc rfl (alc (foc_st0 o28_ok c7 c8 rfl) (alc (okA0 o28_ok c7 c8 (by decide)) aln)))))) (acal (impl_Moved.J k a0 (wrap64 (x5 * a1)) _ hx6) nocal) ?_
          refine .clX [1002054] 1002054 4000001025 (x5.toNat * 2 + 1) x6.f1.length 3 (cs' := ((x4.set x5.toNat x6).flatMap o28)) (ds := (x6.f1.flatMap e48)) (H2 := [(256, [(S a0.f0), (.sl true a0.f1.length 3 (a0.f1.flatMap e48))])]) ((foc_get (vs := [(S x6.f0), (.rf 1002054 0 x6.f1.length 3 (x6.f1.length * 3))]) o28_ok c7 c8 rfl 1 (by decide)).trans rfl) ((foc_set (vs := [(S x6.f0), (.rf 1002054 0 x6.f1.length 3 (x6.f1.length * 3))]) o28_ok c7 c8 rfl 1 (by decide) _).trans (foc_end o28_ok c7 c8 x6)) (row_len e48_ok _) (rowS e48_s _) (rsc (rqE o28_ok _) (rsc rqL rsn)) ?_
          obtain ⟨x7, hx7, h⟩ := Option.bind_eq_some_iff.mp h
          by_cases c9 : x6.f0.size + x7.size ≤ 9223372036854775807
          · rw [if_pos c9] at h
            refine .reg' [1, 3, 7, 25, 26] [.no, .no, .no, .no, .v (S x6.f0), .no, .c ⟨35, [(I x5)], [], (S x7), [], [], [], [], (S x7), []⟩, .no, .no, .no, .w .un ((x4.set x5.toNat (⟨(x6.f0 ++ x7), x6.f1⟩ : S28)).flatMap o28)] ⟨[(1, (I a1)), (3, (.pt 256 0 2)), (7, (.rf 4000001025 0 x4.length 2 (x4.length * 2))), (25, (I ((List.replicate a2.toNat (⟨ByteArray.empty, []⟩ : S28)).length : Int))), (26, (I x5))], [(4000001025, ((x4.set x5.toNat (⟨(x6.f0 ++ x7), x6.f1⟩ : S28)).flatMap o28)), (256, [(S a0.f0), (.sl true a0.f1.length 3 (a0.f1.flatMap e48))])], [(0 : Int) ≤ x5 ∧ x5 < (x4.length : Int), rdC prog 9 (((x4.set x5.toNat x6).flatMap o28).drop (0 + x5.toNat * 2 + 0)) = (S x6.f0), x4.length * 2 = ((x4.set x5.toNat x6).flatMap o28).length ∧ 0 + x5.toNat * 2 + 0 + 1 ≤ ((x4.set x5.toNat x6).flatMap o28).length, COK (hget [(4000001025, ((x4.set x5.toNat x6).flatMap o28)), (256, [(S a0.f0), (.sl true a0.f1.length 3 (a0.f1.flatMap e48))])]) [(I x5)] ⟨35, [(I x5)], [], (S x7), [], [], [], [], (S x7), []⟩, x6.f0.size + x7.size ≤ 9223372036854775807, (0 : Int) ≤ x5 ∧ x5 < (x4.length : Int), V.un = V.un, spl ((x4.set x5.toNat x6).flatMap o28) (0 + x5.toNat * 2 + 0) [(S (x6.f0 ++ x7))] = ((x4.set x5.toNat (⟨(x6.f0 ++ x7), x6.f1⟩ : S28)).flatMap o28), x4.length * 2 = ((x4.set x5.toNat x6).flatMap o28).length ∧ 0 + x5.toNat * 2 + 0 + 1 ≤ ((x4.set x5.toNat x6).flatMap o28).length], [⟨35, [(I x5)], [], (S x7), [], [], [], [], (S x7), []⟩]⟩ [c_ 1959, l_ 122, b_ 0, c_ 31] (alc ⟨c7, c8⟩ (alc (ldC0s o28_ok 0 (by decide) rfl c7 c8) (alc (okL (by simp only [List.length_set]) (okA o28_ok c7 (ls c8) (by decide))) (alc (cok0 false (a2c (.z .s) a2n) (.z .s) (fun h => absurd h (by decide))) (alc c9 (alc ⟨c7, c8⟩ (alc rfl (alc (st_row2 o28_ok 0 c7 c8 (Nat.le_of_ble_eq_true rfl) rfl) (alc (okL (by simp only [List.length_set]) (okA o28_ok c7 (ls c8) (by decide))) aln))))))))) (acal (strconv_Itoa.J x5 _ hx7) nocal) ?_
            refine .eqs (env2 := [(1, (I a1)), (3, (.pt 256 0 2)), (7, (.rf 4000001025 0 ((x4.set x5.toNat (⟨(x6.f0 ++ x7), x6.f1⟩ : S28)).length) 2 ((x4.set x5.toNat (⟨(x6.f0 ++ x7), x6.f1⟩ : S28)).length * 2))), (25, (I ((List.replicate a2.toNat (⟨ByteArray.empty, []⟩ : S28)).length : Int))), (26, (I x5))]) (H2 := [(4000001025, ((x4.set x5.toNat (⟨(x6.f0 ++ x7), x6.f1⟩ : S28)).flatMap o28)), (256, [(S a0.f0), (.sl true a0.f1.length 3 (a0.f1.flatMap e48))])]) (by first | (simp only [List.length_set]; done) | simp) (by first | rfl | (simp only [List.length_set]; done) | simp) ?_
            refine .reg' [1, 3, 7, 25, 26] [] ⟨[(1, (I a1)), (3, (.pt 256 0 2)), (7, (.rf 4000001025 0 ((x4.set x5.toNat (⟨(x6.f0 ++ x7), x6.f1⟩ : S28)).length) 2 ((x4.set x5.toNat (⟨(x6.f0 ++ x7), x6.f1⟩ : S28)).length * 2))), (25, (I ((List.replicate a2.toNat (⟨ByteArray.empty, []⟩ : S28)).length : Int))), (26, (I (wrap64 (x5 + 1))))], [(4000001025, ((x4.set x5.toNat (⟨(x6.f0 ++ x7), x6.f1⟩ : S28)).flatMap o28)), (256, [(S a0.f0), (.sl true a0.f1.length 3 (a0.f1.flatMap e48))])], [], []⟩ [l_ 122, b_ 0, c_ 31] aln nocal ?_
            refine .wk' [] [(256, 256), (4000001025, 4000001025)] [(1, (I a1)), (3, (.pt 256 0 2)), (7, (.rf 4000001025 0 ((x4.set x5.toNat (⟨(x6.f0 ++ x7), x6.f1⟩ : S28)).length) 2 ((x4.set x5.toNat (⟨(x6.f0 ++ x7), x6.f1⟩ : S28)).length * 2))), (25, (I ((List.replicate a2.toNat (⟨ByteArray.empty, []⟩ : S28)).length : Int))), (26, (I (wrap64 (x5 + 1))))] [(256, [(S a0.f0), (.sl true a0.f1.length 3 (a0.f1.flatMap e48))]), (4000001025, ((x4.set x5.toNat (⟨(x6.f0 ++ x7), x6.f1⟩ : S28)).flatMap o28))] (shc 256 (a2c (.z .s) (a2c (.z (frz_sl e48_ok (fun h => h))) a2n)) (shc 4000001025 (rowF o28_ok _) shn)) (enc_ (.z .s) (enc_ (.pt (memP_mem (p := (256, 256)) rfl)) (enc_ (.rf (memP_mem (p := (4000001025, 4000001025)) rfl)) (enc_ (.z .s) (enc_ (.z .s) enn))))) ?_
            exact ih0 a0 a1 a2 (x4.set x5.toNat (⟨(x6.f0 ++ x7), x6.f1⟩ : S28)) (wrap64 (x5 + 1)) _ h
          · rw [if_neg c9] at h
            cases h
        · rw [if_neg c8] at h
          cases h
      · rw [if_neg c7] at h
        cases h
    · rw [if_neg c6] at h
      refine .cond' (.tmp 27) false [c_ 124, c_ 125, c_ 63] (bF (dF c6)) ?_
      obtain ⟨x8, hx8, h⟩ := Option.bind_eq_some_iff.mp h
      refine .reg' [7, 50] [.no, .c ⟨29, [(.sl true x4.length 2 (x4.flatMap (e28 true)))], [], (B x8), [], [4000001025], [], [], (B x8), []⟩] ⟨[(7, (.rf 4000001025 0 x4.length 2 (x4.length * 2))), (50, (B (!x8)))], [(256, [(S a0.f0), (.sl true a0.f1.length 3 (a0.f1.flatMap e48))]), (4000001025, (x4.flatMap o28))], [COK (hget [(256, [(S a0.f0), (.sl true a0.f1.length 3 (a0.f1.flatMap e48))]), (4000001025, (x4.flatMap o28))]) [(.rf 4000001025 0 x4.length 2 (x4.length * 2))] ⟨29, [(.sl true x4.length 2 (x4.flatMap (e28 true)))], [], (B x8), [], [4000001025], [], [], (B x8), []⟩], [⟨29, [(.sl true x4.length 2 (x4.flatMap (e28 true)))], [], (B x8), [], [4000001025], [], [], (B x8), []⟩]⟩ [c_ 125, c_ 63] (alc (cok0 false (a2c (.z (frz_rfO (k := 4000001025) (fun x => o28_l x) o28_ok (by simp) rfl rfl rfl (row_len o28_ok _).symm)) a2n) (.z .s) (fun h => absurd h (by decide))) aln) (acal (impl_TableOk.J k x4 _ hx8) nocal) ?_
      by_cases c10 : x8 = true
      · rw [if_pos c10] at h
        refine .cond' (.tmp 50) false [c_ 126, c_ 127] (bF (nF c10)) ?_
        refine .reg' [6] [] ⟨[(6, (.rf 4000001025 0 x4.length 2 (x4.length * 2)))], [(256, [(S a0.f0), (.sl true a0.f1.length 3 (a0.f1.flatMap e48))]), (4000001025, (x4.flatMap o28))], [], []⟩ [c_ 127] aln nocal ?_
        have h := Option.some.inj h
        subst h
        exact .fin' [] [(4000001025, 4000001025)] (.rf 4000001025 0 x4.length 2 (x4.length * 2)) [] aln (shc 4000001025 (rowF o28_ok _) shn) (.rf (memP_mem (p := (4000001025, 4000001025)) rfl))
      · rw [if_neg c10] at h
        refine .cond' (.tmp 50) true [c_ 500, c_ 501, c_ 63] (bT (nT (vF c10))) ?_
        refine .reg' [6] [] ⟨[(6, nilS)], [(256, [(S a0.f0), (.sl true a0.f1.length 3 (a0.f1.flatMap e48))]), (4000001025, (x4.flatMap o28))], [], []⟩ [c_ 501, c_ 63] aln nocal ?_
        have h := Option.some.inj h
        subst h
        refine .nl' 4000001026 ?_
        exact .fin' [] [(4000001026, 4000001025)] nilS [] aln (shc 4000001026 (rowF o28_ok _) shn) (.nl (memP_mem (p := (4000001026, 4000001025)) rfl) rfl)
theorem impl_Clockface.J (k : Nat) (a0 : S28) (a1 : Int) (a2 : Int) (r : (List S28)) (h : impl_Clockface.f k a0 a1 a2 = some r) : J prog (.call 14 [(.ag [(S a0.f0), (.sl true a0.f1.length 3 (a0.f1.flatMap e48))]), (I a1), (I a2)] [] (.rf 4000001025 0 r.length 2 (r.length * 2)) [(4000001025, (r.flatMap o28))]) := by
  unfold impl_Clockface.f at h
  have ih0 := impl_Clockface.lab k
  refine .call' [c_ 2, c_ 3] ?_
  refine .reg' [1, 2, 3] [] ⟨[(1, (I a1)), (2, (I a2)), (3, (.pt 256 0 2))], [(256, [(S a0.f0), (.sl true a0.f1.length 3 (a0.f1.flatMap e48))])], [], []⟩ [c_ 12, c_ 13, c_ 7] aln nocal ?_
  obtain ⟨x1, hx1, h⟩ := Option.bind_eq_some_iff.mp h
  by_cases c1 : x1 = true
  · rw [if_pos c1] at h
    obtain ⟨x2, hx2, h⟩ := Option.bind_eq_some_iff.mp h
    by_cases c2 : x2 = true
    · rw [if_pos c2] at h
      obtain ⟨x3, hx3, h⟩ := Option.bind_eq_some_iff.mp h
      refine .reg' [1, 2, 3, 21] [.no, .c ⟨24, [(.ag [(S a0.f0), (.sl true a0.f1.length 3 (a0.f1.flatMap e48))])], [], (B x1), [], [], [], [], (B x1), []⟩, .no, .v (B false), .no, .c ⟨41, [(I a1), (I 1), (I 1440)], [], (B x2), [], [], [], [], (B x2), []⟩, .no, .no, .v (B false), .no, .c ⟨41, [(I a2), (I 1), (I 24)], [], (B x3), [], [], [], [], (B x3), []⟩] ⟨[(1, (I a1)), (2, (I a2)), (3, (.pt 256 0 2)), (21, (B (!x3)))], [(256, [(S a0.f0), (.sl true a0.f1.length 3 (a0.f1.flatMap e48))])], [2 = 2 ∧ 0 + 2 ≤ 2, COK (hget [(256, [(S a0.f0), (.sl true a0.f1.length 3 (a0.f1.flatMap e48))])]) [(.ag [(S a0.f0), (.sl true a0.f1.length 3 (a0.f1.flatMap e48))])] ⟨24, [(.ag [(S a0.f0), (.sl true a0.f1.length 3 (a0.f1.flatMap e48))])], [], (B x1), [], [], [], [], (B x1), []⟩, (B (!x1) : V) = B false, COK (hget [(256, [(S a0.f0), (.sl true a0.f1.length 3 (a0.f1.flatMap e48))])]) [(I a1), (I 1), (I 1440)] ⟨41, [(I a1), (I 1), (I 1440)], [], (B x2), [], [], [], [], (B x2), []⟩, (B (!x2) : V) = B false, COK (hget [(256, [(S a0.f0), (.sl true a0.f1.length 3 (a0.f1.flatMap e48))])]) [(I a2), (I 1), (I 24)] ⟨41, [(I a2), (I 1), (I 24)], [], (B x3), [], [], [], [], (B x3), []⟩], [⟨24, [(.ag [(S a0.f0), (.sl true a0.f1.length 3 (a0.f1.flatMap e48))])], [], (B x1), [], [], [], [], (B x1), []⟩, ⟨41, [(I a1), (I 1), (I 1440)], [], (B x2), [], [], [], [], (B x2), []⟩, ⟨41, [(I a2), (I 1), (I 24)], [], (B x3), [], [], [], [], (B x3), []⟩]⟩ [c_ 13, c_ 7] (alc ⟨rfl, by decide⟩ (alc (cok0 false (a2c (.z (frz_ag (a2c .s (a2c (frz_sl e48_ok (fun h => h)) a2n)))) a2n) (.z .s) (fun h => absurd h (by decide))) (alc (bF (nF c1)) (alc (cok0 false (a2c (.z .s) (a2c (.z .s) (a2c (.z .s) a2n))) (.z .s) (fun h => absurd h (by decide))) (alc (bF (nF c2)) (alc (cok0 false (a2c (.z .s) (a2c (.z .s) (a2c (.z .s) a2n))) (.z .s) (fun h => absurd h (by decide))) aln)))))) (acal (impl_TripOk.J k a0 _ hx1) (acal (impl_between.J a1 1 1440 _ hx2) (acal (impl_between.J a2 1 24 _ hx3) nocal))) ?_
      by_cases c3 : x3 = true
      · rw [if_pos c3] at h
        refine .cond' (.tmp 21) false [c_ 14, c_ 15] (bF (nF c3)) ?_
        by_cases c4 : 0 ≤ a2
        · rw [if_pos c4] at h
          by_cases c5 : a2 * 40 ≤ 281474976710656
          · rw [if_pos c5] at h
            refine .reg' [1, 3, 7] [.no, .v (.rf 1025 0 ((List.replicate a2.toNat (⟨ByteArray.empty, []⟩ : S28)).length) 2 ((List.replicate a2.toNat (⟨ByteArray.empty, []⟩ : S28)).length * 2))] ⟨[(1, (I a1)), (3, (.pt 256 0 2)), (7, (.rf 1025 0 ((List.replicate a2.toNat (⟨ByteArray.empty, []⟩ : S28)).length) 2 ((List.replicate a2.toNat (⟨ByteArray.empty, []⟩ : S28)).length * 2)))], [(256, [(S a0.f0), (.sl true a0.f1.length 3 (a0.f1.flatMap e48))]), (1025, (rept a2.toNat [(S ByteArray.empty), nilS]))], [V.rf 1025 0 a2.toNat 2 (a2.toNat * 2) = (.rf 1025 0 ((List.replicate a2.toNat (⟨ByteArray.empty, []⟩ : S28)).length) 2 ((List.replicate a2.toNat (⟨ByteArray.empty, []⟩ : S28)).length * 2)), a2 = a2 ∧ 0 ≤ a2 ∧ a2 * 40 ≤ 281474976710656 ∧ a2 ≤ 9223372036854775807], []⟩ [c_ 60, c_ 61, c_ 31] (alc mkV (alc ⟨rfl, c4, c5, by omega⟩ aln)) nocal ?_
            refine .wk' [] [(256, 256), (1025, 4000001025)] [(1, (I a1)), (3, (.pt 256 0 2)), (7, (.rf 4000001025 0 ((List.replicate a2.toNat (⟨ByteArray.empty, []⟩ : S28)).length) 2 ((List.replicate a2.toNat (⟨ByteArray.empty, []⟩ : S28)).length * 2)))] [(256, [(S a0.f0), (.sl true a0.f1.length 3 (a0.f1.flatMap e48))]), (4000001025, ((List.replicate a2.toNat (⟨ByteArray.empty, []⟩ : S28)).flatMap o28))] (shc 256 (a2c (.z .s) (a2c (.z (frz_sl e48_ok (fun h => h))) a2n)) (shcA 1025 (a2reptO (enc := o28) (x := (⟨ByteArray.empty, []⟩ : S28)) (a2c (.inl (.z .s)) (a2c cnvN a2n)) _) (.inr (rept_no rfl _)) shn)) (enc_ (.z .s) (enc_ (.pt (memP_mem (p := (256, 256)) rfl)) (enc_ (.rf (memP_mem (p := (1025, 4000001025)) rfl)) enn))) ?_
            refine .reg' [1, 3, 7, 25, 26] [] ⟨[(1, (I a1)), (3, (.pt 256 0 2)), (7, (.rf 4000001025 0 ((List.replicate a2.toNat (⟨ByteArray.empty, []⟩ : S28)).length) 2 ((List.replicate a2.toNat (⟨ByteArray.empty, []⟩ : S28)).length * 2))), (25, (I ((List.replicate a2.toNat (⟨ByteArray.empty, []⟩ : S28)).length : Int))), (26, (I 0))], [(256, [(S a0.f0), (.sl true a0.f1.length 3 (a0.f1.flatMap e48))]), (4000001025, ((List.replicate a2.toNat (⟨ByteArray.empty, []⟩ : S28)).flatMap o28))], [], []⟩ [l_ 122, b_ 0, c_ 31] aln nocal ?_
            exact ih0 a0 a1 a2 (List.replicate a2.toNat (⟨ByteArray.empty, []⟩ : S28)) 0 _ h
          · rw [if_neg c5] at h
            cases h
        · rw [if_neg c4] at h
          cases h
      · rw [if_neg c3] at h
        refine .cond' (.tmp 21) true [c_ 52, c_ 53, c_ 7] (bT (nT (vF c3))) ?_
        refine .reg' [6] [] ⟨[(6, nilS)], [(256, [(S a0.f0), (.sl true a0.f1.length 3 (a0.f1.flatMap e48))])], [], []⟩ [c_ 53, c_ 7] aln nocal ?_
        have h := Option.some.inj h
        subst h
        refine .nl' 4000001025 ?_
        exact .fin' [] [(4000001025, 4000001025)] nilS [] aln (shc 4000001025 (rowF o28_ok _) shn) (.nl (memP_mem (p := (4000001025, 4000001025)) rfl) rfl)
    · rw [if_neg c2] at h
      refine .reg' [1, 2, 3, 21] [.no, .c ⟨24, [(.ag [(S a0.f0), (.sl true a0.f1.length 3 (a0.f1.flatMap e48))])], [], (B x1), [], [], [], [], (B x1), []⟩, .no, .v (B false), .no, .c ⟨41, [(I a1), (I 1), (I 1440)], [], (B x2), [], [], [], [], (B x2), []⟩, .no, .no, .v (B true)] ⟨[(1, (I a1)), (2, (I a2)), (3, (.pt 256 0 2)), (21, (B true))], [(256, [(S a0.f0), (.sl true a0.f1.length 3 (a0.f1.flatMap e48))])], [2 = 2 ∧ 0 + 2 ≤ 2, COK (hget [(256, [(S a0.f0), (.sl true a0.f1.length 3 (a0.f1.flatMap e48))])]) [(.ag [(S a0.f0), (.sl true a0.f1.length 3 (a0.f1.flatMap e48))])] ⟨24, [(.ag [(S a0.f0), (.sl true a0.f1.length 3 (a0.f1.flatMap e48))])], [], (B x1), [], [], [], [], (B x1), []⟩, (B (!x1) : V) = B false, COK (hget [(256, [(S a0.f0), (.sl true a0.f1.length 3 (a0.f1.flatMap e48))])]) [(I a1), (I 1), (I 1440)] ⟨41, [(I a1), (I 1), (I 1440)], [], (B x2), [], [], [], [], (B x2), []⟩, (B (!x2) : V) = B true], [⟨24, [(.ag [(S a0.f0), (.sl true a0.f1.length 3 (a0.f1.flatMap e48))])], [], (B x1), [], [], [], [], (B x1), []⟩, ⟨41, [(I a1), (I 1), (I 1440)], [], (B x2), [], [], [], [], (B x2), []⟩]⟩ [c_ 13, c_ 7] (alc ⟨rfl, by decide⟩ (alc (cok0 false (a2c (.z (frz_ag (a2c .s (a2c (frz_sl e48_ok (fun h => h)) a2n)))) a2n) (.z .s) (fun h => absurd h (by decide))) (alc (bF (nF c1)) (alc (cok0 false (a2c (.z .s) (a2c (.z .s) (a2c (.z .s) a2n))) (.z .s) (fun h => absurd h (by decide))) (alc (bT (nT (vF c2))) aln))))) (acal (impl_TripOk.J k a0 _ hx1) (acal (impl_between.J a1 1 1440 _ hx2) nocal)) ?_
      refine .cond' (.tmp 21) true [c_ 52, c_ 53, c_ 7] (rfl) ?_
      refine .reg' [6] [] ⟨[(6, nilS)], [(256, [(S a0.f0), (.sl true a0.f1.length 3 (a0.f1.flatMap e48))])], [], []⟩ [c_ 53, c_ 7] aln nocal ?_
      have h := Option.some.inj h
      subst h
      refine .nl' 4000001025 ?_
      exact .fin' [] [(4000001025, 4000001025)] nilS [] aln (shc 4000001025 (rowF o28_ok _) shn) (.nl (memP_mem (p := (4000001025, 4000001025)) rfl) rfl)
  · rw [if_neg c1] at h
    refine .reg' [1, 2, 3, 21] [.no, .c ⟨24, [(.ag [(S a0.f0), (.sl true a0.f1.length 3 (a0.f1.flatMap e48))])], [], (B x1), [], [], [], [], (B x1), []⟩, .no, .v (B true)] ⟨[(1, (I a1)), (2, (I a2)), (3, (.pt 256 0 2)), (21, (B true))], [(256, [(S a0.f0), (.sl true a0.f1.length 3 (a0.f1.flatMap e48))])], [2 = 2 ∧ 0 + 2 ≤ 2, COK (hget [(256, [(S a0.f0), (.sl true a0.f1.length 3 (a0.f1.flatMap e48))])]) [(.ag [(S a0.f0), (.sl true a0.f1.length 3 (a0.f1.flatMap e48))])] ⟨24, [(.ag [(S a0.f0), (.sl true a0.f1.length 3 (a0.f1.flatMap e48))])], [], (B x1), [], [], [], [], (B x1), []⟩, (B (!x1) : V) = B true], [⟨24, [(.ag [(S a0.f0), (.sl true a0.f1.length 3 (a0.f1.flatMap e48))])], [], (B x1), [], [], [], [], (B x1), []⟩]⟩ [c_ 13, c_ 7] (alc ⟨rfl, by decide⟩ (alc (cok0 false (a2c (.z (frz_ag (a2c .s (a2c (frz_sl e48_ok (fun h => h)) a2n)))) a2n) (.z .s) (fun h => absurd h (by decide))) (alc (bT (nT (vF c1))) aln))) (acal (impl_TripOk.J k a0 _ hx1) nocal) ?_
    refine .cond' (.tmp 21) true [c_ 52, c_ 53, c_ 7] (rfl) ?_
    refine .reg' [6] [] ⟨[(6, nilS)], [(256, [(S a0.f0), (.sl true a0.f1.length 3 (a0.f1.flatMap e48))])], [], []⟩ [c_ 53, c_ 7] aln nocal ?_
    have h := Option.some.inj h
    subst h
    refine .nl' 4000001025 ?_
    exact .fin' [] [(4000001025, 4000001025)] nilS [] aln (shc 4000001025 (rowF o28_ok _) shn) (.nl (memP_mem (p := (4000001025, 4000001025)) rfl) rfl)
/-! laws_eqCall: function 62 -/
def laws_eqCall.f (a0 : S48) (a1 : S48) : Option Bool := (if a0.f0 = a1.f0 then (if a0.f1 = a1.f1 then (if a0.f2 = a1.f2 then (some true) else (some false)) else (some false)) else (some false))
theorem laws_eqCall.J (a0 : S48) (a1 : S48) (r : Bool) (h : laws_eqCall.f a0 a1 = some r) : J prog (.call 62 [(.ag [(I a0.f0), (I a0.f1), (I a0.f2)]), (.ag [(I a1.f0), (I a1.f1), (I a1.f2)])] [] (B r) []) := by
  unfold laws_eqCall.f at h
  refine .call' [c_ 2, c_ 3] ?_
  refine .reg' [2, 3] [] ⟨[(2, (.pt 256 0 3)), (3, (.pt 257 0 3))], [(256, [(I a0.f0), (I a0.f1), (I a0.f2)]), (257, [(I a1.f0), (I a1.f1), (I a1.f2)])], [], []⟩ [c_ 12, c_ 13, c_ 7] aln nocal ?_
  refine .reg' [2, 3, 9] [] ⟨[(2, (.pt 256 0 3)), (3, (.pt 257 0 3)), (9, (B (!(a0.f0 == a1.f0))))], [(256, [(I a0.f0), (I a0.f1), (I a0.f2)]), (257, [(I a1.f0), (I a1.f1), (I a1.f2)])], [3 = 3 ∧ 0 + 1 ≤ 3, 3 = 3 ∧ 0 + 1 ≤ 3], []⟩ [c_ 13, c_ 7] (alc ⟨rfl, by decide⟩ (alc ⟨rfl, by decide⟩ aln)) nocal ?_
  by_cases c1 : a0.f0 = a1.f0
  · rw [if_pos c1] at h
    refine .cond' (.tmp 9) false [c_ 28, c_ 29, c_ 15] (bF (nF (qT c1))) ?_
    refine .reg' [2, 3, 14] [] ⟨[(2, (.pt 256 0 3)), (3, (.pt 257 0 3)), (14, (B (!(a0.f1 == a1.f1))))], [(256, [(I a0.f0), (I a0.f1), (I a0.f2)]), (257, [(I a1.f0), (I a1.f1), (I a1.f2)])], [3 = 3 ∧ 1 + 1 ≤ 3, 3 = 3 ∧ 1 + 1 ≤ 3], []⟩ [c_ 29, c_ 15] (alc ⟨rfl, by decide⟩ (alc ⟨rfl, by decide⟩ aln)) nocal ?_
    by_cases c2 : a0.f1 = a1.f1
    · rw [if_pos c2] at h
      refine .cond' (.tmp 14) false [c_ 60, c_ 61, c_ 31] (bF (nF (qT c2))) ?_
      refine .reg' [19] [] ⟨[(19, (B (!(a0.f2 == a1.f2))))], [(256, [(I a0.f0), (I a0.f1), (I a0.f2)]), (257, [(I a1.f0), (I a1.f1), (I a1.f2)])], [3 = 3 ∧ 2 + 1 ≤ 3, 3 = 3 ∧ 2 + 1 ≤ 3], []⟩ [c_ 61, c_ 31] (alc ⟨rfl, by decide⟩ (alc ⟨rfl, by decide⟩ aln)) nocal ?_
      by_cases c3 : a0.f2 = a1.f2
      · rw [if_pos c3] at h
        refine .cond' (.tmp 19) false [c_ 62, c_ 63] (bF (nF (qT c3))) ?_
        refine .reg' [4] [] ⟨[(4, (B true))], [(256, [(I a0.f0), (I a0.f1), (I a0.f2)]), (257, [(I a1.f0), (I a1.f1), (I a1.f2)])], [], []⟩ [c_ 63] aln nocal ?_
        have h := Option.some.inj h
        subst h
        exact .fin0 [] (B true) [] aln (.z .s)
      · rw [if_neg c3] at h
        refine .cond' (.tmp 19) true [c_ 244, c_ 245, c_ 31] (bT (nT (qF c3))) ?_
        refine .reg' [4] [] ⟨[(4, (B false))], [(256, [(I a0.f0), (I a0.f1), (I a0.f2)]), (257, [(I a1.f0), (I a1.f1), (I a1.f2)])], [], []⟩ [c_ 245, c_ 31] aln nocal ?_
        have h := Option.some.inj h
        subst h
        exact .fin0 [] (B false) [] aln (.z .s)
    · rw [if_neg c2] at h
      refine .cond' (.tmp 14) true [c_ 116, c_ 117, c_ 15] (bT (nT (qF c2))) ?_
      refine .reg' [4] [] ⟨[(4, (B false))], [(256, [(I a0.f0), (I a0.f1), (I a0.f2)]), (257, [(I a1.f0), (I a1.f1), (I a1.f2)])], [], []⟩ [c_ 117, c_ 15] aln nocal ?_
      have h := Option.some.inj h
      subst h
      exact .fin0 [] (B false) [] aln (.z .s)
  · rw [if_neg c1] at h
    refine .cond' (.tmp 9) true [c_ 52, c_ 53, c_ 7] (bT (nT (qF c1))) ?_
    refine .reg' [4] [] ⟨[(4, (B false))], [(256, [(I a0.f0), (I a0.f1), (I a0.f2)]), (257, [(I a1.f0), (I a1.f1), (I a1.f2)])], [], []⟩ [c_ 53, c_ 7] aln nocal ?_
    have h := Option.some.inj h
    subst h
    exact .fin0 [] (B false) [] aln (.z .s)
/-! laws_eqCallS: function 37 -/
def laws_eqCallS.l0 : Nat → (List S48) → (List S48) → Int → Option Bool
 | 0, _, _, _ => none
 | k + 1, a0, a1, x1 => (if x1 < (a0.length : Int) then (if 0 ≤ x1 then (if x1 < (a1.length : Int) then ((laws_eqCall.f (at_ a0 x1) (at_ a1 x1)).bind fun x2 => (if x2 = true then (laws_eqCallS.l0 k a0 a1 (wrap64 (x1 + 1))) else (some false))) else none) else none) else (some true))
def laws_eqCallS.f (k : Nat) (a0 : (List S48)) (a1 : (List S48)) : Option Bool := (if (a0.length : Int) = (a1.length : Int) then (laws_eqCallS.l0 k a0 a1 0) else (some false))
theorem laws_eqCallS.lab : ∀ k, (∀ (a0 : (List S48)) (a1 : (List S48)) (x1 : Int) (r : Bool), laws_eqCallS.l0 k a0 a1 x1 = some r → J prog (.run 37 [] [l_ 58, b_ 0, c_ 15] [(0, (.sl true a0.length 3 (a0.flatMap e48))), (1, (.sl true a1.length 3 (a1.flatMap e48))), (5, (I x1))] [] (B r) []))
 | 0 => (by intro a0 a1 x1 r h; unfold laws_eqCallS.l0 at h; cases h)
 | k + 1 => by
  have ih0 := laws_eqCallS.lab k
  · intro a0 a1 x1 r h
    unfold laws_eqCallS.l0 at h
    refine .loop' [c_ 464, c_ 465, c_ 233, l_ 58, b_ 0, c_ 15] ?_
    refine .reg' [0, 1, 5, 14] [] ⟨[(0, (.sl true a0.length 3 (a0.flatMap e48))), (1, (.sl true a1.length 3 (a1.flatMap e48))), (5, (I x1)), (14, (B (decide (x1 < (a0.length : Int)))))], [], [], []⟩ [c_ 465, c_ 233, l_ 58, b_ 0, c_ 15] aln nocal ?_
    by_cases c2 : x1 < (a0.length : Int)
    · rw [if_pos c2] at h
      refine .cond' (.tmp 14) true [c_ 1864, c_ 1865, b_ 1, c_ 467, l_ 58, b_ 0, c_ 15] (bT (dT c2)) ?_
      by_cases c3 : 0 ≤ x1
      · rw [if_pos c3] at h
        by_cases c4 : x1 < (a1.length : Int)
        · rw [if_pos c4] at h
          obtain ⟨x2, hx2, h⟩ := Option.bind_eq_some_iff.mp h
          refine .reg' [0, 1, 5, 26] [.no, .no, .no, .v (.ag [(I (at_ a0 x1).f0), (I (at_ a0 x1).f1), (I (at_ a0 x1).f2)]), .no, .no, .no, .v (.ag [(I (at_ a1 x1).f0), (I (at_ a1 x1).f1), (I (at_ a1 x1).f2)]), .c ⟨62, [(.ag [(I (at_ a0 x1).f0), (I (at_ a0 x1).f1), (I (at_ a0 x1).f2)]), (.ag [(I (at_ a1 x1).f0), (I (at_ a1 x1).f1), (I (at_ a1 x1).f2)])], [], (B x2), [], [], [], [], (B x2), []⟩] ⟨[(0, (.sl true a0.length 3 (a0.flatMap e48))), (1, (.sl true a1.length 3 (a1.flatMap e48))), (5, (I x1)), (26, (B (!x2)))], [], [(0 : Int) ≤ x1 ∧ x1 < (a0.length : Int), rdC prog 49 ((a0.flatMap e48).drop (x1.toNat * 3)) = (.ag [(I (at_ a0 x1).f0), (I (at_ a0 x1).f1), (I (at_ a0 x1).f2)]), 3 ≤ ((a0.flatMap e48).drop (x1.toNat * 3)).length, (0 : Int) ≤ x1 ∧ x1 < (a1.length : Int), rdC prog 49 ((a1.flatMap e48).drop (x1.toNat * 3)) = (.ag [(I (at_ a1 x1).f0), (I (at_ a1 x1).f1), (I (at_ a1 x1).f2)]), 3 ≤ ((a1.flatMap e48).drop (x1.toNat * 3)).length, COK (hget []) [(.ag [(I (at_ a0 x1).f0), (I (at_ a0 x1).f1), (I (at_ a0 x1).f2)]), (.ag [(I (at_ a1 x1).f0), (I (at_ a1 x1).f1), (I (at_ a1 x1).f2)])] ⟨62, [(.ag [(I (at_ a0 x1).f0), (I (at_ a0 x1).f1), (I (at_ a0 x1).f2)]), (.ag [(I (at_ a1 x1).f0), (I (at_ a1 x1).f1), (I (at_ a1 x1).f2)])], [], (B x2), [], [], [], [], (B x2), []⟩], [⟨62, [(.ag [(I (at_ a0 x1).f0), (I (at_ a0 x1).f1), (I (at_ a0 x1).f2)]), (.ag [(I (at_ a1 x1).f0), (I (at_ a1 x1).f1), (I (at_ a1 x1).f2)])], [], (B x2), [], [], [], [], (B x2), []⟩]⟩ [c_ 1865, b_ 1, c_ 467, l_ 58, b_ 0, c_ 15] (alc ⟨c3, c2⟩ (alc (ldA e48_ok rfl rfl c3 c2) (alc (okI e48_ok c3 c2 (by decide)) (alc ⟨c3, c4⟩ (alc (ldA e48_ok rfl rfl c3 c4) (alc (okI e48_ok c3 c4 (by decide)) (alc (cok0 false (a2c (.z (frz_ag (a2c .s (a2c .s (a2c .s a2n))))) (a2c (.z (frz_ag (a2c .s (a2c .s (a2c .s a2n))))) a2n)) (.z .s) (fun h => absurd h (by decide))) aln))))))) (acal (laws_eqCall.J (at_ a0 x1) (at_ a1 x1) _ hx2) nocal) ?_
          by_cases c5 : x2 = true
          · rw [if_pos c5] at h
            refine .cond' (.tmp 26) false [c_ 467, l_ 58, b_ 0, c_ 15] (bF (nF c5)) ?_
            refine .reg' [0, 1, 5] [] ⟨[(0, (.sl true a0.length 3 (a0.flatMap e48))), (1, (.sl true a1.length 3 (a1.flatMap e48))), (5, (I (wrap64 (x1 + 1))))], [], [], []⟩ [l_ 58, b_ 0, c_ 15] aln nocal ?_
            exact ih0 a0 a1 (wrap64 (x1 + 1)) _ h
          · rw [if_neg c5] at h
            refine .cond' (.tmp 26) true [c_ 7460, c_ 7461, b_ 1, c_ 467, l_ 58, b_ 0, c_ 15] (bT (nT (vF c5))) ?_
            refine .reg' [4] [] ⟨[(4, (B false))], [], [], []⟩ [c_ 7461, b_ 1, c_ 467, l_ 58, b_ 0, c_ 15] aln nocal ?_
            have h := Option.some.inj h
            subst h
            exact .fin0 [] (B false) [] aln (.z .s)
        · rw [if_neg c4] at h
          cases h
      · rw [if_neg c3] at h
        cases h
    · rw [if_neg c2] at h
      refine .cond' (.tmp 14) false [c_ 30, c_ 31] (bF (dF c2)) ?_
      refine .reg' [4] [] ⟨[(4, (B true))], [], [], []⟩ [c_ 31] aln nocal ?_
      have h := Option.some.inj h
      subst h
      exact .fin0 [] (B true) [] aln (.z .s)
theorem laws_eqCallS.J (k : Nat) (a0 : (List S48)) (a1 : (List S48)) (r : Bool) (h : laws_eqCallS.f k a0 a1 = some r) : J prog (.call 37 [(.sl true a0.length 3 (a0.flatMap e48)), (.sl true a1.length 3 (a1.flatMap e48))] [] (B r) []) := by
  unfold laws_eqCallS.f at h
  have ih0 := laws_eqCallS.lab k
  refine .call' [c_ 2, c_ 3] ?_
  refine .reg' [0, 1] [] ⟨[(0, (.sl true a0.length 3 (a0.flatMap e48))), (1, (.sl true a1.length 3 (a1.flatMap e48)))], [], [], []⟩ [c_ 12, c_ 13, c_ 7] aln nocal ?_
  refine .reg' [0, 1, 10] [] ⟨[(0, (.sl true a0.length 3 (a0.flatMap e48))), (1, (.sl true a1.length 3 (a1.flatMap e48))), (10, (B (!((a0.length : Int) == (a1.length : Int)))))], [], [], []⟩ [c_ 13, c_ 7] aln nocal ?_
  by_cases c1 : (a0.length : Int) = (a1.length : Int)
  · rw [if_pos c1] at h
    refine .cond' (.tmp 10) false [c_ 28, c_ 29, c_ 15] (bF (nF (qT c1))) ?_
    refine .reg' [0, 1, 5] [] ⟨[(0, (.sl true a0.length 3 (a0.flatMap e48))), (1, (.sl true a1.length 3 (a1.flatMap e48))), (5, (I 0))], [], [], []⟩ [l_ 58, b_ 0, c_ 15] aln nocal ?_
    exact ih0 a0 a1 0 _ h
  · rw [if_neg c1] at h
    refine .cond' (.tmp 10) true [c_ 52, c_ 53, c_ 7] (bT (nT (qF c1))) ?_
    refine .reg' [4] [] ⟨[(4, (B false))], [], [], []⟩ [c_ 53, c_ 7] aln nocal ?_
    have h := Option.some.inj h
    subst h
    exact .fin0 [] (B false) [] aln (.z .s)
/-! laws_eqTrip: function 12 -/
def laws_eqTrip.f (k : Nat) (a0 : S28) (a1 : S28) : Option Bool := (if (sEq a0.f0 a1.f0) = true then ((laws_eqCallS.f k a0.f1 a1.f1).bind fun x1 => (if x1 = true then (some true) else (some false))) else (some false))
theorem laws_eqTrip.J (k : Nat) (a0 : S28) (a1 : S28) (r : Bool) (h : laws_eqTrip.f k a0 a1 = some r) : J prog (.call 12 [(.ag [(S a0.f0), (.sl true a0.f1.length 3 (a0.f1.flatMap e48))]), (.ag [(S a1.f0), (.sl true a1.f1.length 3 (a1.f1.flatMap e48))])] [] (B r) []) := by
  unfold laws_eqTrip.f at h
  refine .call' [c_ 2, c_ 3] ?_
  refine .reg' [2, 3] [] ⟨[(2, (.pt 256 0 2)), (3, (.pt 257 0 2))], [(256, [(S a0.f0), (.sl true a0.f1.length 3 (a0.f1.flatMap e48))]), (257, [(S a1.f0), (.sl true a1.f1.length 3 (a1.f1.flatMap e48))])], [], []⟩ [c_ 12, c_ 13, c_ 7] aln nocal ?_
  refine .reg' [2, 3, 9] [] ⟨[(2, (.pt 256 0 2)), (3, (.pt 257 0 2)), (9, (B (!(sEq a0.f0 a1.f0))))], [(256, [(S a0.f0), (.sl true a0.f1.length 3 (a0.f1.flatMap e48))]), (257, [(S a1.f0), (.sl true a1.f1.length 3 (a1.f1.flatMap e48))])], [2 = 2 ∧ 0 + 1 ≤ 2, 2 = 2 ∧ 0 + 1 ≤ 2], []⟩ [c_ 13, c_ 7] (alc ⟨rfl, by decide⟩ (alc ⟨rfl, by decide⟩ aln)) nocal ?_
  by_cases c1 : (sEq a0.f0 a1.f0) = true
  · rw [if_pos c1] at h
    refine .cond' (.tmp 9) false [c_ 28, c_ 29, c_ 15] (bF (nF c1)) ?_
    obtain ⟨x1, hx1, h⟩ := Option.bind_eq_some_iff.mp h
    refine .reg' [15] [.no, .no, .no, .no, .c ⟨37, [(.sl true a0.f1.length 3 (a0.f1.flatMap e48)), (.sl true a1.f1.length 3 (a1.f1.flatMap e48))], [], (B x1), [], [], [], [], (B x1), []⟩] ⟨[(15, (B (!x1)))], [(256, [(S a0.f0), (.sl true a0.f1.length 3 (a0.f1.flatMap e48))]), (257, [(S a1.f0), (.sl true a1.f1.length 3 (a1.f1.flatMap e48))])], [2 = 2 ∧ 1 + 1 ≤ 2, 2 = 2 ∧ 1 + 1 ≤ 2, COK (hget [(256, [(S a0.f0), (.sl true a0.f1.length 3 (a0.f1.flatMap e48))]), (257, [(S a1.f0), (.sl true a1.f1.length 3 (a1.f1.flatMap e48))])]) [(.sl true a0.f1.length 3 (a0.f1.flatMap e48)), (.sl true a1.f1.length 3 (a1.f1.flatMap e48))] ⟨37, [(.sl true a0.f1.length 3 (a0.f1.flatMap e48)), (.sl true a1.f1.length 3 (a1.f1.flatMap e48))], [], (B x1), [], [], [], [], (B x1), []⟩], [⟨37, [(.sl true a0.f1.length 3 (a0.f1.flatMap e48)), (.sl true a1.f1.length 3 (a1.f1.flatMap e48))], [], (B x1), [], [], [], [], (B x1), []⟩]⟩ [c_ 29, c_ 15] (alc ⟨rfl, by decide⟩ (alc ⟨rfl, by decide⟩ (alc (cok0 false (a2c (.z (frz_sl e48_ok (fun h => h))) (a2c (.z (frz_sl e48_ok (fun h => h))) a2n)) (.z .s) (fun h => absurd h (by decide))) aln))) (acal (laws_eqCallS.J k a0.f1 a1.f1 _ hx1) nocal) ?_
    by_cases c2 : x1 = true
    · rw [if_pos c2] at h
      refine .cond' (.tmp 15) false [c_ 30, c_ 31] (bF (nF c2)) ?_
      refine .reg' [4] [] ⟨[(4, (B true))], [(256, [(S a0.f0), (.sl true a0.f1.length 3 (a0.f1.flatMap e48))]), (257, [(S a1.f0), (.sl true a1.f1.length 3 (a1.f1.flatMap e48))])], [], []⟩ [c_ 31] aln nocal ?_
      have h := Option.some.inj h
      subst h
      exact .fin0 [] (B true) [] aln (.z .s)
    · rw [if_neg c2] at h
      refine .cond' (.tmp 15) true [c_ 116, c_ 117, c_ 15] (bT (nT (vF c2))) ?_
      refine .reg' [4] [] ⟨[(4, (B false))], [(256, [(S a0.f0), (.sl true a0.f1.length 3 (a0.f1.flatMap e48))]), (257, [(S a1.f0), (.sl true a1.f1.length 3 (a1.f1.flatMap e48))])], [], []⟩ [c_ 117, c_ 15] aln nocal ?_
      have h := Option.some.inj h
      subst h
      exact .fin0 [] (B false) [] aln (.z .s)
  · rw [if_neg c1] at h
    refine .cond' (.tmp 9) true [c_ 52, c_ 53, c_ 7] (bT (nT (vF c1))) ?_
    refine .reg' [4] [] ⟨[(4, (B false))], [(256, [(S a0.f0), (.sl true a0.f1.length 3 (a0.f1.flatMap e48))]), (257, [(S a1.f0), (.sl true a1.f1.length 3 (a1.f1.flatMap e48))])], [], []⟩ [c_ 53, c_ 7] aln nocal ?_
    have h := Option.some.inj h
    subst h
    exact .fin0 [] (B false) [] aln (.z .s)
/-! laws_eqTripS: function 15 -/
def laws_eqTripS.l0 : Nat → (List S28) → (List S28) → Int → Option Bool
 | 0, _, _, _ => none
 | k + 1, a0, a1, x1 => (if x1 < (a0.length : Int) then (if 0 ≤ x1 then (if x1 < (a1.length : Int) then ((laws_eqTrip.f k (at_ a0 x1) (at_ a1 x1)).bind fun x2 => (if x2 = true then (laws_eqTripS.l0 k a0 a1 (wrap64 (x1 + 1))) else (some false))) else none) else none) else (some true))
def laws_eqTripS.f (k : Nat) (a0 : (List S28)) (a1 : (List S28)) : Option Bool := (if (a0.length : Int) = (a1.length : Int) then (laws_eqTripS.l0 k a0 a1 0) else (some false))
theorem laws_eqTripS.lab : ∀ k, (∀ (a0 : (List S28)) (a1 : (List S28)) (x1 : Int) (r : Bool), laws_eqTripS.l0 k a0 a1 x1 = some r → J prog (.run 15 [] [l_ 58, b_ 0, c_ 15] [(0, (.sl true a0.length 2 (a0.flatMap (e28 true)))), (1, (.sl true a1.length 2 (a1.flatMap (e28 true)))), (5, (I x1))] [] (B r) []))
 | 0 => (by intro a0 a1 x1 r h; unfold laws_eqTripS.l0 at h; cases h)
 | k + 1 => by
  have ih0 := laws_eqTripS.lab k
  · intro a0 a1 x1 r h
    unfold laws_eqTripS.l0 at h
    refine .loop' [c_ 464, c_ 465, c_ 233, l_ 58, b_ 0, c_ 15] ?_
    refine .reg' [0, 1, 5, 14] [] ⟨[(0, (.sl true a0.length 2 (a0.flatMap (e28 true)))), (1, (.sl true a1.length 2 (a1.flatMap (e28 true)))), (5, (I x1)), (14, (B (decide (x1 < (a0.length : Int)))))], [], [], []⟩ [c_ 465, c_ 233, l_ 58, b_ 0, c_ 15] aln nocal ?_
    by_cases c2 : x1 < (a0.length : Int)
    · rw [if_pos c2] at h
      refine .cond' (.tmp 14) true [c_ 1864, c_ 1865, b_ 1, c_ 467, l_ 58, b_ 0, c_ 15] (bT (dT c2)) ?_
      by_cases c3 : 0 ≤ x1
      · rw [if_pos c3] at h
        by_cases c4 : x1 < (a1.length : Int)
        · rw [if_pos c4] at h
          obtain ⟨x2, hx2, h⟩ := Option.bind_eq_some_iff.mp h
          refine .reg' [0, 1, 5, 26] [.no, .no, .no, .v (.ag [(S (at_ a0 x1).f0), (.sl true (at_ a0 x1).f1.length 3 ((at_ a0 x1).f1.flatMap e48))]), .no, .no, .no, .v (.ag [(S (at_ a1 x1).f0), (.sl true (at_ a1 x1).f1.length 3 ((at_ a1 x1).f1.flatMap e48))]), .c ⟨12, [(.ag [(S (at_ a0 x1).f0), (.sl true (at_ a0 x1).f1.length 3 ((at_ a0 x1).f1.flatMap e48))]), (.ag [(S (at_ a1 x1).f0), (.sl true (at_ a1 x1).f1.length 3 ((at_ a1 x1).f1.flatMap e48))])], [], (B x2), [], [], [], [], (B x2), []⟩] ⟨[(0, (.sl true a0.length 2 (a0.flatMap (e28 true)))), (1, (.sl true a1.length 2 (a1.flatMap (e28 true)))), (5, (I x1)), (26, (B (!x2)))], [], [(0 : Int) ≤ x1 ∧ x1 < (a0.length : Int), rdC prog 29 ((a0.flatMap (e28 true)).drop (x1.toNat * 2)) = (.ag [(S (at_ a0 x1).f0), (.sl true (at_ a0 x1).f1.length 3 ((at_ a0 x1).f1.flatMap e48))]), 2 ≤ ((a0.flatMap (e28 true)).drop (x1.toNat * 2)).length, (0 : Int) ≤ x1 ∧ x1 < (a1.length : Int), rdC prog 29 ((a1.flatMap (e28 true)).drop (x1.toNat * 2)) = (.ag [(S (at_ a1 x1).f0), (.sl true (at_ a1 x1).f1.length 3 ((at_ a1 x1).f1.flatMap e48))]), 2 ≤ ((a1.flatMap (e28 true)).drop (x1.toNat * 2)).length, COK (hget []) [(.ag [(S (at_ a0 x1).f0), (.sl true (at_ a0 x1).f1.length 3 ((at_ a0 x1).f1.flatMap e48))]), (.ag [(S (at_ a1 x1).f0), (.sl true (at_ a1 x1).f1.length 3 ((at_ a1 x1).f1.flatMap e48))])] ⟨12, [(.ag [(S (at_ a0 x1).f0), (.sl true (at_ a0 x1).f1.length 3 ((at_ a0 x1).f1.flatMap e48))]), (.ag [(S (at_ a1 x1).f0), (.sl true (at_ a1 x1).f1.length 3 ((at_ a1 x1).f1.flatMap e48))])], [], (B x2), [], [], [], [], (B x2), []⟩], [⟨12, [(.ag [(S (at_ a0 x1).f0), (.sl true (at_ a0 x1).f1.length 3 ((at_ a0 x1).f1.flatMap e48))]), (.ag [(S (at_ a1 x1).f0), (.sl true (at_ a1 x1).f1.length 3 ((at_ a1 x1).f1.flatMap e48))])], [], (B x2), [], [], [], [], (B x2), []⟩]⟩ [c_ 1865, b_ 1, c_ 467, l_ 58, b_ 0, c_ 15] (alc ⟨c3, c2⟩ (alc (ldA (e28_ok true) rfl rfl c3 c2) (alc (okI (e28_ok true) c3 c2 (by decide)) (alc ⟨c3, c4⟩ (alc (ldA (e28_ok true) rfl rfl c3 c4) (alc (okI (e28_ok true) c3 c4 (by decide)) (alc (cok0 false (a2c (.z (frz_ag (a2c .s (a2c (frz_sl e48_ok (fun h => h)) a2n)))) (a2c (.z (frz_ag (a2c .s (a2c (frz_sl e48_ok (fun h => h)) a2n)))) a2n)) (.z .s) (fun h => absurd h (by decide))) aln))))))) (acal (laws_eqTrip.J k (at_ a0 x1) (at_ a1 x1) _ hx2) nocal) ?_
          by_cases c5 : x2 = true
          · rw [if_pos c5] at h
            refine .cond' (.tmp 26) false [c_ 467, l_ 58, b_ 0, c_ 15] (bF (nF c5)) ?_
            refine .reg' [0, 1, 5] [] ⟨[(0, (.sl true a0.length 2 (a0.flatMap (e28 true)))), (1, (.sl true a1.length 2 (a1.flatMap (e28 true)))), (5, (I (wrap64 (x1 + 1))))], [], [], []⟩ [l_ 58, b_ 0, c_ 15] aln nocal ?_
            exact ih0 a0 a1 (wrap64 (x1 + 1)) _ h
          · rw [if_neg c5] at h
            refine .cond' (.tmp 26) true [c_ 7460, c_ 7461, b_ 1, c_ 467, l_ 58, b_ 0, c_ 15] (bT (nT (vF c5))) ?_
            refine .reg' [4] [] ⟨[(4, (B false))], [], [], []⟩ [c_ 7461, b_ 1, c_ 467, l_ 58, b_ 0, c_ 15] aln nocal ?_
            have h := Option.some.inj h
            subst h
            exact .fin0 [] (B false) [] aln (.z .s)
        · rw [if_neg c4] at h
          cases h
      · rw [if_neg c3] at h
        cases h
    · rw [if_neg c2] at h
      refine .cond' (.tmp 14) false [c_ 30, c_ 31] (bF (dF c2)) ?_
      refine .reg' [4] [] ⟨[(4, (B true))], [], [], []⟩ [c_ 31] aln nocal ?_
      have h := Option.some.inj h
      subst h
      exact .fin0 [] (B true) [] aln (.z .s)
theorem laws_eqTripS.J (k : Nat) (a0 : (List S28)) (a1 : (List S28)) (r : Bool) (h : laws_eqTripS.f k a0 a1 = some r) : J prog (.call 15 [(.sl true a0.length 2 (a0.flatMap (e28 true))), (.sl true a1.length 2 (a1.flatMap (e28 true)))] [] (B r) []) := by
  unfold laws_eqTripS.f at h
  have ih0 := laws_eqTripS.lab k
  refine .call' [c_ 2, c_ 3] ?_
  refine .reg' [0, 1] [] ⟨[(0, (.sl true a0.length 2 (a0.flatMap (e28 true)))), (1, (.sl true a1.length 2 (a1.flatMap (e28 true))))], [], [], []⟩ [c_ 12, c_ 13, c_ 7] aln nocal ?_
  refine .reg' [0, 1, 10] [] ⟨[(0, (.sl true a0.length 2 (a0.flatMap (e28 true)))), (1, (.sl true a1.length 2 (a1.flatMap (e28 true)))), (10, (B (!((a0.length : Int) == (a1.length : Int)))))], [], [], []⟩ [c_ 13, c_ 7] aln nocal ?_
  by_cases c1 : (a0.length : Int) = (a1.length : Int)
  · rw [if_pos c1] at h
    refine .cond' (.tmp 10) false [c_ 28, c_ 29, c_ 15] (bF (nF (qT c1))) ?_
    refine .reg' [0, 1, 5] [] ⟨[(0, (.sl true a0.length 2 (a0.flatMap (e28 true)))), (1, (.sl true a1.length 2 (a1.flatMap (e28 true)))), (5, (I 0))], [], [], []⟩ [l_ 58, b_ 0, c_ 15] aln nocal ?_
    exact ih0 a0 a1 0 _ h
  · rw [if_neg c1] at h
    refine .cond' (.tmp 10) true [c_ 52, c_ 53, c_ 7] (bT (nT (qF c1))) ?_
    refine .reg' [4] [] ⟨[(4, (B false))], [], [], []⟩ [c_ 53, c_ 7] aln nocal ?_
    have h := Option.some.inj h
    subst h
    exact .fin0 [] (B false) [] aln (.z .s)
/-! laws_markCallS: function 42 -/
def laws_markCallS.l0 : Nat → (List S48) → Int → Int → Option (Int × (List S48))
 | 0, _, _, _ => none
 | k + 1, x1, x2, x3 => (if x3 < (x1.length : Int) then (if 0 ≤ x3 then (laws_markCallS.l0 k (x1.set x3.toNat (⟨x2, (wrap64 (x2 + 1)), (wrap64 ((wrap64 (x2 + 1)) + 1))⟩ : S48)) (wrap64 ((wrap64 ((wrap64 (x2 + 1)) + 1)) + 1)) (wrap64 (x3 + 1))) else none) else (some (x2, x1)))
def laws_markCallS.f (k : Nat) (a0 : (List S48)) (a1 : Int) : Option (Int × (List S48)) := (laws_markCallS.l0 k a0 a1 0)
theorem laws_markCallS.lab : ∀ k, (∀ (x1 : (List S48)) (x2 : Int) (x3 : Int) (r : (Int × (List S48))), laws_markCallS.l0 k x1 x2 x3 = some r → J prog (.run 42 [0] [l_ 26, b_ 0, c_ 7] [(0, (.rf 0 0 x1.length 3 (x1.length * 3))), (1, (I x2)), (5, (I x3))] [(0, (x1.flatMap e48))] (I r.1) [(0, (r.2.flatMap e48))]))
 | 0 => (by intro x1 x2 x3 r h; unfold laws_markCallS.l0 at h; cases h)
 | k + 1 => by
  have ih0 := laws_markCallS.lab k
  · intro x1 x2 x3 r h
    unfold laws_markCallS.l0 at h
    refine .loop' [c_ 208, c_ 209, c_ 105, l_ 26, b_ 0, c_ 7] ?_
    refine .reg' [0, 1, 5, 9] [] ⟨[(0, (.rf 0 0 x1.length 3 (x1.length * 3))), (1, (I x2)), (5, (I x3)), (9, (B (decide (x3 < (x1.length : Int)))))], [(0, (x1.flatMap e48))], [], []⟩ [c_ 209, c_ 105, l_ 26, b_ 0, c_ 7] aln nocal ?_
    by_cases c1 : x3 < (x1.length : Int)
    · rw [if_pos c1] at h
      refine .cond' (.tmp 9) true [c_ 840, c_ 841, b_ 1, c_ 211, l_ 26, b_ 0, c_ 7] (bT (dT c1)) ?_
      by_cases c2 : 0 ≤ x3
      · rw [if_pos c2] at h
        refine .reg' [0, 1, 5] [.no, .no, .no, .no, .no, .w .un ((x1.set x3.toNat (⟨x2, (at_ x1 x3).f1, (at_ x1 x3).f2⟩ : S48)).flatMap e48)] ⟨[(0, (.rf 0 0 x1.length 3 (x1.length * 3))), (1, (I x2)), (5, (I x3))], [(0, ((x1.set x3.toNat (⟨x2, (at_ x1 x3).f1, (at_ x1 x3).f2⟩ : S48)).flatMap e48))], [(0 : Int) ≤ x3 ∧ x3 < (x1.length : Int), V.un = V.un, spl (x1.flatMap e48) (0 + x3.toNat * 3 + 0) [(I x2)] = ((x1.set x3.toNat (⟨x2, (at_ x1 x3).f1, (at_ x1 x3).f2⟩ : S48)).flatMap e48), x1.length * 3 = (x1.flatMap e48).length ∧ 0 + x3.toNat * 3 + 0 + 1 ≤ (x1.flatMap e48).length], []⟩ [c_ 1682, c_ 1683, b_ 1, c_ 211, l_ 26, b_ 0, c_ 7] (alc ⟨c2, c1⟩ (alc rfl (alc (st_row e48_ok 0 c2 c1 (Nat.le_of_ble_eq_true rfl) rfl) (alc (okA e48_ok c2 c1 (by decide)) aln)))) nocal ?_
        refine .eqs (env2 := [(0, (.rf 0 0 ((x1.set x3.toNat (⟨x2, (at_ x1 x3).f1, (at_ x1 x3).f2⟩ : S48)).length) 3 ((x1.set x3.toNat (⟨x2, (at_ x1 x3).f1, (at_ x1 x3).f2⟩ : S48)).length * 3))), (1, (I x2)), (5, (I x3))]) (H2 := [(0, ((x1.set x3.toNat (⟨x2, (at_ x1 x3).f1, (at_ x1 x3).f2⟩ : S48)).flatMap e48))]) (by first | (simp only [List.length_set]; done) | simp) (by first | rfl | (simp only [List.length_set]; done) | simp) ?_
        refine .reg' [0, 1, 5] [] ⟨[(0, (.rf 0 0 ((x1.set x3.toNat (⟨x2, (at_ x1 x3).f1, (at_ x1 x3).f2⟩ : S48)).length) 3 ((x1.set x3.toNat (⟨x2, (at_ x1 x3).f1, (at_ x1 x3).f2⟩ : S48)).length * 3))), (1, (I (wrap64 (x2 + 1)))), (5, (I x3))], [(0, ((x1.set x3.toNat (⟨x2, (at_ x1 x3).f1, (at_ x1 x3).f2⟩ : S48)).flatMap e48))], [], []⟩ [c_ 3366, c_ 3367, b_ 1, c_ 211, l_ 26, b_ 0, c_ 7] aln nocal ?_
        refine .reg' [0, 1, 5] [.no, .no, .no, .no, .no, .w .un ((x1.set x3.toNat (⟨x2, (wrap64 (x2 + 1)), (at_ x1 x3).f2⟩ : S48)).flatMap e48)] ⟨[(0, (.rf 0 0 ((x1.set x3.toNat (⟨x2, (at_ x1 x3).f1, (at_ x1 x3).f2⟩ : S48)).length) 3 ((x1.set x3.toNat (⟨x2, (at_ x1 x3).f1, (at_ x1 x3).f2⟩ : S48)).length * 3))), (1, (I (wrap64 (x2 + 1)))), (5, (I x3))], [(0, ((x1.set x3.toNat (⟨x2, (wrap64 (x2 + 1)), (at_ x1 x3).f2⟩ : S48)).flatMap e48))], [(0 : Int) ≤ x3 ∧ x3 < ((x1.set x3.toNat (⟨x2, (at_ x1 x3).f1, (at_ x1 x3).f2⟩ : S48)).length : Int), V.un = V.un, spl ((x1.set x3.toNat (⟨x2, (at_ x1 x3).f1, (at_ x1 x3).f2⟩ : S48)).flatMap e48) (0 + x3.toNat * 3 + 1) [(I (wrap64 (x2 + 1)))] = ((x1.set x3.toNat (⟨x2, (wrap64 (x2 + 1)), (at_ x1 x3).f2⟩ : S48)).flatMap e48), (x1.set x3.toNat (⟨x2, (at_ x1 x3).f1, (at_ x1 x3).f2⟩ : S48)).length * 3 = ((x1.set x3.toNat (⟨x2, (at_ x1 x3).f1, (at_ x1 x3).f2⟩ : S48)).flatMap e48).length ∧ 0 + x3.toNat * 3 + 1 + 1 ≤ ((x1.set x3.toNat (⟨x2, (at_ x1 x3).f1, (at_ x1 x3).f2⟩ : S48)).flatMap e48).length], []⟩ [c_ 6734, c_ 6735, b_ 1, c_ 211, l_ 26, b_ 0, c_ 7] (alc ⟨c2, (ls c1)⟩ (alc rfl (alc (st_row2 e48_ok 1 c2 c1 (Nat.le_of_ble_eq_true rfl) rfl) (alc (okA e48_ok c2 (ls c1) (by decide)) aln)))) nocal ?_
        refine .eqs (env2 := [(0, (.rf 0 0 ((x1.set x3.toNat (⟨x2, (wrap64 (x2 + 1)), (at_ x1 x3).f2⟩ : S48)).length) 3 ((x1.set x3.toNat (⟨x2, (wrap64 (x2 + 1)), (at_ x1 x3).f2⟩ : S48)).length * 3))), (1, (I (wrap64 (x2 + 1)))), (5, (I x3))]) (H2 := [(0, ((x1.set x3.toNat (⟨x2, (wrap64 (x2 + 1)), (at_ x1 x3).f2⟩ : S48)).flatMap e48))]) (by first | (simp only [List.length_set]; done) | simp) (by first | rfl | (simp only [List.length_set]; done) | simp) ?_
        refine .reg' [0, 1, 5] [] ⟨[(0, (.rf 0 0 ((x1.set x3.toNat (⟨x2, (wrap64 (x2 + 1)), (at_ x1 x3).f2⟩ : S48)).length) 3 ((x1.set x3.toNat (⟨x2, (wrap64 (x2 + 1)), (at_ x1 x3).f2⟩ : S48)).length * 3))), (1, (I (wrap64 ((wrap64 (x2 + 1)) + 1)))), (5, (I x3))], [(0, ((x1.set x3.toNat (⟨x2, (wrap64 (x2 + 1)), (at_ x1 x3).f2⟩ : S48)).flatMap e48))], [], []⟩ [c_ 13470, c_ 13471, b_ 1, c_ 211, l_ 26, b_ 0, c_ 7] aln nocal ?_
        refine .reg' [0, 1, 5] [.no, .no, .no, .no, .no, .w .un ((x1.set x3.toNat (⟨x2, (wrap64 (x2 + 1)), (wrap64 ((wrap64 (x2 + 1)) + 1))⟩ : S48)).flatMap e48)] ⟨[(0, (.rf 0 0 ((x1.set x3.toNat (⟨x2, (wrap64 (x2 + 1)), (at_ x1 x3).f2⟩ : S48)).length) 3 ((x1.set x3.toNat (⟨x2, (wrap64 (x2 + 1)), (at_ x1 x3).f2⟩ : S48)).length * 3))), (1, (I (wrap64 ((wrap64 (x2 + 1)) + 1)))), (5, (I x3))], [(0, ((x1.set x3.toNat (⟨x2, (wrap64 (x2 + 1)), (wrap64 ((wrap64 (x2 + 1)) + 1))⟩ : S48)).flatMap e48))], [(0 : Int) ≤ x3 ∧ x3 < ((x1.set x3.toNat (⟨x2, (wrap64 (x2 + 1)), (at_ x1 x3).f2⟩ : S48)).length : Int), V.un = V.un, spl ((x1.set x3.toNat (⟨x2, (wrap64 (x2 + 1)), (at_ x1 x3).f2⟩ : S48)).flatMap e48) (0 + x3.toNat * 3 + 2) [(I (wrap64 ((wrap64 (x2 + 1)) + 1)))] = ((x1.set x3.toNat (⟨x2, (wrap64 (x2 + 1)), (wrap64 ((wrap64 (x2 + 1)) + 1))⟩ : S48)).flatMap e48), (x1.set x3.toNat (⟨x2, (wrap64 (x2 + 1)), (at_ x1 x3).f2⟩ : S48)).length * 3 = ((x1.set x3.toNat (⟨x2, (wrap64 (x2 + 1)), (at_ x1 x3).f2⟩ : S48)).flatMap e48).length ∧ 0 + x3.toNat * 3 + 2 + 1 ≤ ((x1.set x3.toNat (⟨x2, (wrap64 (x2 + 1)), (at_ x1 x3).f2⟩ : S48)).flatMap e48).length], []⟩ [c_ 13471, b_ 1, c_ 211, l_ 26, b_ 0, c_ 7] (alc ⟨c2, (ls c1)⟩ (alc rfl (alc (st_row2 e48_ok 2 c2 c1 (Nat.le_of_ble_eq_true rfl) rfl) (alc (okA e48_ok c2 (ls c1) (by decide)) aln)))) nocal ?_
        refine .eqs (env2 := [(0, (.rf 0 0 ((x1.set x3.toNat (⟨x2, (wrap64 (x2 + 1)), (wrap64 ((wrap64 (x2 + 1)) + 1))⟩ : S48)).length) 3 ((x1.set x3.toNat (⟨x2, (wrap64 (x2 + 1)), (wrap64 ((wrap64 (x2 + 1)) + 1))⟩ : S48)).length * 3))), (1, (I (wrap64 ((wrap64 (x2 + 1)) + 1)))), (5, (I x3))]) (H2 := [(0, ((x1.set x3.toNat (⟨x2, (wrap64 (x2 + 1)), (wrap64 ((wrap64 (x2 + 1)) + 1))⟩ : S48)).flatMap e48))]) (by first | (simp only [List.length_set]; done) | simp) (by first | rfl | (simp only [List.length_set]; done) | simp) ?_
        refine .reg' [0, 1, 5] [] ⟨[(0, (.rf 0 0 ((x1.set x3.toNat (⟨x2, (wrap64 (x2 + 1)), (wrap64 ((wrap64 (x2 + 1)) + 1))⟩ : S48)).length) 3 ((x1.set x3.toNat (⟨x2, (wrap64 (x2 + 1)), (wrap64 ((wrap64 (x2 + 1)) + 1))⟩ : S48)).length * 3))), (1, (I (wrap64 ((wrap64 ((wrap64 (x2 + 1)) + 1)) + 1)))), (5, (I x3))], [(0, ((x1.set x3.toNat (⟨x2, (wrap64 (x2 + 1)), (wrap64 ((wrap64 (x2 + 1)) + 1))⟩ : S48)).flatMap e48))], [], []⟩ [c_ 211, l_ 26, b_ 0, c_ 7] aln nocal ?_
        refine .reg' [0, 1, 5] [] ⟨[(0, (.rf 0 0 ((x1.set x3.toNat (⟨x2, (wrap64 (x2 + 1)), (wrap64 ((wrap64 (x2 + 1)) + 1))⟩ : S48)).length) 3 ((x1.set x3.toNat (⟨x2, (wrap64 (x2 + 1)), (wrap64 ((wrap64 (x2 + 1)) + 1))⟩ : S48)).length * 3))), (1, (I (wrap64 ((wrap64 ((wrap64 (x2 + 1)) + 1)) + 1)))), (5, (I (wrap64 (x3 + 1))))], [(0, ((x1.set x3.toNat (⟨x2, (wrap64 (x2 + 1)), (wrap64 ((wrap64 (x2 + 1)) + 1))⟩ : S48)).flatMap e48))], [], []⟩ [l_ 26, b_ 0, c_ 7] aln nocal ?_
        exact ih0 (x1.set x3.toNat (⟨x2, (wrap64 (x2 + 1)), (wrap64 ((wrap64 (x2 + 1)) + 1))⟩ : S48)) (wrap64 ((wrap64 ((wrap64 (x2 + 1)) + 1)) + 1)) (wrap64 (x3 + 1)) _ h
      · rw [if_neg c2] at h
        cases h
    · rw [if_neg c1] at h
      refine .cond' (.tmp 9) false [c_ 14, c_ 15] (bF (dF c1)) ?_
      refine .reg' [4] [] ⟨[(4, (I x2))], [(0, (x1.flatMap e48))], [], []⟩ [c_ 15] aln nocal ?_
      have h := Option.some.inj h
      subst h
      exact .fin' [] [(0, 0)] (I x2) [] aln (shc 0 (rowF e48_ok _) shn) (.z .s)
theorem laws_markCallS.J (k : Nat) (a0 : (List S48)) (a1 : Int) (r : (Int × (List S48))) (h : laws_markCallS.f k a0 a1 = some r) : J prog (.call 42 [(.rf 0 0 a0.length 3 (a0.length * 3)), (I a1)] [(0, (a0.flatMap e48))] (I r.1) [(0, (r.2.flatMap e48))]) := by
  unfold laws_markCallS.f at h
  have ih0 := laws_markCallS.lab k
  refine .call' [c_ 2, c_ 3] ?_
  refine .reg' [0, 1] [] ⟨[(0, (.rf 0 0 a0.length 3 (a0.length * 3))), (1, (I a1))], [(0, (a0.flatMap e48))], [], []⟩ [c_ 12, c_ 13, c_ 7] aln nocal ?_
  refine .reg' [0, 1, 5] [] ⟨[(0, (.rf 0 0 a0.length 3 (a0.length * 3))), (1, (I a1)), (5, (I 0))], [(0, (a0.flatMap e48))], [], []⟩ [l_ 26, b_ 0, c_ 7] aln nocal ?_
  exact ih0 a0 a1 0 _ h
theorem laws_markCallS.lenl : ∀ k, (∀ (x1 : (List S48)) (x2 : Int) (x3 : Int) (r : (Int × (List S48))), laws_markCallS.l0 k x1 x2 x3 = some r → r.2.length = x1.length)
 | 0 => (by intro x1 x2 x3 r h; unfold laws_markCallS.l0 at h; cases h)
 | k + 1 => by
  have ih0 := laws_markCallS.lenl k
  · intro x1 x2 x3 r h
    unfold laws_markCallS.l0 at h
    by_cases c1 : x3 < (x1.length : Int)
    · rw [if_pos c1] at h
      by_cases c2 : 0 ≤ x3
      · rw [if_pos c2] at h
        have q := ih0 (x1.set x3.toNat (⟨x2, (wrap64 (x2 + 1)), (wrap64 ((wrap64 (x2 + 1)) + 1))⟩ : S48)) (wrap64 ((wrap64 ((wrap64 (x2 + 1)) + 1)) + 1)) (wrap64 (x3 + 1)) _ h
        first | exact q | (simp only [List.length_set] at q; exact q)
      · rw [if_neg c2] at h
        cases h
    · rw [if_neg c1] at h
      have h := Option.some.inj h
      subst h
      first | rfl | (simp only [List.length_set]; done) | exact ⟨by first | rfl | simp only [List.length_set]⟩
theorem laws_markCallS.len (k : Nat) (a0 : (List S48)) (a1 : Int) (r : (Int × (List S48))) (h : laws_markCallS.f k a0 a1 = some r) : r.2.length = a0.length := by
  unfold laws_markCallS.f at h
  have ih0 := laws_markCallS.lenl k
  have q := ih0 a0 a1 0 _ h
  first | exact q | (simp only [List.length_set] at q; exact q)
/-! laws_markTrip: function 16 -/
def laws_markTrip.f (k : Nat) (a0 : S28) (a1 : Int) : Option (Int × (List S48)) := ((laws_markCallS.f k a0.f1 a1).bind fun x1 => (some (x1.1, x1.2)))
theorem laws_markTrip.J (k : Nat) (a0 : S28) (a1 : Int) (r : (Int × (List S48))) (h : laws_markTrip.f k a0 a1 = some r) : J prog (.call 16 [(.ag [(S a0.f0), (.rf 1 0 a0.f1.length 3 (a0.f1.length * 3))]), (I a1)] [(1, (a0.f1.flatMap e48))] (I r.1) [(1, (r.2.flatMap e48))]) := by
  unfold laws_markTrip.f at h
  refine .call' [c_ 2, c_ 3] ?_
  refine .reg' [1, 2] [] ⟨[(1, (I a1)), (2, (.pt 256 0 2))], [(1, (a0.f1.flatMap e48)), (256, [(S a0.f0), (.rf 1 0 a0.f1.length 3 (a0.f1.length * 3))])], [], []⟩ [c_ 6, c_ 7] aln nocal ?_
  obtain ⟨x1, hx1, h⟩ := Option.bind_eq_some_iff.mp h
  refine .reg' [1] [.no, .no, .no, .c ⟨42, [(.rf 0 0 a0.f1.length 3 (a0.f1.length * 3)), (I a1)], [(0, (a0.f1.flatMap e48))], (I x1.1), [(0, (x1.2.flatMap e48))], [], [(1, 0)], [(1, 0)], (I x1.1), [(1, (x1.2.flatMap e48))]⟩] ⟨[(1, (I x1.1))], [(1, (x1.2.flatMap e48)), (256, [(S a0.f0), (.rf 1 0 a0.f1.length 3 (a0.f1.length * 3))])], [2 = 2 ∧ 1 + 1 ≤ 2, COK (hget [(1, (a0.f1.flatMap e48)), (256, [(S a0.f0), (.rf 1 0 a0.f1.length 3 (a0.f1.length * 3))])]) [(.rf 1 0 a0.f1.length 3 (a0.f1.length * 3)), (I a1)] ⟨42, [(.rf 0 0 a0.f1.length 3 (a0.f1.length * 3)), (I a1)], [(0, (a0.f1.flatMap e48))], (I x1.1), [(0, (x1.2.flatMap e48))], [], [(1, 0)], [(1, 0)], (I x1.1), [(1, (x1.2.flatMap e48))]⟩], [⟨42, [(.rf 0 0 a0.f1.length 3 (a0.f1.length * 3)), (I a1)], [(0, (a0.f1.flatMap e48))], (I x1.1), [(0, (x1.2.flatMap e48))], [], [(1, 0)], [(1, 0)], (I x1.1), [(1, (x1.2.flatMap e48))]⟩]⟩ [c_ 14, c_ 15] (alc ⟨rfl, by decide⟩ (alc (cokW false (a2c (.rf (memP_mem (p := (1, 0)) rfl)) (a2c (.z .s) a2n)) (akc ⟨_, _, rfl, rfl, (rowF e48_ok _)⟩ akn) (akc (.inl rfl) akn) (.z .s) (akc ⟨_, _, rfl, rfl, rowB e48_c _⟩ akn) (fun h => absurd h (by decide))) aln)) (acal (laws_markCallS.J k a0.f1 a1 _ hx1) nocal) ?_
  refine .eqs (env2 := [(1, (I x1.1))]) (H2 := [(1, (x1.2.flatMap e48)), (256, [(S a0.f0), (.rf 1 0 x1.2.length 3 (x1.2.length * 3))])]) (by first | (simp only [List.length_set, (laws_markCallS.len k a0.f1 a1 _ hx1)]; done) | simp) (by first | rfl | (simp only [List.length_set, (laws_markCallS.len k a0.f1 a1 _ hx1)]; done) | simp) ?_
  refine .reg' [4] [] ⟨[(4, (I x1.1))], [(1, (x1.2.flatMap e48)), (256, [(S a0.f0), (.rf 1 0 x1.2.length 3 (x1.2.length * 3))])], [], []⟩ [c_ 15] aln nocal ?_
  have h := Option.some.inj h
  subst h
  exact .fin' [] [(1, 1)] (I x1.1) [] aln (shc 1 (rowF e48_ok _) shn) (.z .s)
theorem laws_markTrip.len (k : Nat) (a0 : S28) (a1 : Int) (r : (Int × (List S48))) (h : laws_markTrip.f k a0 a1 = some r) : r.2.length = a0.f1.length := by
  unfold laws_markTrip.f at h
  obtain ⟨x1, hx1, h⟩ := Option.bind_eq_some_iff.mp h
  have lhx1 := laws_markCallS.len k a0.f1 a1 _ hx1
  have h := Option.some.inj h
  subst h
  first | rfl | (simp only [List.length_set, lhx1]; done) | exact ⟨by first | rfl | simp only [List.length_set, lhx1]⟩
/-! laws_markText: function 43 -/
def laws_markText.l0 : Nat → Int → ByteArray → Option ByteArray
 | 0, _, _ => none
 | k + 1, x1, x2 => (if x1 > 0 then (if (⟨#[UInt8.ofNat (IntKind.u8.wrap (wrap64 (48 + (x1.tmod (10 : Int))))).toNat]⟩ : ByteArray).size + x2.size ≤ 9223372036854775807 then (laws_markText.l0 k (wrap64 (x1.tdiv (10 : Int))) ((⟨#[UInt8.ofNat (IntKind.u8.wrap (wrap64 (48 + (x1.tmod (10 : Int))))).toNat]⟩ : ByteArray) ++ x2)) else none) else (if (⟨#[109]⟩ : ByteArray).size + x2.size ≤ 9223372036854775807 then (some ((⟨#[109]⟩ : ByteArray) ++ x2)) else none))
def laws_markText.f (k : Nat) (a0 : Int) : Option ByteArray := (if a0 ≤ 0 then (some (⟨#[109, 48]⟩ : ByteArray)) else (laws_markText.l0 k a0 (⟨#[]⟩ : ByteArray)))
theorem laws_markText.lab : ∀ k, (∀ (x1 : Int) (x2 : ByteArray) (r : ByteArray), laws_markText.l0 k x1 x2 = some r → J prog (.run 43 [] [l_ 60, b_ 0, c_ 31] [(0, (I x1)), (3, (S x2))] [] (S r) []))
 | 0 => (by intro x1 x2 r h; unfold laws_markText.l0 at h; cases h)
 | k + 1 => by
  have ih0 := laws_markText.lab k
  · intro x1 x2 r h
    unfold laws_markText.l0 at h
    refine .loop' [c_ 480, c_ 481, c_ 241, l_ 60, b_ 0, c_ 31] ?_
    refine .reg' [0, 3, 7] [] ⟨[(0, (I x1)), (3, (S x2)), (7, (B (decide (x1 > 0))))], [], [], []⟩ [c_ 481, c_ 241, l_ 60, b_ 0, c_ 31] aln nocal ?_
    by_cases c2 : x1 > 0
    · rw [if_pos c2] at h
      refine .cond' (.tmp 7) true [c_ 964, c_ 965, b_ 1, l_ 60, b_ 0, c_ 31] (bT (dT c2)) ?_
      by_cases c3 : (⟨#[UInt8.ofNat (IntKind.u8.wrap (wrap64 (48 + (x1.tmod (10 : Int))))).toNat]⟩ : ByteArray).size + x2.size ≤ 9223372036854775807
      · rw [if_pos c3] at h
        refine .reg' [0, 3] [] ⟨[(0, (I x1)), (3, (S ((⟨#[UInt8.ofNat (IntKind.u8.wrap (wrap64 (48 + (x1.tmod (10 : Int))))).toNat]⟩ : ByteArray) ++ x2)))], [(1540, (([(IntKind.u8.wrap (wrap64 (48 + (x1.tmod (10 : Int)))))] : List Int).flatMap encU))], [(10 : Int) ≠ 0, ([(IntKind.u8.wrap (wrap64 (48 + (x1.tmod (10 : Int)))))] : List Int).length * 1 = (([(IntKind.u8.wrap (wrap64 (48 + (x1.tmod (10 : Int)))))] : List Int).flatMap encU).length ∧ 0 + ([(IntKind.u8.wrap (wrap64 (48 + (x1.tmod (10 : Int)))))] : List Int).length ≤ (([(IntKind.u8.wrap (wrap64 (48 + (x1.tmod (10 : Int)))))] : List Int).flatMap encU).length, (⟨#[UInt8.ofNat (IntKind.u8.wrap (wrap64 (48 + (x1.tmod (10 : Int))))).toNat]⟩ : ByteArray).size + x2.size ≤ 9223372036854775807], []⟩ [c_ 965, b_ 1, l_ 60, b_ 0, c_ 31] (alc (by decide) (alc ⟨rfl, Nat.le_of_ble_eq_true rfl⟩ (alc c3 aln))) nocal ?_
        refine .reg' [0, 3] [] ⟨[(0, (I (wrap64 (x1.tdiv (10 : Int))))), (3, (S ((⟨#[UInt8.ofNat (IntKind.u8.wrap (wrap64 (48 + (x1.tmod (10 : Int))))).toNat]⟩ : ByteArray) ++ x2)))], [(1540, (([(IntKind.u8.wrap (wrap64 (48 + (x1.tmod (10 : Int)))))] : List Int).flatMap encU))], [(10 : Int) ≠ 0], []⟩ [l_ 60, b_ 0, c_ 31] (alc (by decide) aln) nocal ?_
        refine .wk' [] [] [(0, (I (wrap64 (x1.tdiv (10 : Int))))), (3, (S ((⟨#[UInt8.ofNat (IntKind.u8.wrap (wrap64 (48 + (x1.tmod (10 : Int))))).toNat]⟩ : ByteArray) ++ x2)))] [] shn (enc_ (.z .s) (enc_ (.z .s) enn)) ?_
        exact ih0 (wrap64 (x1.tdiv (10 : Int))) ((⟨#[UInt8.ofNat (IntKind.u8.wrap (wrap64 (48 + (x1.tmod (10 : Int))))).toNat]⟩ : ByteArray) ++ x2) _ h
      · rw [if_neg c3] at h
        cases h
    · rw [if_neg c2] at h
      refine .cond' (.tmp 7) false [c_ 62, c_ 63] (bF (dF c2)) ?_
      by_cases c4 : (⟨#[109]⟩ : ByteArray).size + x2.size ≤ 9223372036854775807
      · rw [if_pos c4] at h
        refine .reg' [2] [] ⟨[(2, (S ((⟨#[109]⟩ : ByteArray) ++ x2)))], [], [(⟨#[109]⟩ : ByteArray).size + x2.size ≤ 9223372036854775807], []⟩ [c_ 63] (alc c4 aln) nocal ?_
        have h := Option.some.inj h
        subst h
        exact .fin0 [] (S ((⟨#[109]⟩ : ByteArray) ++ x2)) [] aln (.z .s)
      · rw [if_neg c4] at h
        cases h
theorem laws_markText.J (k : Nat) (a0 : Int) (r : ByteArray) (h : laws_markText.f k a0 = some r) : J prog (.call 43 [(I a0)] [] (S r) []) := by
  unfold laws_markText.f at h
  have ih0 := laws_markText.lab k
  refine .call' [c_ 2, c_ 3] ?_
  refine .reg' [0] [] ⟨[(0, (I a0))], [], [], []⟩ [c_ 12, c_ 13, c_ 7] aln nocal ?_
  refine .reg' [0, 5] [] ⟨[(0, (I a0)), (5, (B (decide (a0 ≤ 0))))], [], [], []⟩ [c_ 13, c_ 7] aln nocal ?_
  by_cases c1 : a0 ≤ 0
  · rw [if_pos c1] at h
    refine .cond' (.tmp 5) true [c_ 52, c_ 53, c_ 7] (bT (dT c1)) ?_
    refine .reg' [2] [] ⟨[(2, (S (⟨#[109, 48]⟩ : ByteArray)))], [], [], []⟩ [c_ 53, c_ 7] aln nocal ?_
    have h := Option.some.inj h
    subst h
    exact .fin0 [] (S (⟨#[109, 48]⟩ : ByteArray)) [] aln (.z .s)
  · rw [if_neg c1] at h
    refine .cond' (.tmp 5) false [c_ 14, c_ 15] (bF (dF c1)) ?_
    refine .reg' [0, 3] [] ⟨[(0, (I a0)), (3, (S (⟨#[]⟩ : ByteArray)))], [], [], []⟩ [l_ 60, b_ 0, c_ 31] aln nocal ?_
    exact ih0 a0 (⟨#[]⟩ : ByteArray) _ h
/-! laws_markTripS: function 17 -/
def laws_markTripS.l0 : Nat → (List S28) → Int → Int → Option (Int × (List S28))
 | 0, _, _, _ => none
 | k + 1, x1, x2, x3 => (if x3 < (x1.length : Int) then ((laws_markText.f k x2).bind fun x4 => (if 0 ≤ x3 then ((laws_markCallS.f k ((at_ (x1.set x3.toNat (⟨x4, (at_ x1 x3).f1⟩ : S28)) x3).f1) (wrap64 (x2 + 1))).bind fun x5 => (laws_markTripS.l0 k ((x1.set x3.toNat (⟨x4, (at_ x1 x3).f1⟩ : S28)).set x3.toNat (⟨(at_ (x1.set x3.toNat (⟨x4, (at_ x1 x3).f1⟩ : S28)) x3).f0, x5.2⟩ : S28)) x5.1 (wrap64 (x3 + 1)))) else none)) else (some (x2, x1)))
def laws_markTripS.f (k : Nat) (a0 : (List S28)) (a1 : Int) : Option (Int × (List S28)) := (laws_markTripS.l0 k a0 a1 0)
end Go.Proofs.YtjlickinmkafbaaDoor.Fns
