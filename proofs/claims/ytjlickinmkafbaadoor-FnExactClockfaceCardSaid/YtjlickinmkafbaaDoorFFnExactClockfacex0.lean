/- The functions that the law FnExactClockface reaches, by the engine. Printed by a program of this seat. -/
import Derived.Test.YtjlickinmkafbaaDoorE5
import Derived.Test.YtjlickinmkafbaaDoorProg
import Derived.Shelf.Strconv.Itoa3
import Derived.Lib.AppendIntMem
namespace Go.Proofs.YtjlickinmkafbaaDoor.Fns
open Go.Proofs.Tryd Go.Proofs.YtjlickinmkafbaaDoor.Eng Go.RowKit
set_option maxRecDepth 100000
set_option linter.unusedVariables false
set_option linter.unusedSimpArgs false
structure S48 where
  f0 : Int
  f1 : Int
  f2 : Int
  deriving Inhabited
def e48 (x : S48) : List V := [I x.f0, I x.f1, I x.f2]
theorem e48_ok : Enc (e48) 3 where
  len := fun _ => rfl
  self := fun x v h H tb bor => by
    simp only [e48, List.mem_cons, List.not_mem_nil, or_false] at h
    rcases h with h | h | h
    · subst h; exact .s
    · subst h; exact .s
    · subst h; exact .s
  cln := fun x v h => by
    simp only [e48, List.mem_cons, List.not_mem_nil, or_false] at h
    rcases h with h | h | h
    · subst h; exact .s
    · subst h; exact .s
    · subst h; exact .s
theorem e48_c {b : Bool} : EncC b e48 := by
  intro x v h
  simp only [e48, List.mem_cons, List.not_mem_nil, or_false] at h
  rcases h with h | h | h
  · subst h; exact .s
  · subst h; exact .s
  · subst h; exact .s
theorem e48_s : EncS e48 := by
  intro x v h
  simp only [e48, List.mem_cons, List.not_mem_nil, or_false] at h
  rcases h with h | h | h
  · subst h; exact ⟨_, rfl⟩
  · subst h; exact ⟨_, rfl⟩
  · subst h; exact ⟨_, rfl⟩
structure S23 where
  f0 : ByteArray
  f1 : (List S48)
  deriving Inhabited
def e23 (t : Bool) (x : S23) : List V := [S x.f0, .sl t x.f1.length 3 (x.f1.flatMap e48)]
theorem e23_ok (t : Bool) : Enc (e23 t) 2 where
  len := fun _ => rfl
  self := fun x v h H tb bor => by
    simp only [e23, List.mem_cons, List.not_mem_nil, or_false] at h
    rcases h with h | h
    · subst h; exact .s
    · subst h; exact frz_sl e48_ok id
  cln := fun x v h => by
    simp only [e23, List.mem_cons, List.not_mem_nil, or_false] at h
    rcases h with h | h
    · subst h; exact .s
    · subst h; exact cln_sl e48_ok
theorem e23_to (x : S23) {H : Nat → Option (List V)} {tb : Bool} {bor : List Nat} : All2 (Frz H tb bor) (e23 false x) (e23 true x) := (a2c .s (a2c (frz_sl e48_ok (fun h => absurd h (by decide))) a2n))
theorem e23_c1 : EncC true (e23 true) := by
  intro x v h
  simp only [e23, List.mem_cons, List.not_mem_nil, or_false] at h
  rcases h with h | h
  · subst h; exact .s
  · subst h; exact clnS e48_c (fun h => rfl)
theorem e23_c0 {b : Bool} : EncC b (e23 false) := by
  intro x v h
  simp only [e23, List.mem_cons, List.not_mem_nil, or_false] at h
  rcases h with h | h
  · subst h; exact .s
  · subst h; exact clnS e48_c (fun h => absurd h (by decide))
structure S28 where
  f0 : ByteArray
  f1 : (List S48)
  deriving Inhabited
def e28 (t : Bool) (x : S28) : List V := [S x.f0, .sl t x.f1.length 3 (x.f1.flatMap e48)]
theorem e28_ok (t : Bool) : Enc (e28 t) 2 where
  len := fun _ => rfl
  self := fun x v h H tb bor => by
    simp only [e28, List.mem_cons, List.not_mem_nil, or_false] at h
    rcases h with h | h
    · subst h; exact .s
    · subst h; exact frz_sl e48_ok id
  cln := fun x v h => by
    simp only [e28, List.mem_cons, List.not_mem_nil, or_false] at h
    rcases h with h | h
    · subst h; exact .s
    · subst h; exact cln_sl e48_ok
theorem e28_to (x : S28) {H : Nat → Option (List V)} {tb : Bool} {bor : List Nat} : All2 (Frz H tb bor) (e28 false x) (e28 true x) := (a2c .s (a2c (frz_sl e48_ok (fun h => absurd h (by decide))) a2n))
theorem e28_c1 : EncC true (e28 true) := by
  intro x v h
  simp only [e28, List.mem_cons, List.not_mem_nil, or_false] at h
  rcases h with h | h
  · subst h; exact .s
  · subst h; exact clnS e48_c (fun h => rfl)
theorem e28_c0 {b : Bool} : EncC b (e28 false) := by
  intro x v h
  simp only [e28, List.mem_cons, List.not_mem_nil, or_false] at h
  rcases h with h | h
  · subst h; exact .s
  · subst h; exact clnS e48_c (fun h => absurd h (by decide))
def o28 (x : S28) : List V := [S x.f0, .on x.f1.length 3 (x.f1.flatMap e48)]
theorem o28_ok : Enc o28 2 where
  len := fun _ => rfl
  self := fun x v h H tb bor => by
    simp only [o28, List.mem_cons, List.not_mem_nil, or_false] at h
    rcases h with h | h
    · subst h; exact .s
    · subst h; exact .on
  cln := fun x v h => by
    simp only [o28, List.mem_cons, List.not_mem_nil, or_false] at h
    rcases h with h | h
    · subst h; exact .s
    · subst h; exact .on
theorem o28_c {b : Bool} : EncC b o28 := by
  intro x v h
  simp only [o28, List.mem_cons, List.not_mem_nil, or_false] at h
  rcases h with h | h
  · subst h; exact .s
  · subst h; exact .on
theorem o28_l (x : S28) {H : Nat → Option (List V)} {bor : List Nat} : All2 (fun v v2 => (isOn v = false → Frz H true bor v v2) ∧ ∀ m z ds, v = .on m z ds → v2 = .sl true m z ds) (o28 x) (e28 true x) := (a2c ⟨fun _ => .s, fun m z ds h => (by cases h)⟩ (a2c ⟨fun h => (by cases h), fun m z ds h => (by cases h; rfl)⟩ a2n))
/-! laws_szCallS: function 30 -/
def laws_szCallS.f (a0 : (List S48)) (a1 : Int) : Option Int := (if (wrap64 (a1 - (a0.length : Int))) < 0 then (some (-1)) else (some (wrap64 (a1 - (a0.length : Int)))))
theorem laws_szCallS.J (a0 : (List S48)) (a1 : Int) (r : Int) (h : laws_szCallS.f a0 a1 = some r) : J prog (.call 30 [(.sl true a0.length 3 (a0.flatMap e48)), (I a1)] [] (I r) []) := by
  unfold laws_szCallS.f at h
  refine .call' [c_ 2, c_ 3] ?_
  refine .reg' [0, 1] [] ⟨[(0, (.sl true a0.length 3 (a0.flatMap e48))), (1, (I a1))], [], [], []⟩ [c_ 6, c_ 7] aln nocal ?_
  refine .reg' [1] [] ⟨[(1, (I (wrap64 (a1 - (a0.length : Int)))))], [], [], []⟩ [c_ 28, c_ 29, c_ 15] aln nocal ?_
  refine .reg' [1, 10] [] ⟨[(1, (I (wrap64 (a1 - (a0.length : Int))))), (10, (B (decide ((wrap64 (a1 - (a0.length : Int))) < 0))))], [], [], []⟩ [c_ 29, c_ 15] aln nocal ?_
  by_cases c1 : (wrap64 (a1 - (a0.length : Int))) < 0
  · rw [if_pos c1] at h
    refine .cond' (.tmp 10) true [c_ 116, c_ 117, c_ 15] (bT (dT c1)) ?_
    refine .reg' [4] [] ⟨[(4, (I (-1)))], [], [], []⟩ [c_ 117, c_ 15] aln nocal ?_
    have h := Option.some.inj h
    subst h
    exact .fin0 [] (I (-1)) [] aln (.z .s)
  · rw [if_neg c1] at h
    refine .cond' (.tmp 10) false [c_ 30, c_ 31] (bF (dF c1)) ?_
    refine .reg' [4] [] ⟨[(4, (I (wrap64 (a1 - (a0.length : Int)))))], [], [], []⟩ [c_ 31] aln nocal ?_
    have h := Option.some.inj h
    subst h
    exact .fin0 [] (I (wrap64 (a1 - (a0.length : Int)))) [] aln (.z .s)
/-! laws_szTrip: function 8 -/
def laws_szTrip.f (a0 : S23) (a1 : Int) : Option Int := (if (wrap64 (a1 - (a0.f0.size : Int))) < 0 then (some (-1)) else ((laws_szCallS.f a0.f1 (wrap64 (a1 - (a0.f0.size : Int)))).bind fun x1 => (if x1 < 0 then (some (-1)) else (some x1))))
theorem laws_szTrip.J (a0 : S23) (a1 : Int) (r : Int) (h : laws_szTrip.f a0 a1 = some r) : J prog (.call 8 [(.ag [(S a0.f0), (.sl true a0.f1.length 3 (a0.f1.flatMap e48))]), (I a1)] [] (I r) []) := by
  unfold laws_szTrip.f at h
  refine .call' [c_ 2, c_ 3] ?_
  refine .reg' [1, 2] [] ⟨[(1, (I a1)), (2, (.pt 256 0 2))], [(256, [(S a0.f0), (.sl true a0.f1.length 3 (a0.f1.flatMap e48))])], [], []⟩ [c_ 6, c_ 7] aln nocal ?_
  refine .reg' [1, 2] [] ⟨[(1, (I (wrap64 (a1 - (a0.f0.size : Int))))), (2, (.pt 256 0 2))], [(256, [(S a0.f0), (.sl true a0.f1.length 3 (a0.f1.flatMap e48))])], [2 = 2 ∧ 0 + 1 ≤ 2], []⟩ [c_ 28, c_ 29, c_ 15] (alc ⟨rfl, by decide⟩ aln) nocal ?_
  refine .reg' [1, 2, 11] [] ⟨[(1, (I (wrap64 (a1 - (a0.f0.size : Int))))), (2, (.pt 256 0 2)), (11, (B (decide ((wrap64 (a1 - (a0.f0.size : Int))) < 0))))], [(256, [(S a0.f0), (.sl true a0.f1.length 3 (a0.f1.flatMap e48))])], [], []⟩ [c_ 29, c_ 15] aln nocal ?_
  by_cases c1 : (wrap64 (a1 - (a0.f0.size : Int))) < 0
  · rw [if_pos c1] at h
    refine .cond' (.tmp 11) true [c_ 116, c_ 117, c_ 15] (bT (dT c1)) ?_
    refine .reg' [4] [] ⟨[(4, (I (-1)))], [(256, [(S a0.f0), (.sl true a0.f1.length 3 (a0.f1.flatMap e48))])], [], []⟩ [c_ 117, c_ 15] aln nocal ?_
    have h := Option.some.inj h
    subst h
    exact .fin0 [] (I (-1)) [] aln (.z .s)
  · rw [if_neg c1] at h
    refine .cond' (.tmp 11) false [c_ 30, c_ 31] (bF (dF c1)) ?_
    obtain ⟨x1, hx1, h⟩ := Option.bind_eq_some_iff.mp h
    refine .reg' [1] [.no, .no, .no, .c ⟨30, [(.sl true a0.f1.length 3 (a0.f1.flatMap e48)), (I (wrap64 (a1 - (a0.f0.size : Int))))], [], (I x1), [], [], [], [], (I x1), []⟩] ⟨[(1, (I x1))], [(256, [(S a0.f0), (.sl true a0.f1.length 3 (a0.f1.flatMap e48))])], [2 = 2 ∧ 1 + 1 ≤ 2, COK (hget [(256, [(S a0.f0), (.sl true a0.f1.length 3 (a0.f1.flatMap e48))])]) [(.sl true a0.f1.length 3 (a0.f1.flatMap e48)), (I (wrap64 (a1 - (a0.f0.size : Int))))] ⟨30, [(.sl true a0.f1.length 3 (a0.f1.flatMap e48)), (I (wrap64 (a1 - (a0.f0.size : Int))))], [], (I x1), [], [], [], [], (I x1), []⟩], [⟨30, [(.sl true a0.f1.length 3 (a0.f1.flatMap e48)), (I (wrap64 (a1 - (a0.f0.size : Int))))], [], (I x1), [], [], [], [], (I x1), []⟩]⟩ [c_ 124, c_ 125, c_ 63] (alc ⟨rfl, by decide⟩ (alc (cok0 false (a2c (.z (frz_sl e48_ok (fun h => h))) (a2c (.z .s) a2n)) (.z .s) (fun h => absurd h (by decide))) aln)) (acal (laws_szCallS.J a0.f1 (wrap64 (a1 - (a0.f0.size : Int))) _ hx1) nocal) ?_
    refine .reg' [1, 17] [] ⟨[(1, (I x1)), (17, (B (decide (x1 < 0))))], [(256, [(S a0.f0), (.sl true a0.f1.length 3 (a0.f1.flatMap e48))])], [], []⟩ [c_ 125, c_ 63] aln nocal ?_
    by_cases c2 : x1 < 0
    · rw [if_pos c2] at h
      refine .cond' (.tmp 17) true [c_ 500, c_ 501, c_ 63] (bT (dT c2)) ?_
      refine .reg' [4] [] ⟨[(4, (I (-1)))], [(256, [(S a0.f0), (.sl true a0.f1.length 3 (a0.f1.flatMap e48))])], [], []⟩ [c_ 501, c_ 63] aln nocal ?_
      have h := Option.some.inj h
      subst h
      exact .fin0 [] (I (-1)) [] aln (.z .s)
    · rw [if_neg c2] at h
      refine .cond' (.tmp 17) false [c_ 126, c_ 127] (bF (dF c2)) ?_
      refine .reg' [4] [] ⟨[(4, (I x1))], [(256, [(S a0.f0), (.sl true a0.f1.length 3 (a0.f1.flatMap e48))])], [], []⟩ [c_ 127] aln nocal ?_
      have h := Option.some.inj h
      subst h
      exact .fin0 [] (I x1) [] aln (.z .s)
/-! laws_toCall: function 59 -/
def laws_toCall.f (a0 : S48) : Option S48 := (some a0)
theorem laws_toCall.J (a0 : S48) (r : S48) (h : laws_toCall.f a0 = some r) : J prog (.call 59 [(.ag [(I a0.f0), (I a0.f1), (I a0.f2)])] [] (.ag [(I r.f0), (I r.f1), (I r.f2)]) []) := by
  unfold laws_toCall.f at h
  refine .call' [c_ 2, c_ 3] ?_
  refine .reg' [1, 2] [] ⟨[(1, (.pt 256 0 3)), (2, (.pt 257 0 3))], [(256, [(I a0.f0), (I a0.f1), (I a0.f2)]), (257, [(I 0), (I 0), (I 0)])], [], []⟩ [c_ 6, c_ 7] aln nocal ?_
  refine .reg' [1, 2, 3] [] ⟨[(1, (.pt 256 0 3)), (2, (.pt 257 0 3)), (3, (.pt 512 0 3))], [(256, [(I a0.f0), (I a0.f1), (I a0.f2)]), (257, [(I 0), (I 0), (I 0)]), (512, [(I 0), (I 0), (I 0)])], [], []⟩ [c_ 14, c_ 15] aln nocal ?_
  refine .reg' [1, 2, 3] [] ⟨[(1, (.pt 256 0 3)), (2, (.pt 257 0 3)), (3, (.pt 512 0 3))], [(256, [(I a0.f0), (I a0.f1), (I a0.f2)]), (257, [(I 0), (I 0), (I 0)]), (512, [(I a0.f0), (I 0), (I 0)])], [3 = 3 ∧ 0 + 1 ≤ 3, 3 = 3 ∧ 0 + 1 ≤ 3], []⟩ [c_ 30, c_ 31] (alc ⟨rfl, by decide⟩ (alc ⟨rfl, by decide⟩ aln)) nocal ?_
  refine .reg' [1, 2, 3] [] ⟨[(1, (.pt 256 0 3)), (2, (.pt 257 0 3)), (3, (.pt 512 0 3))], [(256, [(I a0.f0), (I a0.f1), (I a0.f2)]), (257, [(I 0), (I 0), (I 0)]), (512, [(I a0.f0), (I a0.f1), (I 0)])], [3 = 3 ∧ 1 + 1 ≤ 3, 3 = 3 ∧ 1 + 1 ≤ 3], []⟩ [c_ 62, c_ 63] (alc ⟨rfl, by decide⟩ (alc ⟨rfl, by decide⟩ aln)) nocal ?_
  refine .reg' [2, 3] [] ⟨[(2, (.pt 257 0 3)), (3, (.pt 512 0 3))], [(256, [(I a0.f0), (I a0.f1), (I a0.f2)]), (257, [(I 0), (I 0), (I 0)]), (512, [(I a0.f0), (I a0.f1), (I a0.f2)])], [3 = 3 ∧ 2 + 1 ≤ 3, 3 = 3 ∧ 2 + 1 ≤ 3], []⟩ [c_ 126, c_ 127] (alc ⟨rfl, by decide⟩ (alc ⟨rfl, by decide⟩ aln)) nocal ?_
  refine .reg' [2] [] ⟨[(2, (.pt 257 0 3))], [(256, [(I a0.f0), (I a0.f1), (I a0.f2)]), (257, [(I a0.f0), (I a0.f1), (I a0.f2)]), (512, [(I a0.f0), (I a0.f1), (I a0.f2)])], [3 = 3 ∧ 0 + 3 ≤ 3, 3 = 3 ∧ 0 + 3 ≤ 3], []⟩ [c_ 127] (alc ⟨rfl, by decide⟩ (alc ⟨rfl, by decide⟩ aln)) nocal ?_
  have h := Option.some.inj h
  subst h
  exact .fin0 [] (.ag [(I a0.f0), (I a0.f1), (I a0.f2)]) [3 = 3 ∧ 0 + 3 ≤ 3] (alc ⟨rfl, by decide⟩ aln) (.z (frz_ag (a2c .s (a2c .s (a2c .s a2n)))))
/-! laws_toCallS: function 34 -/
def laws_toCallS.l0 : Nat → (List S48) → (List S48) → Int → Option (List S48)
 | 0, _, _, _ => none
 | k + 1, a0, x1, x2 => (if x2 < (a0.length : Int) then (if 0 ≤ x2 then ((laws_toCall.f (at_ a0 x2)).bind fun x3 => (if x2 < (x1.length : Int) then (laws_toCallS.l0 k a0 (x1.set x2.toNat x3) (wrap64 (x2 + 1))) else none)) else none) else (some x1))
def laws_toCallS.f (k : Nat) (a0 : (List S48)) : Option (List S48) := (if 0 ≤ (a0.length : Int) then (if (a0.length : Int) * 24 ≤ 281474976710656 then (laws_toCallS.l0 k a0 (List.replicate (a0.length : Int).toNat (⟨0, 0, 0⟩ : S48)) 0) else none) else none)
theorem laws_toCallS.lab : ∀ k, (∀ (a0 : (List S48)) (x1 : (List S48)) (x2 : Int) (r : (List S48)), laws_toCallS.l0 k a0 x1 x2 = some r → J prog (.run 34 [] [l_ 58, b_ 0, c_ 15] [(0, (.sl true a0.length 3 (a0.flatMap e48))), (3, (.rf 514 0 x1.length 3 (x1.length * 3))), (4, (I x2))] [(514, (x1.flatMap e48))] (.rf 514 0 r.length 3 (r.length * 3)) [(514, (r.flatMap e48))]))
 | 0 => (by intro a0 x1 x2 r h; unfold laws_toCallS.l0 at h; cases h)
 | k + 1 => by
  have ih0 := laws_toCallS.lab k
  · intro a0 x1 x2 r h
    unfold laws_toCallS.l0 at h
    refine .loop' [c_ 464, c_ 465, c_ 233, l_ 58, b_ 0, c_ 15] ?_
    refine .reg' [0, 3, 4, 11] [] ⟨[(0, (.sl true a0.length 3 (a0.flatMap e48))), (3, (.rf 514 0 x1.length 3 (x1.length * 3))), (4, (I x2)), (11, (B (decide (x2 < (a0.length : Int)))))], [(514, (x1.flatMap e48))], [], []⟩ [c_ 465, c_ 233, l_ 58, b_ 0, c_ 15] aln nocal ?_
    by_cases c3 : x2 < (a0.length : Int)
    · rw [if_pos c3] at h
      refine .cond' (.tmp 11) true [c_ 932, b_ 1, c_ 467, l_ 58, b_ 0, c_ 15] (bT (dT c3)) ?_
      by_cases c4 : 0 ≤ x2
      · rw [if_pos c4] at h
        obtain ⟨x3, hx3, h⟩ := Option.bind_eq_some_iff.mp h
        by_cases c5 : x2 < (x1.length : Int)
        · rw [if_pos c5] at h
          refine .reg' [0, 3, 4] [.no, .no, .no, .no, .no, .v (.ag [(I (at_ a0 x2).f0), (I (at_ a0 x2).f1), (I (at_ a0 x2).f2)]), .c ⟨59, [(.ag [(I (at_ a0 x2).f0), (I (at_ a0 x2).f1), (I (at_ a0 x2).f2)])], [], (.ag [(I x3.f0), (I x3.f1), (I x3.f2)]), [], [], [], [], (.ag [(I x3.f0), (I x3.f1), (I x3.f2)]), []⟩, .no, .w .un ((x1.set x2.toNat x3).flatMap e48)] ⟨[(0, (.sl true a0.length 3 (a0.flatMap e48))), (3, (.rf 514 0 x1.length 3 (x1.length * 3))), (4, (I x2))], [(514, ((x1.set x2.toNat x3).flatMap e48))], [(0 : Int) ≤ x2 ∧ x2 < (a0.length : Int), rdC prog 74 ((a0.flatMap e48).drop (x2.toNat * 3)) = (.ag [(I (at_ a0 x2).f0), (I (at_ a0 x2).f1), (I (at_ a0 x2).f2)]), 3 ≤ ((a0.flatMap e48).drop (x2.toNat * 3)).length, COK (hget [(514, (x1.flatMap e48))]) [(.ag [(I (at_ a0 x2).f0), (I (at_ a0 x2).f1), (I (at_ a0 x2).f2)])] ⟨59, [(.ag [(I (at_ a0 x2).f0), (I (at_ a0 x2).f1), (I (at_ a0 x2).f2)])], [], (.ag [(I x3.f0), (I x3.f1), (I x3.f2)]), [], [], [], [], (.ag [(I x3.f0), (I x3.f1), (I x3.f2)]), []⟩, (0 : Int) ≤ x2 ∧ x2 < (x1.length : Int), V.un = V.un, spl (x1.flatMap e48) (0 + x2.toNat * 3) [(I x3.f0), (I x3.f1), (I x3.f2)] = ((x1.set x2.toNat x3).flatMap e48), x1.length * 3 = (x1.flatMap e48).length ∧ 0 + x2.toNat * 3 + 3 ≤ (x1.flatMap e48).length], [⟨59, [(.ag [(I (at_ a0 x2).f0), (I (at_ a0 x2).f1), (I (at_ a0 x2).f2)])], [], (.ag [(I x3.f0), (I x3.f1), (I x3.f2)]), [], [], [], [], (.ag [(I x3.f0), (I x3.f1), (I x3.f2)]), []⟩]⟩ [c_ 467, l_ 58, b_ 0, c_ 15] (alc ⟨c4, c3⟩ (alc (ldA e48_ok rfl rfl c4 c3) (alc (okI e48_ok c4 c3 (by decide)) (alc (cok0 false (a2c (.z (frz_ag (a2c .s (a2c .s (a2c .s a2n))))) a2n) (.z (cln_ag (alc1 .s (alc1 .s (alc1 .s aln1))))) (fun h => absurd h (by decide))) (alc ⟨c4, c5⟩ (alc rfl (alc (st_row e48_ok 0 c4 c5 (Nat.le_of_ble_eq_true rfl) rfl) (alc (okA0 e48_ok c4 c5 (by decide)) aln)))))))) (acal (laws_toCall.J (at_ a0 x2) _ hx3) nocal) ?_
          refine .eqs (env2 := [(0, (.sl true a0.length 3 (a0.flatMap e48))), (3, (.rf 514 0 ((x1.set x2.toNat x3).length) 3 ((x1.set x2.toNat x3).length * 3))), (4, (I x2))]) (H2 := [(514, ((x1.set x2.toNat x3).flatMap e48))]) (by first | (simp only [List.length_set]; done) | simp) (by first | rfl | (simp only [List.length_set]; done) | simp) ?_
          refine .reg' [0, 3, 4] [] ⟨[(0, (.sl true a0.length 3 (a0.flatMap e48))), (3, (.rf 514 0 ((x1.set x2.toNat x3).length) 3 ((x1.set x2.toNat x3).length * 3))), (4, (I (wrap64 (x2 + 1))))], [(514, ((x1.set x2.toNat x3).flatMap e48))], [], []⟩ [l_ 58, b_ 0, c_ 15] aln nocal ?_
          exact ih0 a0 (x1.set x2.toNat x3) (wrap64 (x2 + 1)) _ h
        · rw [if_neg c5] at h
          cases h
      · rw [if_neg c4] at h
        cases h
    · rw [if_neg c3] at h
      refine .cond' (.tmp 11) false [c_ 30, c_ 31] (bF (dF c3)) ?_
      refine .reg' [2] [] ⟨[(2, (.rf 514 0 x1.length 3 (x1.length * 3)))], [(514, (x1.flatMap e48))], [], []⟩ [c_ 31] aln nocal ?_
      have h := Option.some.inj h
      subst h
      exact .fin' [] [(514, 514)] (.rf 514 0 x1.length 3 (x1.length * 3)) [] aln (shc 514 (rowF e48_ok _) shn) (.rf (memP_mem (p := (514, 514)) rfl))
theorem laws_toCallS.J (k : Nat) (a0 : (List S48)) (r : (List S48)) (h : laws_toCallS.f k a0 = some r) : J prog (.call 34 [(.sl true a0.length 3 (a0.flatMap e48))] [] (.rf 514 0 r.length 3 (r.length * 3)) [(514, (r.flatMap e48))]) := by
  unfold laws_toCallS.f at h
  have ih0 := laws_toCallS.lab k
  refine .call' [c_ 2, c_ 3] ?_
  refine .reg' [0] [] ⟨[(0, (.sl true a0.length 3 (a0.flatMap e48)))], [], [], []⟩ [c_ 6, c_ 7] aln nocal ?_
  by_cases c1 : 0 ≤ (a0.length : Int)
  · rw [if_pos c1] at h
    by_cases c2 : (a0.length : Int) * 24 ≤ 281474976710656
    · rw [if_pos c2] at h
      refine .reg' [0, 3] [.no, .no, .w (.rf 514 0 ((List.replicate (a0.length : Int).toNat (⟨0, 0, 0⟩ : S48)).length) 3 ((List.replicate (a0.length : Int).toNat (⟨0, 0, 0⟩ : S48)).length * 3)) ((List.replicate (a0.length : Int).toNat (⟨0, 0, 0⟩ : S48)).flatMap e48)] ⟨[(0, (.sl true a0.length 3 (a0.flatMap e48))), (3, (.rf 514 0 ((List.replicate (a0.length : Int).toNat (⟨0, 0, 0⟩ : S48)).length) 3 ((List.replicate (a0.length : Int).toNat (⟨0, 0, 0⟩ : S48)).length * 3)))], [(514, ((List.replicate (a0.length : Int).toNat (⟨0, 0, 0⟩ : S48)).flatMap e48))], [V.rf 514 0 (a0.length : Int).toNat 3 ((a0.length : Int).toNat * 3) = (.rf 514 0 ((List.replicate (a0.length : Int).toNat (⟨0, 0, 0⟩ : S48)).length) 3 ((List.replicate (a0.length : Int).toNat (⟨0, 0, 0⟩ : S48)).length * 3)), rept (a0.length : Int).toNat [(I 0), (I 0), (I 0)] = (List.replicate (a0.length : Int).toNat (⟨0, 0, 0⟩ : S48)).flatMap e48, (a0.length : Int) = (a0.length : Int) ∧ 0 ≤ (a0.length : Int) ∧ (a0.length : Int) * 24 ≤ 281474976710656 ∧ (a0.length : Int) ≤ 9223372036854775807], []⟩ [c_ 28, c_ 29, c_ 15] (alc mkV (alc (row_rept (enc := e48) (x := (⟨0, 0, 0⟩ : S48)) (by decide) _) (alc ⟨rfl, c1, c2, by omega⟩ aln))) nocal ?_
      refine .reg' [0, 3, 4] [] ⟨[(0, (.sl true a0.length 3 (a0.flatMap e48))), (3, (.rf 514 0 ((List.replicate (a0.length : Int).toNat (⟨0, 0, 0⟩ : S48)).length) 3 ((List.replicate (a0.length : Int).toNat (⟨0, 0, 0⟩ : S48)).length * 3))), (4, (I 0))], [(514, ((List.replicate (a0.length : Int).toNat (⟨0, 0, 0⟩ : S48)).flatMap e48))], [], []⟩ [l_ 58, b_ 0, c_ 15] aln nocal ?_
      exact ih0 a0 (List.replicate (a0.length : Int).toNat (⟨0, 0, 0⟩ : S48)) 0 _ h
    · rw [if_neg c2] at h
      cases h
  · rw [if_neg c1] at h
    cases h
/-! laws_toTrip: function 10 -/
def laws_toTrip.f (k : Nat) (a0 : S23) : Option S28 := ((laws_toCallS.f k a0.f1).bind fun x1 => (some (⟨a0.f0, x1⟩ : S28)))
theorem laws_toTrip.J (k : Nat) (a0 : S23) (r : S28) (h : laws_toTrip.f k a0 = some r) : J prog (.call 10 [(.ag [(S a0.f0), (.sl true a0.f1.length 3 (a0.f1.flatMap e48))])] [] (.ag [(S r.f0), (.rf 1001026 0 r.f1.length 3 (r.f1.length * 3))]) [(1001026, (r.f1.flatMap e48))]) := by
  unfold laws_toTrip.f at h
  refine .call' [c_ 2, c_ 3] ?_
  refine .reg' [1, 2] [] ⟨[(1, (.pt 256 0 2)), (2, (.pt 257 0 2))], [(256, [(S a0.f0), (.sl true a0.f1.length 3 (a0.f1.flatMap e48))]), (257, [(S ByteArray.empty), nilS])], [], []⟩ [c_ 6, c_ 7] aln nocal ?_
  refine .reg' [1, 2, 3] [] ⟨[(1, (.pt 256 0 2)), (2, (.pt 257 0 2)), (3, (.pt 512 0 2))], [(256, [(S a0.f0), (.sl true a0.f1.length 3 (a0.f1.flatMap e48))]), (257, [(S ByteArray.empty), nilS]), (512, [(S ByteArray.empty), nilS])], [], []⟩ [c_ 14, c_ 15] aln nocal ?_
  refine .reg' [1, 2, 3] [] ⟨[(1, (.pt 256 0 2)), (2, (.pt 257 0 2)), (3, (.pt 512 0 2))], [(256, [(S a0.f0), (.sl true a0.f1.length 3 (a0.f1.flatMap e48))]), (257, [(S ByteArray.empty), nilS]), (512, [(S a0.f0), nilS])], [2 = 2 ∧ 0 + 1 ≤ 2, 2 = 2 ∧ 0 + 1 ≤ 2], []⟩ [c_ 30, c_ 31] (alc ⟨rfl, by decide⟩ (alc ⟨rfl, by decide⟩ aln)) nocal ?_
  obtain ⟨x1, hx1, h⟩ := Option.bind_eq_some_iff.mp h
  refine .reg' [2, 3] [.no, .no, .c ⟨34, [(.sl true a0.f1.length 3 (a0.f1.flatMap e48))], [], (.rf 514 0 x1.length 3 (x1.length * 3)), [(514, (x1.flatMap e48))], [], [], [(1001026, 514)], (.rf 1001026 0 x1.length 3 (x1.length * 3)), [(1001026, (x1.flatMap e48))]⟩] ⟨[(2, (.pt 257 0 2)), (3, (.pt 512 0 2))], [(256, [(S a0.f0), (.sl true a0.f1.length 3 (a0.f1.flatMap e48))]), (257, [(S ByteArray.empty), nilS]), (512, [(S a0.f0), (.rf 1001026 0 x1.length 3 (x1.length * 3))]), (1001026, (x1.flatMap e48))], [2 = 2 ∧ 1 + 1 ≤ 2, COK (hget [(256, [(S a0.f0), (.sl true a0.f1.length 3 (a0.f1.flatMap e48))]), (257, [(S ByteArray.empty), nilS]), (512, [(S a0.f0), nilS])]) [(.sl true a0.f1.length 3 (a0.f1.flatMap e48))] ⟨34, [(.sl true a0.f1.length 3 (a0.f1.flatMap e48))], [], (.rf 514 0 x1.length 3 (x1.length * 3)), [(514, (x1.flatMap e48))], [], [], [(1001026, 514)], (.rf 1001026 0 x1.length 3 (x1.length * 3)), [(1001026, (x1.flatMap e48))]⟩, 2 = 2 ∧ 1 + 1 ≤ 2], [⟨34, [(.sl true a0.f1.length 3 (a0.f1.flatMap e48))], [], (.rf 514 0 x1.length 3 (x1.length * 3)), [(514, (x1.flatMap e48))], [], [], [(1001026, 514)], (.rf 1001026 0 x1.length 3 (x1.length * 3)), [(1001026, (x1.flatMap e48))]⟩]⟩ [c_ 62, c_ 63] (alc ⟨rfl, by decide⟩ (alc (cokW false (a2c (.z (frz_sl e48_ok (fun h => h))) a2n) akn (akc (.inr rfl) akn) (.rf (memP_mem (p := (1001026, 514)) rfl)) (akc ⟨_, _, rfl, rfl, rowB e48_c _⟩ akn) (fun h => absurd h (by decide))) (alc ⟨rfl, by decide⟩ aln))) (acal (laws_toCallS.J k a0.f1 _ hx1) nocal) ?_
  refine .reg' [2] [] ⟨[(2, (.pt 257 0 2))], [(256, [(S a0.f0), (.sl true a0.f1.length 3 (a0.f1.flatMap e48))]), (257, [(S a0.f0), (.rf 1001026 0 x1.length 3 (x1.length * 3))]), (512, [(S a0.f0), (.rf 1001026 0 x1.length 3 (x1.length * 3))]), (1001026, (x1.flatMap e48))], [2 = 2 ∧ 0 + 2 ≤ 2, 2 = 2 ∧ 0 + 2 ≤ 2], []⟩ [c_ 63] (alc ⟨rfl, by decide⟩ (alc ⟨rfl, by decide⟩ aln)) nocal ?_
  have h := Option.some.inj h
  subst h
  exact .fin' [] [(1001026, 1001026)] (.ag [(S a0.f0), (.rf 1001026 0 x1.length 3 (x1.length * 3))]) [2 = 2 ∧ 0 + 2 ≤ 2] (alc ⟨rfl, by decide⟩ aln) (shc 1001026 (rowF e48_ok _) shn) (cnv_ag (a2c (.z .s) (a2c (.rf (memP_mem (p := (1001026, 1001026)) rfl)) a2n)))
/-! spec_l01In: function 38 -/
def spec_l01In.f (a0 : Int) (a1 : Int) (a2 : Int) : Option Bool := (if a1 ≤ a0 then (some (decide (a0 ≤ a2))) else (some false))
theorem spec_l01In.J (a0 : Int) (a1 : Int) (a2 : Int) (r : Bool) (h : spec_l01In.f a0 a1 a2 = some r) : J prog (.call 38 [(I a0), (I a1), (I a2)] [] (B r) []) := by
  unfold spec_l01In.f at h
  refine .call' [c_ 2, c_ 3] ?_
  refine .reg' [0, 1, 2] [] ⟨[(0, (I a0)), (1, (I a1)), (2, (I a2))], [], [], []⟩ [c_ 6, c_ 7] aln nocal ?_
  by_cases c1 : a1 ≤ a0
  · rw [if_pos c1] at h
    refine .reg' [6] [.no, .no, .no, .v (B true)] ⟨[(6, (B (decide (a0 ≤ a2))))], [], [(B (decide (a1 ≤ a0)) : V) = B true], []⟩ [c_ 7] (alc (bT (dT c1)) aln) nocal ?_
    have h := Option.some.inj h
    subst h
    exact .fin0 [] (B (decide (a0 ≤ a2))) [] aln (.z .s)
  · rw [if_neg c1] at h
    refine .reg' [6] [.no, .no, .no, .v (B false)] ⟨[(6, (B false))], [], [(B (decide (a1 ≤ a0)) : V) = B false], []⟩ [c_ 7] (alc (bF (dF c1)) aln) nocal ?_
    have h := Option.some.inj h
    subst h
    exact .fin0 [] (B false) [] aln (.z .s)
/-! spec_l01Name: function 58 -/
def spec_l01Name.l0 : Nat → ByteArray → Int → Option Bool
 | 0, _, _ => none
 | k + 1, a0, x1 => (if x1 < (a0.size : Int) then (if 0 ≤ x1 then (if (bt a0 x1) ≥ 97 then (if (bt a0 x1) ≤ 122 then (spec_l01Name.l0 k a0 (wrap64 (x1 + 1))) else (if (bt a0 x1) ≥ 48 then (if (bt a0 x1) ≤ 57 then (spec_l01Name.l0 k a0 (wrap64 (x1 + 1))) else (some false)) else (some false))) else (if (bt a0 x1) ≥ 48 then (if (bt a0 x1) ≤ 57 then (spec_l01Name.l0 k a0 (wrap64 (x1 + 1))) else (some false)) else (some false))) else none) else ((spec_l01In.f (a0.size : Int) 1 12).bind fun x2 => (some x2)))
def spec_l01Name.f (k : Nat) (a0 : ByteArray) : Option Bool := (spec_l01Name.l0 k a0 0)
theorem spec_l01Name.lab : ∀ k, (∀ (a0 : ByteArray) (x1 : Int) (r : Bool), spec_l01Name.l0 k a0 x1 = some r → J prog (.run 58 [] [l_ 26, b_ 0, c_ 7] [(0, (S a0)), (3, (I x1))] [] (B r) []))
 | 0 => (by intro a0 x1 r h; unfold spec_l01Name.l0 at h; cases h)
 | k + 1 => by
  have ih0 := spec_l01Name.lab k
  · intro a0 x1 r h
    unfold spec_l01Name.l0 at h
    refine .loop' [c_ 208, c_ 209, c_ 105, l_ 26, b_ 0, c_ 7] ?_
    refine .reg' [0, 3, 8] [] ⟨[(0, (S a0)), (3, (I x1)), (8, (B (decide (x1 < (a0.size : Int)))))], [], [], []⟩ [c_ 209, c_ 105, l_ 26, b_ 0, c_ 7] aln nocal ?_
    by_cases c1 : x1 < (a0.size : Int)
    · rw [if_pos c1] at h
      refine .cond' (.tmp 8) true [c_ 840, c_ 841, b_ 1, c_ 211, l_ 26, b_ 0, c_ 7] (bT (dT c1)) ?_
      by_cases c2 : 0 ≤ x1
      · rw [if_pos c2] at h
        refine .reg' [0, 3, 4] [] ⟨[(0, (S a0)), (3, (I x1)), (4, (U (bt a0 x1)))], [], [(0 : Int) ≤ x1 ∧ x1 < (a0.size : Int)], []⟩ [c_ 1682, c_ 1683, b_ 1, c_ 211, l_ 26, b_ 0, c_ 7] (alc ⟨c2, c1⟩ aln) nocal ?_
        by_cases c3 : (bt a0 x1) ≥ 97
        · rw [if_pos c3] at h
          by_cases c4 : (bt a0 x1) ≤ 122
          · rw [if_pos c4] at h
            refine .reg' [0, 3, 29] [.no, .no, .v (B true), .no, .no, .no, .no, .v (B false)] ⟨[(0, (S a0)), (3, (I x1)), (29, (B false))], [], [(B (decide ((bt a0 x1) ≥ 97)) : V) = B true, (B (!(decide ((bt a0 x1) ≤ 122))) : V) = B false], []⟩ [c_ 1683, b_ 1, c_ 211, l_ 26, b_ 0, c_ 7] (alc (bT (dT c3)) (alc (bF (nF (dT c4))) aln)) nocal ?_
            refine .cond' (.tmp 29) false [c_ 211, l_ 26, b_ 0, c_ 7] (rfl) ?_
            refine .reg' [0, 3] [] ⟨[(0, (S a0)), (3, (I (wrap64 (x1 + 1))))], [], [], []⟩ [l_ 26, b_ 0, c_ 7] aln nocal ?_
            exact ih0 a0 (wrap64 (x1 + 1)) _ h
          · rw [if_neg c4] at h
            by_cases c5 : (bt a0 x1) ≥ 48
            · rw [if_pos c5] at h
              refine .reg' [0, 3, 29] [.no, .no, .v (B true), .no, .no, .no, .no, .v (B true), .no, .no, .v (B true)] ⟨[(0, (S a0)), (3, (I x1)), (29, (B (!(decide ((bt a0 x1) ≤ 57)))))], [], [(B (decide ((bt a0 x1) ≥ 97)) : V) = B true, (B (!(decide ((bt a0 x1) ≤ 122))) : V) = B true, (B (decide ((bt a0 x1) ≥ 48)) : V) = B true], []⟩ [c_ 1683, b_ 1, c_ 211, l_ 26, b_ 0, c_ 7] (alc (bT (dT c3)) (alc (bT (nT (dF c4))) (alc (bT (dT c5)) aln))) nocal ?_
              by_cases c6 : (bt a0 x1) ≤ 57
              · rw [if_pos c6] at h
                refine .cond' (.tmp 29) false [c_ 211, l_ 26, b_ 0, c_ 7] (bF (nF (dT c6))) ?_
                refine .reg' [0, 3] [] ⟨[(0, (S a0)), (3, (I (wrap64 (x1 + 1))))], [], [], []⟩ [l_ 26, b_ 0, c_ 7] aln nocal ?_
                exact ih0 a0 (wrap64 (x1 + 1)) _ h
              · rw [if_neg c6] at h
                refine .cond' (.tmp 29) true [c_ 6732, c_ 6733, b_ 1, c_ 211, l_ 26, b_ 0, c_ 7] (bT (nT (dF c6))) ?_
                refine .reg' [2] [] ⟨[(2, (B false))], [], [], []⟩ [c_ 6733, b_ 1, c_ 211, l_ 26, b_ 0, c_ 7] aln nocal ?_
                have h := Option.some.inj h
                subst h
                exact .fin0 [] (B false) [] aln (.z .s)
            · rw [if_neg c5] at h
              refine .reg' [0, 3, 29] [.no, .no, .v (B true), .no, .no, .no, .no, .v (B true), .no, .no, .v (B false)] ⟨[(0, (S a0)), (3, (I x1)), (29, (B true))], [], [(B (decide ((bt a0 x1) ≥ 97)) : V) = B true, (B (!(decide ((bt a0 x1) ≤ 122))) : V) = B true, (B (decide ((bt a0 x1) ≥ 48)) : V) = B false], []⟩ [c_ 1683, b_ 1, c_ 211, l_ 26, b_ 0, c_ 7] (alc (bT (dT c3)) (alc (bT (nT (dF c4))) (alc (bF (dF c5)) aln))) nocal ?_
              refine .cond' (.tmp 29) true [c_ 6732, c_ 6733, b_ 1, c_ 211, l_ 26, b_ 0, c_ 7] (rfl) ?_
              refine .reg' [2] [] ⟨[(2, (B false))], [], [], []⟩ [c_ 6733, b_ 1, c_ 211, l_ 26, b_ 0, c_ 7] aln nocal ?_
              have h := Option.some.inj h
              subst h
              exact .fin0 [] (B false) [] aln (.z .s)
        · rw [if_neg c3] at h
          by_cases c7 : (bt a0 x1) ≥ 48
          · rw [if_pos c7] at h
            refine .reg' [0, 3, 29] [.no, .no, .v (B false), .no, .no, .no, .no, .no, .no, .no, .v (B true)] ⟨[(0, (S a0)), (3, (I x1)), (29, (B (!(decide ((bt a0 x1) ≤ 57)))))], [], [(B (decide ((bt a0 x1) ≥ 97)) : V) = B false, (B (decide ((bt a0 x1) ≥ 48)) : V) = B true], []⟩ [c_ 1683, b_ 1, c_ 211, l_ 26, b_ 0, c_ 7] (alc (bF (dF c3)) (alc (bT (dT c7)) aln)) nocal ?_
            by_cases c8 : (bt a0 x1) ≤ 57
            · rw [if_pos c8] at h
              refine .cond' (.tmp 29) false [c_ 211, l_ 26, b_ 0, c_ 7] (bF (nF (dT c8))) ?_
              refine .reg' [0, 3] [] ⟨[(0, (S a0)), (3, (I (wrap64 (x1 + 1))))], [], [], []⟩ [l_ 26, b_ 0, c_ 7] aln nocal ?_
              exact ih0 a0 (wrap64 (x1 + 1)) _ h
            · rw [if_neg c8] at h
              refine .cond' (.tmp 29) true [c_ 6732, c_ 6733, b_ 1, c_ 211, l_ 26, b_ 0, c_ 7] (bT (nT (dF c8))) ?_
              refine .reg' [2] [] ⟨[(2, (B false))], [], [], []⟩ [c_ 6733, b_ 1, c_ 211, l_ 26, b_ 0, c_ 7] aln nocal ?_
              have h := Option.some.inj h
              subst h
              exact .fin0 [] (B false) [] aln (.z .s)
          · rw [if_neg c7] at h
            refine .reg' [0, 3, 29] [.no, .no, .v (B false), .no, .no, .no, .no, .no, .no, .no, .v (B false)] ⟨[(0, (S a0)), (3, (I x1)), (29, (B true))], [], [(B (decide ((bt a0 x1) ≥ 97)) : V) = B false, (B (decide ((bt a0 x1) ≥ 48)) : V) = B false], []⟩ [c_ 1683, b_ 1, c_ 211, l_ 26, b_ 0, c_ 7] (alc (bF (dF c3)) (alc (bF (dF c7)) aln)) nocal ?_
            refine .cond' (.tmp 29) true [c_ 6732, c_ 6733, b_ 1, c_ 211, l_ 26, b_ 0, c_ 7] (rfl) ?_
            refine .reg' [2] [] ⟨[(2, (B false))], [], [], []⟩ [c_ 6733, b_ 1, c_ 211, l_ 26, b_ 0, c_ 7] aln nocal ?_
            have h := Option.some.inj h
            subst h
            exact .fin0 [] (B false) [] aln (.z .s)
      · rw [if_neg c2] at h
        cases h
    · rw [if_neg c1] at h
      refine .cond' (.tmp 8) false [c_ 14, c_ 15] (bF (dF c1)) ?_
      obtain ⟨x2, hx2, h⟩ := Option.bind_eq_some_iff.mp h
      refine .reg' [2] [.no, .no, .c ⟨38, [(I (a0.size : Int)), (I 1), (I 12)], [], (B x2), [], [], [], [], (B x2), []⟩] ⟨[(2, (B x2))], [], [COK (hget []) [(I (a0.size : Int)), (I 1), (I 12)] ⟨38, [(I (a0.size : Int)), (I 1), (I 12)], [], (B x2), [], [], [], [], (B x2), []⟩], [⟨38, [(I (a0.size : Int)), (I 1), (I 12)], [], (B x2), [], [], [], [], (B x2), []⟩]⟩ [c_ 15] (alc (cok0 false (a2c (.z .s) (a2c (.z .s) (a2c (.z .s) a2n))) (.z .s) (fun h => absurd h (by decide))) aln) (acal (spec_l01In.J (a0.size : Int) 1 12 _ hx2) nocal) ?_
      have h := Option.some.inj h
      subst h
      exact .fin0 [] (B x2) [] aln (.z .s)
theorem spec_l01Name.J (k : Nat) (a0 : ByteArray) (r : Bool) (h : spec_l01Name.f k a0 = some r) : J prog (.call 58 [(S a0)] [] (B r) []) := by
  unfold spec_l01Name.f at h
  have ih0 := spec_l01Name.lab k
  refine .call' [c_ 2, c_ 3] ?_
  refine .reg' [0] [] ⟨[(0, (S a0))], [], [], []⟩ [c_ 12, c_ 13, c_ 7] aln nocal ?_
  refine .reg' [0, 3] [] ⟨[(0, (S a0)), (3, (I 0))], [], [], []⟩ [l_ 26, b_ 0, c_ 7] aln nocal ?_
  exact ih0 a0 0 _ h
/-! spec_TripOk: function 31 -/
def spec_TripOk.l0 : Nat → S28 → Int → Option Bool
 | 0, _, _ => none
 | k + 1, a0, x3 => (if x3 < (a0.f1.length : Int) then (if 0 ≤ x3 then ((spec_l01In.f ((at_ a0.f1 x3).f0) 0 29).bind fun x4 => (if x4 = true then ((spec_l01In.f ((at_ a0.f1 x3).f2) 0 100000).bind fun x5 => (if x5 = true then ((spec_l01In.f ((at_ a0.f1 x3).f1) 0 ((at_ a0.f1 x3).f2)).bind fun x6 => (if x6 = true then (if x3 > 0 then (if 0 ≤ (wrap64 (x3 - 1)) then (if (wrap64 (x3 - 1)) < (a0.f1.length : Int) then (if (at_ a0.f1 (wrap64 (x3 - 1))).f2 ≥ (at_ a0.f1 x3).f1 then (some false) else (if (at_ a0.f1 (wrap64 (x3 - 1))).f0 = (at_ a0.f1 x3).f0 then (some false) else (spec_TripOk.l0 k a0 (wrap64 (x3 + 1))))) else none) else none) else (spec_TripOk.l0 k a0 (wrap64 (x3 + 1)))) else (some false))) else (some false))) else (some false))) else none) else (some true))
def spec_TripOk.f (k : Nat) (a0 : S28) : Option Bool := ((spec_l01Name.f k a0.f0).bind fun x1 => (if x1 = true then ((spec_l01In.f (a0.f1.length : Int) 2 12).bind fun x2 => (if x2 = true then (spec_TripOk.l0 k a0 0) else (some false))) else (some false)))
theorem spec_TripOk.lab : ∀ k, (∀ (a0 : S28) (x3 : Int) (r : Bool), spec_TripOk.l0 k a0 x3 = some r → J prog (.run 31 [] [l_ 58, b_ 0, c_ 15] [(1, (.pt 256 0 2)), (3, (I x3))] [(256, [(S a0.f0), (.sl true a0.f1.length 3 (a0.f1.flatMap e48))])] (B r) []))
 | 0 => (by intro a0 x3 r h; unfold spec_TripOk.l0 at h; cases h)
 | k + 1 => by
  have ih0 := spec_TripOk.lab k
  · intro a0 x3 r h
    unfold spec_TripOk.l0 at h
    refine .loop' [c_ 464, c_ 465, c_ 233, l_ 58, b_ 0, c_ 15] ?_
    refine .reg' [1, 3, 20] [] ⟨[(1, (.pt 256 0 2)), (3, (I x3)), (20, (B (decide (x3 < (a0.f1.length : Int)))))], [(256, [(S a0.f0), (.sl true a0.f1.length 3 (a0.f1.flatMap e48))])], [2 = 2 ∧ 1 + 1 ≤ 2], []⟩ [c_ 465, c_ 233, l_ 58, b_ 0, c_ 15] (alc ⟨rfl, by decide⟩ aln) nocal ?_
    by_cases c3 : x3 < (a0.f1.length : Int)
    · rw [if_pos c3] at h
      refine .cond' (.tmp 20) true [c_ 1864, c_ 1865, b_ 1, c_ 467, l_ 58, b_ 0, c_ 15] (bT (dT c3)) ?_
      by_cases c4 : 0 ≤ x3
      · rw [if_pos c4] at h
        refine .reg' [1, 3, 4] [.no, .no, .no, .no, .v (.ag [(I (at_ a0.f1 x3).f0), (I (at_ a0.f1 x3).f1), (I (at_ a0.f1 x3).f2)])] ⟨[(1, (.pt 256 0 2)), (3, (I x3)), (4, (.pt 1797 0 3))], [(256, [(S a0.f0), (.sl true a0.f1.length 3 (a0.f1.flatMap e48))]), (1797, [(I (at_ a0.f1 x3).f0), (I (at_ a0.f1 x3).f1), (I (at_ a0.f1 x3).f2)])], [2 = 2 ∧ 1 + 1 ≤ 2, (0 : Int) ≤ x3 ∧ x3 < (a0.f1.length : Int), rdC prog 49 ((a0.f1.flatMap e48).drop (x3.toNat * 3)) = (.ag [(I (at_ a0.f1 x3).f0), (I (at_ a0.f1 x3).f1), (I (at_ a0.f1 x3).f2)]), 3 ≤ ((a0.f1.flatMap e48).drop (x3.toNat * 3)).length, 3 = 3 ∧ 0 + 3 ≤ 3], []⟩ [c_ 7460, c_ 7461, c_ 3731, b_ 1, c_ 467, l_ 58, b_ 0, c_ 15] (alc ⟨rfl, by decide⟩ (alc ⟨c4, c3⟩ (alc (ldA e48_ok rfl rfl c4 c3) (alc (okI e48_ok c4 c3 (by decide)) (alc ⟨rfl, by decide⟩ aln))))) nocal ?_
        obtain ⟨x4, hx4, h⟩ := Option.bind_eq_some_iff.mp h
        by_cases c5 : x4 = true
        · rw [if_pos c5] at h
          obtain ⟨x5, hx5, h⟩ := Option.bind_eq_some_iff.mp h
          by_cases c6 : x5 = true
          · rw [if_pos c6] at h
            obtain ⟨x6, hx6, h⟩ := Option.bind_eq_some_iff.mp h
            refine .reg' [1, 3, 4, 45] [.no, .no, .c ⟨38, [(I (at_ a0.f1 x3).f0), (I 0), (I 29)], [], (B x4), [], [], [], [], (B x4), []⟩, .no, .v (B false), .no, .no, .c ⟨38, [(I (at_ a0.f1 x3).f2), (I 0), (I 100000)], [], (B x5), [], [], [], [], (B x5), []⟩, .no, .no, .v (B false), .no, .no, .no, .no, .c ⟨38, [(I (at_ a0.f1 x3).f1), (I 0), (I (at_ a0.f1 x3).f2)], [], (B x6), [], [], [], [], (B x6), []⟩] ⟨[(1, (.pt 256 0 2)), (3, (I x3)), (4, (.pt 1797 0 3)), (45, (B (!x6)))], [(256, [(S a0.f0), (.sl true a0.f1.length 3 (a0.f1.flatMap e48))]), (1797, [(I (at_ a0.f1 x3).f0), (I (at_ a0.f1 x3).f1), (I (at_ a0.f1 x3).f2)])], [3 = 3 ∧ 0 + 1 ≤ 3, COK (hget [(256, [(S a0.f0), (.sl true a0.f1.length 3 (a0.f1.flatMap e48))]), (1797, [(I (at_ a0.f1 x3).f0), (I (at_ a0.f1 x3).f1), (I (at_ a0.f1 x3).f2)])]) [(I (at_ a0.f1 x3).f0), (I 0), (I 29)] ⟨38, [(I (at_ a0.f1 x3).f0), (I 0), (I 29)], [], (B x4), [], [], [], [], (B x4), []⟩, (B (!x4) : V) = B false, 3 = 3 ∧ 2 + 1 ≤ 3, COK (hget [(256, [(S a0.f0), (.sl true a0.f1.length 3 (a0.f1.flatMap e48))]), (1797, [(I (at_ a0.f1 x3).f0), (I (at_ a0.f1 x3).f1), (I (at_ a0.f1 x3).f2)])]) [(I (at_ a0.f1 x3).f2), (I 0), (I 100000)] ⟨38, [(I (at_ a0.f1 x3).f2), (I 0), (I 100000)], [], (B x5), [], [], [], [], (B x5), []⟩, (B (!x5) : V) = B false, 3 = 3 ∧ 1 + 1 ≤ 3, 3 = 3 ∧ 2 + 1 ≤ 3, COK (hget [(256, [(S a0.f0), (.sl true a0.f1.length 3 (a0.f1.flatMap e48))]), (1797, [(I (at_ a0.f1 x3).f0), (I (at_ a0.f1 x3).f1), (I (at_ a0.f1 x3).f2)])]) [(I (at_ a0.f1 x3).f1), (I 0), (I (at_ a0.f1 x3).f2)] ⟨38, [(I (at_ a0.f1 x3).f1), (I 0), (I (at_ a0.f1 x3).f2)], [], (B x6), [], [], [], [], (B x6), []⟩], [⟨38, [(I (at_ a0.f1 x3).f0), (I 0), (I 29)], [], (B x4), [], [], [], [], (B x4), []⟩, ⟨38, [(I (at_ a0.f1 x3).f2), (I 0), (I 100000)], [], (B x5), [], [], [], [], (B x5), []⟩, ⟨38, [(I (at_ a0.f1 x3).f1), (I 0), (I (at_ a0.f1 x3).f2)], [], (B x6), [], [], [], [], (B x6), []⟩]⟩ [c_ 7461, c_ 3731, b_ 1, c_ 467, l_ 58, b_ 0, c_ 15] (alc ⟨rfl, by decide⟩ (alc (cok0 false (a2c (.z .s) (a2c (.z .s) (a2c (.z .s) a2n))) (.z .s) (fun h => absurd h (by decide))) (alc (bF (nF c5)) (alc ⟨rfl, by decide⟩ (alc (cok0 false (a2c (.z .s) (a2c (.z .s) (a2c (.z .s) a2n))) (.z .s) (fun h => absurd h (by decide))) (alc (bF (nF c6)) (alc ⟨rfl, by decide⟩ (alc ⟨rfl, by decide⟩ (alc (cok0 false (a2c (.z .s) (a2c (.z .s) (a2c (.z .s) a2n))) (.z .s) (fun h => absurd h (by decide))) aln))))))))) (acal (spec_l01In.J ((at_ a0.f1 x3).f0) 0 29 _ hx4) (acal (spec_l01In.J ((at_ a0.f1 x3).f2) 0 100000 _ hx5) (acal (spec_l01In.J ((at_ a0.f1 x3).f1) 0 ((at_ a0.f1 x3).f2) _ hx6) nocal))) ?_
            by_cases c7 : x6 = true
            · rw [if_pos c7] at h
              refine .cond' (.tmp 45) false [c_ 7462, c_ 7463, b_ 1, c_ 467, l_ 58, b_ 0, c_ 15] (bF (nF c7)) ?_
              by_cases c8 : x3 > 0
              · rw [if_pos c8] at h
                by_cases c9 : 0 ≤ (wrap64 (x3 - 1))
                · rw [if_pos c9] at h
                  by_cases c10 : (wrap64 (x3 - 1)) < (a0.f1.length : Int)
                  · rw [if_pos c10] at h
                    by_cases c11 : (at_ a0.f1 (wrap64 (x3 - 1))).f2 ≥ (at_ a0.f1 x3).f1
                    · rw [if_pos c11] at h
                      refine .reg' [1, 3, 71] [.no, .no, .v (B true), .no, .no, .no, .no, .no, .no, .v (I (at_ a0.f1 (wrap64 (x3 - 1))).f2), .no, .no, .no, .v (B true)] ⟨[(1, (.pt 256 0 2)), (3, (I x3)), (71, (B true))], [(256, [(S a0.f0), (.sl true a0.f1.length 3 (a0.f1.flatMap e48))]), (1797, [(I (at_ a0.f1 x3).f0), (I (at_ a0.f1 x3).f1), (I (at_ a0.f1 x3).f2)])], [(B (decide (x3 > 0)) : V) = B true, 2 = 2 ∧ 1 + 1 ≤ 2, (0 : Int) ≤ (wrap64 (x3 - 1)) ∧ (wrap64 (x3 - 1)) < (a0.f1.length : Int), rdC prog 3 (((a0.f1.flatMap e48).drop ((wrap64 (x3 - 1)).toNat * 3)).drop 2) = (I (at_ a0.f1 (wrap64 (x3 - 1))).f2), 1 ≤ (((a0.f1.flatMap e48).drop ((wrap64 (x3 - 1)).toNat * 3)).drop 2).length, 3 = 3 ∧ 1 + 1 ≤ 3, (B (decide ((at_ a0.f1 (wrap64 (x3 - 1))).f2 ≥ (at_ a0.f1 x3).f1)) : V) = B true], []⟩ [c_ 7463, b_ 1, c_ 467, l_ 58, b_ 0, c_ 15] (alc (bT (dT c8)) (alc ⟨rfl, by decide⟩ (alc ⟨c9, c10⟩ (alc (ldC e48_ok 2 (by decide) rfl c9 c10) (alc (okIj e48_ok c9 c10 (by decide)) (alc ⟨rfl, by decide⟩ (alc (bT (dT c11)) aln))))))) nocal ?_
                      refine .cond' (.tmp 71) true [c_ 29852, c_ 29853, b_ 1, c_ 467, l_ 58, b_ 0, c_ 15] (rfl) ?_
                      refine .reg' [2] [] ⟨[(2, (B false))], [(256, [(S a0.f0), (.sl true a0.f1.length 3 (a0.f1.flatMap e48))]), (1797, [(I (at_ a0.f1 x3).f0), (I (at_ a0.f1 x3).f1), (I (at_ a0.f1 x3).f2)])], [], []⟩ [c_ 29853, b_ 1, c_ 467, l_ 58, b_ 0, c_ 15] aln nocal ?_
                      have h := Option.some.inj h
                      subst h
                      exact .fin0 [] (B false) [] aln (.z .s)
                    · rw [if_neg c11] at h
                      refine .reg' [1, 3, 71] [.no, .no, .v (B true), .no, .no, .no, .no, .no, .no, .v (I (at_ a0.f1 (wrap64 (x3 - 1))).f2), .no, .no, .no, .v (B false), .no, .no, .no, .no, .no, .no, .v (I (at_ a0.f1 (wrap64 (x3 - 1))).f0)] ⟨[(1, (.pt 256 0 2)), (3, (I x3)), (71, (B ((at_ a0.f1 (wrap64 (x3 - 1))).f0 == (at_ a0.f1 x3).f0)))], [(256, [(S a0.f0), (.sl true a0.f1.length 3 (a0.f1.flatMap e48))]), (1797, [(I (at_ a0.f1 x3).f0), (I (at_ a0.f1 x3).f1), (I (at_ a0.f1 x3).f2)])], [(B (decide (x3 > 0)) : V) = B true, 2 = 2 ∧ 1 + 1 ≤ 2, (0 : Int) ≤ (wrap64 (x3 - 1)) ∧ (wrap64 (x3 - 1)) < (a0.f1.length : Int), rdC prog 3 (((a0.f1.flatMap e48).drop ((wrap64 (x3 - 1)).toNat * 3)).drop 2) = (I (at_ a0.f1 (wrap64 (x3 - 1))).f2), 1 ≤ (((a0.f1.flatMap e48).drop ((wrap64 (x3 - 1)).toNat * 3)).drop 2).length, 3 = 3 ∧ 1 + 1 ≤ 3, (B (decide ((at_ a0.f1 (wrap64 (x3 - 1))).f2 ≥ (at_ a0.f1 x3).f1)) : V) = B false, 2 = 2 ∧ 1 + 1 ≤ 2, (0 : Int) ≤ (wrap64 (x3 - 1)) ∧ (wrap64 (x3 - 1)) < (a0.f1.length : Int), rdC prog 3 (((a0.f1.flatMap e48).drop ((wrap64 (x3 - 1)).toNat * 3)).drop 0) = (I (at_ a0.f1 (wrap64 (x3 - 1))).f0), 1 ≤ (((a0.f1.flatMap e48).drop ((wrap64 (x3 - 1)).toNat * 3)).drop 0).length, 3 = 3 ∧ 0 + 1 ≤ 3], []⟩ [c_ 7463, b_ 1, c_ 467, l_ 58, b_ 0, c_ 15] (alc (bT (dT c8)) (alc ⟨rfl, by decide⟩ (alc ⟨c9, c10⟩ (alc (ldC e48_ok 2 (by decide) rfl c9 c10) (alc (okIj e48_ok c9 c10 (by decide)) (alc ⟨rfl, by decide⟩ (alc (bF (dF c11)) (alc ⟨rfl, by decide⟩ (alc ⟨c9, c10⟩ (alc (ldC e48_ok 0 (by decide) rfl c9 c10) (alc (okIj e48_ok c9 c10 (by decide)) (alc ⟨rfl, by decide⟩ aln)))))))))))) nocal ?_
                      by_cases c12 : (at_ a0.f1 (wrap64 (x3 - 1))).f0 = (at_ a0.f1 x3).f0
                      · rw [if_pos c12] at h
                        refine .cond' (.tmp 71) true [c_ 29852, c_ 29853, b_ 1, c_ 467, l_ 58, b_ 0, c_ 15] (bT (qT c12)) ?_
                        refine .reg' [2] [] ⟨[(2, (B false))], [(256, [(S a0.f0), (.sl true a0.f1.length 3 (a0.f1.flatMap e48))]), (1797, [(I (at_ a0.f1 x3).f0), (I (at_ a0.f1 x3).f1), (I (at_ a0.f1 x3).f2)])], [], []⟩ [c_ 29853, b_ 1, c_ 467, l_ 58, b_ 0, c_ 15] aln nocal ?_
                        have h := Option.some.inj h
                        subst h
                        exact .fin0 [] (B false) [] aln (.z .s)
                      · rw [if_neg c12] at h
                        refine .cond' (.tmp 71) false [c_ 467, l_ 58, b_ 0, c_ 15] (bF (qF c12)) ?_
                        refine .reg' [1, 3] [] ⟨[(1, (.pt 256 0 2)), (3, (I (wrap64 (x3 + 1))))], [(256, [(S a0.f0), (.sl true a0.f1.length 3 (a0.f1.flatMap e48))]), (1797, [(I (at_ a0.f1 x3).f0), (I (at_ a0.f1 x3).f1), (I (at_ a0.f1 x3).f2)])], [], []⟩ [l_ 58, b_ 0, c_ 15] aln nocal ?_
                        refine .wk' [] [(256, 256)] [(1, (.pt 256 0 2)), (3, (I (wrap64 (x3 + 1))))] [(256, [(S a0.f0), (.sl true a0.f1.length 3 (a0.f1.flatMap e48))])] (shc 256 (a2c (.z .s) (a2c (.z (frz_sl e48_ok (fun h => h))) a2n)) shn) (enc_ (.pt (memP_mem (p := (256, 256)) rfl)) (enc_ (.z .s) enn)) ?_
                        exact ih0 a0 (wrap64 (x3 + 1)) _ h
                  · rw [if_neg c10] at h
                    cases h
                · rw [if_neg c9] at h
                  cases h
              · rw [if_neg c8] at h
                refine .reg' [1, 3, 71] [.no, .no, .v (B false)] ⟨[(1, (.pt 256 0 2)), (3, (I x3)), (71, (B false))], [(256, [(S a0.f0), (.sl true a0.f1.length 3 (a0.f1.flatMap e48))]), (1797, [(I (at_ a0.f1 x3).f0), (I (at_ a0.f1 x3).f1), (I (at_ a0.f1 x3).f2)])], [(B (decide (x3 > 0)) : V) = B false], []⟩ [c_ 7463, b_ 1, c_ 467, l_ 58, b_ 0, c_ 15] (alc (bF (dF c8)) aln) nocal ?_
                refine .cond' (.tmp 71) false [c_ 467, l_ 58, b_ 0, c_ 15] (rfl) ?_
                refine .reg' [1, 3] [] ⟨[(1, (.pt 256 0 2)), (3, (I (wrap64 (x3 + 1))))], [(256, [(S a0.f0), (.sl true a0.f1.length 3 (a0.f1.flatMap e48))]), (1797, [(I (at_ a0.f1 x3).f0), (I (at_ a0.f1 x3).f1), (I (at_ a0.f1 x3).f2)])], [], []⟩ [l_ 58, b_ 0, c_ 15] aln nocal ?_
                refine .wk' [] [(256, 256)] [(1, (.pt 256 0 2)), (3, (I (wrap64 (x3 + 1))))] [(256, [(S a0.f0), (.sl true a0.f1.length 3 (a0.f1.flatMap e48))])] (shc 256 (a2c (.z .s) (a2c (.z (frz_sl e48_ok (fun h => h))) a2n)) shn) (enc_ (.pt (memP_mem (p := (256, 256)) rfl)) (enc_ (.z .s) enn)) ?_
                exact ih0 a0 (wrap64 (x3 + 1)) _ h
            · rw [if_neg c7] at h
              refine .cond' (.tmp 45) true [c_ 29844, c_ 29845, c_ 3731, b_ 1, c_ 467, l_ 58, b_ 0, c_ 15] (bT (nT (vF c7))) ?_
              refine .reg' [2] [] ⟨[(2, (B false))], [(256, [(S a0.f0), (.sl true a0.f1.length 3 (a0.f1.flatMap e48))]), (1797, [(I (at_ a0.f1 x3).f0), (I (at_ a0.f1 x3).f1), (I (at_ a0.f1 x3).f2)])], [], []⟩ [c_ 29845, c_ 3731, b_ 1, c_ 467, l_ 58, b_ 0, c_ 15] aln nocal ?_
              have h := Option.some.inj h
              subst h
              exact .fin0 [] (B false) [] aln (.z .s)
          · rw [if_neg c6] at h
            refine .reg' [1, 3, 4, 45] [.no, .no, .c ⟨38, [(I (at_ a0.f1 x3).f0), (I 0), (I 29)], [], (B x4), [], [], [], [], (B x4), []⟩, .no, .v (B false), .no, .no, .c ⟨38, [(I (at_ a0.f1 x3).f2), (I 0), (I 100000)], [], (B x5), [], [], [], [], (B x5), []⟩, .no, .no, .v (B true)] ⟨[(1, (.pt 256 0 2)), (3, (I x3)), (4, (.pt 1797 0 3)), (45, (B true))], [(256, [(S a0.f0), (.sl true a0.f1.length 3 (a0.f1.flatMap e48))]), (1797, [(I (at_ a0.f1 x3).f0), (I (at_ a0.f1 x3).f1), (I (at_ a0.f1 x3).f2)])], [3 = 3 ∧ 0 + 1 ≤ 3, COK (hget [(256, [(S a0.f0), (.sl true a0.f1.length 3 (a0.f1.flatMap e48))]), (1797, [(I (at_ a0.f1 x3).f0), (I (at_ a0.f1 x3).f1), (I (at_ a0.f1 x3).f2)])]) [(I (at_ a0.f1 x3).f0), (I 0), (I 29)] ⟨38, [(I (at_ a0.f1 x3).f0), (I 0), (I 29)], [], (B x4), [], [], [], [], (B x4), []⟩, (B (!x4) : V) = B false, 3 = 3 ∧ 2 + 1 ≤ 3, COK (hget [(256, [(S a0.f0), (.sl true a0.f1.length 3 (a0.f1.flatMap e48))]), (1797, [(I (at_ a0.f1 x3).f0), (I (at_ a0.f1 x3).f1), (I (at_ a0.f1 x3).f2)])]) [(I (at_ a0.f1 x3).f2), (I 0), (I 100000)] ⟨38, [(I (at_ a0.f1 x3).f2), (I 0), (I 100000)], [], (B x5), [], [], [], [], (B x5), []⟩, (B (!x5) : V) = B true], [⟨38, [(I (at_ a0.f1 x3).f0), (I 0), (I 29)], [], (B x4), [], [], [], [], (B x4), []⟩, ⟨38, [(I (at_ a0.f1 x3).f2), (I 0), (I 100000)], [], (B x5), [], [], [], [], (B x5), []⟩]⟩ [c_ 7461, c_ 3731, b_ 1, c_ 467, l_ 58, b_ 0, c_ 15] (alc ⟨rfl, by decide⟩ (alc (cok0 false (a2c (.z .s) (a2c (.z .s) (a2c (.z .s) a2n))) (.z .s) (fun h => absurd h (by decide))) (alc (bF (nF c5)) (alc ⟨rfl, by decide⟩ (alc (cok0 false (a2c (.z .s) (a2c (.z .s) (a2c (.z .s) a2n))) (.z .s) (fun h => absurd h (by decide))) (alc (bT (nT (vF c6))) aln)))))) (acal (spec_l01In.J ((at_ a0.f1 x3).f0) 0 29 _ hx4) (acal (spec_l01In.J ((at_ a0.f1 x3).f2) 0 100000 _ hx5) nocal)) ?_
            refine .cond' (.tmp 45) true [c_ 29844, c_ 29845, c_ 3731, b_ 1, c_ 467, l_ 58, b_ 0, c_ 15] (rfl) ?_
            refine .reg' [2] [] ⟨[(2, (B false))], [(256, [(S a0.f0), (.sl true a0.f1.length 3 (a0.f1.flatMap e48))]), (1797, [(I (at_ a0.f1 x3).f0), (I (at_ a0.f1 x3).f1), (I (at_ a0.f1 x3).f2)])], [], []⟩ [c_ 29845, c_ 3731, b_ 1, c_ 467, l_ 58, b_ 0, c_ 15] aln nocal ?_
            have h := Option.some.inj h
            subst h
            exact .fin0 [] (B false) [] aln (.z .s)
        · rw [if_neg c5] at h
          refine .reg' [1, 3, 4, 45] [.no, .no, .c ⟨38, [(I (at_ a0.f1 x3).f0), (I 0), (I 29)], [], (B x4), [], [], [], [], (B x4), []⟩, .no, .v (B true)] ⟨[(1, (.pt 256 0 2)), (3, (I x3)), (4, (.pt 1797 0 3)), (45, (B true))], [(256, [(S a0.f0), (.sl true a0.f1.length 3 (a0.f1.flatMap e48))]), (1797, [(I (at_ a0.f1 x3).f0), (I (at_ a0.f1 x3).f1), (I (at_ a0.f1 x3).f2)])], [3 = 3 ∧ 0 + 1 ≤ 3, COK (hget [(256, [(S a0.f0), (.sl true a0.f1.length 3 (a0.f1.flatMap e48))]), (1797, [(I (at_ a0.f1 x3).f0), (I (at_ a0.f1 x3).f1), (I (at_ a0.f1 x3).f2)])]) [(I (at_ a0.f1 x3).f0), (I 0), (I 29)] ⟨38, [(I (at_ a0.f1 x3).f0), (I 0), (I 29)], [], (B x4), [], [], [], [], (B x4), []⟩, (B (!x4) : V) = B true], [⟨38, [(I (at_ a0.f1 x3).f0), (I 0), (I 29)], [], (B x4), [], [], [], [], (B x4), []⟩]⟩ [c_ 7461, c_ 3731, b_ 1, c_ 467, l_ 58, b_ 0, c_ 15] (alc ⟨rfl, by decide⟩ (alc (cok0 false (a2c (.z .s) (a2c (.z .s) (a2c (.z .s) a2n))) (.z .s) (fun h => absurd h (by decide))) (alc (bT (nT (vF c5))) aln))) (acal (spec_l01In.J ((at_ a0.f1 x3).f0) 0 29 _ hx4) nocal) ?_
          refine .cond' (.tmp 45) true [c_ 29844, c_ 29845, c_ 3731, b_ 1, c_ 467, l_ 58, b_ 0, c_ 15] (rfl) ?_
          refine .reg' [2] [] ⟨[(2, (B false))], [(256, [(S a0.f0), (.sl true a0.f1.length 3 (a0.f1.flatMap e48))]), (1797, [(I (at_ a0.f1 x3).f0), (I (at_ a0.f1 x3).f1), (I (at_ a0.f1 x3).f2)])], [], []⟩ [c_ 29845, c_ 3731, b_ 1, c_ 467, l_ 58, b_ 0, c_ 15] aln nocal ?_
          have h := Option.some.inj h
          subst h
          exact .fin0 [] (B false) [] aln (.z .s)
      · rw [if_neg c4] at h
        cases h
    · rw [if_neg c3] at h
      refine .cond' (.tmp 20) false [c_ 30, c_ 31] (bF (dF c3)) ?_
      refine .reg' [2] [] ⟨[(2, (B true))], [(256, [(S a0.f0), (.sl true a0.f1.length 3 (a0.f1.flatMap e48))])], [], []⟩ [c_ 31] aln nocal ?_
      have h := Option.some.inj h
      subst h
      exact .fin0 [] (B true) [] aln (.z .s)
theorem spec_TripOk.J (k : Nat) (a0 : S28) (r : Bool) (h : spec_TripOk.f k a0 = some r) : J prog (.call 31 [(.ag [(S a0.f0), (.sl true a0.f1.length 3 (a0.f1.flatMap e48))])] [] (B r) []) := by
  unfold spec_TripOk.f at h
  have ih0 := spec_TripOk.lab k
  refine .call' [c_ 2, c_ 3] ?_
  refine .reg' [1] [] ⟨[(1, (.pt 256 0 2))], [(256, [(S a0.f0), (.sl true a0.f1.length 3 (a0.f1.flatMap e48))])], [], []⟩ [c_ 12, c_ 13, c_ 7] aln nocal ?_
  obtain ⟨x1, hx1, h⟩ := Option.bind_eq_some_iff.mp h
  by_cases c1 : x1 = true
  · rw [if_pos c1] at h
    obtain ⟨x2, hx2, h⟩ := Option.bind_eq_some_iff.mp h
    refine .reg' [1, 15] [.no, .no, .c ⟨58, [(S a0.f0)], [], (B x1), [], [], [], [], (B x1), []⟩, .no, .v (B false), .no, .no, .no, .c ⟨38, [(I (a0.f1.length : Int)), (I 2), (I 12)], [], (B x2), [], [], [], [], (B x2), []⟩] ⟨[(1, (.pt 256 0 2)), (15, (B (!x2)))], [(256, [(S a0.f0), (.sl true a0.f1.length 3 (a0.f1.flatMap e48))])], [2 = 2 ∧ 0 + 1 ≤ 2, COK (hget [(256, [(S a0.f0), (.sl true a0.f1.length 3 (a0.f1.flatMap e48))])]) [(S a0.f0)] ⟨58, [(S a0.f0)], [], (B x1), [], [], [], [], (B x1), []⟩, (B (!x1) : V) = B false, 2 = 2 ∧ 1 + 1 ≤ 2, COK (hget [(256, [(S a0.f0), (.sl true a0.f1.length 3 (a0.f1.flatMap e48))])]) [(I (a0.f1.length : Int)), (I 2), (I 12)] ⟨38, [(I (a0.f1.length : Int)), (I 2), (I 12)], [], (B x2), [], [], [], [], (B x2), []⟩], [⟨58, [(S a0.f0)], [], (B x1), [], [], [], [], (B x1), []⟩, ⟨38, [(I (a0.f1.length : Int)), (I 2), (I 12)], [], (B x2), [], [], [], [], (B x2), []⟩]⟩ [c_ 13, c_ 7] (alc ⟨rfl, by decide⟩ (alc (cok0 false (a2c (.z .s) a2n) (.z .s) (fun h => absurd h (by decide))) (alc (bF (nF c1)) (alc ⟨rfl, by decide⟩ (alc (cok0 false (a2c (.z .s) (a2c (.z .s) (a2c (.z .s) a2n))) (.z .s) (fun h => absurd h (by decide))) aln))))) (acal (spec_l01Name.J k a0.f0 _ hx1) (acal (spec_l01In.J (a0.f1.length : Int) 2 12 _ hx2) nocal)) ?_
    by_cases c2 : x2 = true
    · rw [if_pos c2] at h
      refine .cond' (.tmp 15) false [c_ 28, c_ 29, c_ 15] (bF (nF c2)) ?_
      refine .reg' [1, 3] [] ⟨[(1, (.pt 256 0 2)), (3, (I 0))], [(256, [(S a0.f0), (.sl true a0.f1.length 3 (a0.f1.flatMap e48))])], [], []⟩ [l_ 58, b_ 0, c_ 15] aln nocal ?_
      exact ih0 a0 0 _ h
    · rw [if_neg c2] at h
      refine .cond' (.tmp 15) true [c_ 52, c_ 53, c_ 7] (bT (nT (vF c2))) ?_
      refine .reg' [2] [] ⟨[(2, (B false))], [(256, [(S a0.f0), (.sl true a0.f1.length 3 (a0.f1.flatMap e48))])], [], []⟩ [c_ 53, c_ 7] aln nocal ?_
      have h := Option.some.inj h
      subst h
      exact .fin0 [] (B false) [] aln (.z .s)
  · rw [if_neg c1] at h
    refine .reg' [1, 15] [.no, .no, .c ⟨58, [(S a0.f0)], [], (B x1), [], [], [], [], (B x1), []⟩, .no, .v (B true)] ⟨[(1, (.pt 256 0 2)), (15, (B true))], [(256, [(S a0.f0), (.sl true a0.f1.length 3 (a0.f1.flatMap e48))])], [2 = 2 ∧ 0 + 1 ≤ 2, COK (hget [(256, [(S a0.f0), (.sl true a0.f1.length 3 (a0.f1.flatMap e48))])]) [(S a0.f0)] ⟨58, [(S a0.f0)], [], (B x1), [], [], [], [], (B x1), []⟩, (B (!x1) : V) = B true], [⟨58, [(S a0.f0)], [], (B x1), [], [], [], [], (B x1), []⟩]⟩ [c_ 13, c_ 7] (alc ⟨rfl, by decide⟩ (alc (cok0 false (a2c (.z .s) a2n) (.z .s) (fun h => absurd h (by decide))) (alc (bT (nT (vF c1))) aln))) (acal (spec_l01Name.J k a0.f0 _ hx1) nocal) ?_
    refine .cond' (.tmp 15) true [c_ 52, c_ 53, c_ 7] (rfl) ?_
    refine .reg' [2] [] ⟨[(2, (B false))], [(256, [(S a0.f0), (.sl true a0.f1.length 3 (a0.f1.flatMap e48))])], [], []⟩ [c_ 53, c_ 7] aln nocal ?_
    have h := Option.some.inj h
    subst h
    exact .fin0 [] (B false) [] aln (.z .s)
/-! spec_Moved: function 39 -/
def spec_Moved.l0 : Nat → S28 → Int → (List S48) → Int → Option S28
 | 0, _, _, _, _ => none
 | k + 1, a0, a1, x3, x4 => (if x4 < (a0.f1.length : Int) then (if 0 ≤ x4 then (if (x3.length + ([(⟨(at_ a0.f1 x4).f0, (wrap64 ((at_ a0.f1 x4).f1 + a1)), (wrap64 ((at_ a0.f1 x4).f2 + a1))⟩ : S48)] : List S48).length) * 24 ≤ 70368744177664 then (spec_Moved.l0 k a0 a1 (x3 ++ ([(⟨(at_ a0.f1 x4).f0, (wrap64 ((at_ a0.f1 x4).f1 + a1)), (wrap64 ((at_ a0.f1 x4).f2 + a1))⟩ : S48)] : List S48)) (wrap64 (x4 + 1))) else none) else none) else ((spec_TripOk.f k (⟨a0.f0, x3⟩ : S28)).bind fun x5 => (if x5 = true then (some (⟨a0.f0, x3⟩ : S28)) else (some (⟨ByteArray.empty, ([] : List S48)⟩ : S28)))))
def spec_Moved.f (k : Nat) (a0 : S28) (a1 : Int) : Option S28 := ((spec_TripOk.f k a0).bind fun x1 => (if x1 = true then ((spec_l01In.f a1 (-100000) 100000).bind fun x2 => (if x2 = true then (spec_Moved.l0 k a0 a1 ([] : List S48) 0) else (some (⟨ByteArray.empty, ([] : List S48)⟩ : S28)))) else (some (⟨ByteArray.empty, ([] : List S48)⟩ : S28))))
theorem spec_Moved.lab : ∀ k, (∀ (a0 : S28) (a1 : Int) (x3 : (List S48)) (x4 : Int) (r : S28), spec_Moved.l0 k a0 a1 x3 x4 = some r → J prog (.run 39 [] [l_ 122, b_ 0, c_ 31] [(1, (I a1)), (2, (.pt 256 0 2)), (4, (.pt 257 0 2)), (5, (.pt 1027 0 2)), (6, (I x4))] [(3016433, (x3.flatMap e48)), (256, [(S a0.f0), (.sl true a0.f1.length 3 (a0.f1.flatMap e48))]), (257, [(S ByteArray.empty), nilS]), (1027, [(S a0.f0), (.rf 3016433 0 x3.length 3 (x3.length * 3))])] (.ag [(S r.f0), (.rf 3016433 0 r.f1.length 3 (r.f1.length * 3))]) [(3016433, (r.f1.flatMap e48))]))
 | 0 => (by intro a0 a1 x3 x4 r h; unfold spec_Moved.l0 at h; cases h)
 | k + 1 => by
  have ih0 := spec_Moved.lab k
  · intro a0 a1 x3 x4 r h
    unfold spec_Moved.l0 at h
    refine .loop' [c_ 976, c_ 977, c_ 489, l_ 122, b_ 0, c_ 31] ?_
    refine .reg' [1, 2, 4, 5, 6, 24] [] ⟨[(1, (I a1)), (2, (.pt 256 0 2)), (4, (.pt 257 0 2)), (5, (.pt 1027 0 2)), (6, (I x4)), (24, (B (decide (x4 < (a0.f1.length : Int)))))], [(3016433, (x3.flatMap e48)), (256, [(S a0.f0), (.sl true a0.f1.length 3 (a0.f1.flatMap e48))]), (257, [(S ByteArray.empty), nilS]), (1027, [(S a0.f0), (.rf 3016433 0 x3.length 3 (x3.length * 3))])], [2 = 2 ∧ 1 + 1 ≤ 2], []⟩ [c_ 977, c_ 489, l_ 122, b_ 0, c_ 31] (alc ⟨rfl, by decide⟩ aln) nocal ?_
    by_cases c3 : x4 < (a0.f1.length : Int)
    · rw [if_pos c3] at h
      refine .cond' (.tmp 24) true [c_ 3912, c_ 3913, b_ 1, c_ 979, l_ 122, b_ 0, c_ 31] (bT (dT c3)) ?_
      by_cases c4 : 0 ≤ x4
      · rw [if_pos c4] at h
        refine .reg' [1, 2, 4, 5, 6, 7] [.no, .no, .no, .no, .v (.ag [(I (at_ a0.f1 x4).f0), (I (at_ a0.f1 x4).f1), (I (at_ a0.f1 x4).f2)])] ⟨[(1, (I a1)), (2, (.pt 256 0 2)), (4, (.pt 257 0 2)), (5, (.pt 1027 0 2)), (6, (I x4)), (7, (.pt 2053 0 3))], [(3016433, (x3.flatMap e48)), (256, [(S a0.f0), (.sl true a0.f1.length 3 (a0.f1.flatMap e48))]), (257, [(S ByteArray.empty), nilS]), (1027, [(S a0.f0), (.rf 3016433 0 x3.length 3 (x3.length * 3))]), (2053, [(I (at_ a0.f1 x4).f0), (I (at_ a0.f1 x4).f1), (I (at_ a0.f1 x4).f2)])], [2 = 2 ∧ 1 + 1 ≤ 2, (0 : Int) ≤ x4 ∧ x4 < (a0.f1.length : Int), rdC prog 49 ((a0.f1.flatMap e48).drop (x4.toNat * 3)) = (.ag [(I (at_ a0.f1 x4).f0), (I (at_ a0.f1 x4).f1), (I (at_ a0.f1 x4).f2)]), 3 ≤ ((a0.f1.flatMap e48).drop (x4.toNat * 3)).length, 3 = 3 ∧ 0 + 3 ≤ 3], []⟩ [c_ 3913, b_ 1, c_ 979, l_ 122, b_ 0, c_ 31] (alc ⟨rfl, by decide⟩ (alc ⟨c4, c3⟩ (alc (ldA e48_ok rfl rfl c4 c3) (alc (okI e48_ok c4 c3 (by decide)) (alc ⟨rfl, by decide⟩ aln))))) nocal ?_
        by_cases c5 : (x3.length + ([(⟨(at_ a0.f1 x4).f0, (wrap64 ((at_ a0.f1 x4).f1 + a1)), (wrap64 ((at_ a0.f1 x4).f2 + a1))⟩ : S48)] : List S48).length) * 24 ≤ 70368744177664
        · rw [if_pos c5] at h
          refine .reg' [1, 2, 4, 5, 6] [.no, .no, .no, .no, .no, .no, .no, .no, .no, .no, .no, .no, .no, .no, .w (.rf 3016433 0 ((x3 ++ ([(⟨(at_ a0.f1 x4).f0, (wrap64 ((at_ a0.f1 x4).f1 + a1)), (wrap64 ((at_ a0.f1 x4).f2 + a1))⟩ : S48)] : List S48)).length) 3 ((x3 ++ ([(⟨(at_ a0.f1 x4).f0, (wrap64 ((at_ a0.f1 x4).f1 + a1)), (wrap64 ((at_ a0.f1 x4).f2 + a1))⟩ : S48)] : List S48)).length * 3)) ((x3 ++ ([(⟨(at_ a0.f1 x4).f0, (wrap64 ((at_ a0.f1 x4).f1 + a1)), (wrap64 ((at_ a0.f1 x4).f2 + a1))⟩ : S48)] : List S48)).flatMap e48)] ⟨[(1, (I a1)), (2, (.pt 256 0 2)), (4, (.pt 257 0 2)), (5, (.pt 1027 0 2)), (6, (I x4))], [(3016433, ((x3 ++ ([(⟨(at_ a0.f1 x4).f0, (wrap64 ((at_ a0.f1 x4).f1 + a1)), (wrap64 ((at_ a0.f1 x4).f2 + a1))⟩ : S48)] : List S48)).flatMap e48)), (256, [(S a0.f0), (.sl true a0.f1.length 3 (a0.f1.flatMap e48))]), (257, [(S ByteArray.empty), nilS]), (1027, [(S a0.f0), (.rf 3016433 0 ((x3 ++ ([(⟨(at_ a0.f1 x4).f0, (wrap64 ((at_ a0.f1 x4).f1 + a1)), (wrap64 ((at_ a0.f1 x4).f2 + a1))⟩ : S48)] : List S48)).length) 3 ((x3 ++ ([(⟨(at_ a0.f1 x4).f0, (wrap64 ((at_ a0.f1 x4).f1 + a1)), (wrap64 ((at_ a0.f1 x4).f2 + a1))⟩ : S48)] : List S48)).length * 3))]), (2053, [(I (at_ a0.f1 x4).f0), (I (at_ a0.f1 x4).f1), (I (at_ a0.f1 x4).f2)]), (2317, (([(⟨(at_ a0.f1 x4).f0, (wrap64 ((at_ a0.f1 x4).f1 + a1)), (wrap64 ((at_ a0.f1 x4).f2 + a1))⟩ : S48)] : List S48).flatMap e48))], [2 = 2 ∧ 1 + 1 ≤ 2, 3 = 3 ∧ 0 + 1 ≤ 3, 3 = 3 ∧ 1 + 1 ≤ 3, 3 = 3 ∧ 2 + 1 ≤ 3, V.rf 3016433 0 (x3.length + ([(⟨(at_ a0.f1 x4).f0, (wrap64 ((at_ a0.f1 x4).f1 + a1)), (wrap64 ((at_ a0.f1 x4).f2 + a1))⟩ : S48)] : List S48).length) 3 (x3.length * 3 + ([(⟨(at_ a0.f1 x4).f0, (wrap64 ((at_ a0.f1 x4).f1 + a1)), (wrap64 ((at_ a0.f1 x4).f2 + a1))⟩ : S48)] : List S48).length * 3) = (.rf 3016433 0 ((x3 ++ ([(⟨(at_ a0.f1 x4).f0, (wrap64 ((at_ a0.f1 x4).f1 + a1)), (wrap64 ((at_ a0.f1 x4).f2 + a1))⟩ : S48)] : List S48)).length) 3 ((x3 ++ ([(⟨(at_ a0.f1 x4).f0, (wrap64 ((at_ a0.f1 x4).f1 + a1)), (wrap64 ((at_ a0.f1 x4).f2 + a1))⟩ : S48)] : List S48)).length * 3)), x3.flatMap e48 ++ (((([(⟨(at_ a0.f1 x4).f0, (wrap64 ((at_ a0.f1 x4).f1 + a1)), (wrap64 ((at_ a0.f1 x4).f2 + a1))⟩ : S48)] : List S48).flatMap e48).drop 0).take (([(⟨(at_ a0.f1 x4).f0, (wrap64 ((at_ a0.f1 x4).f1 + a1)), (wrap64 ((at_ a0.f1 x4).f2 + a1))⟩ : S48)] : List S48).length * 3)) = ((x3 ++ ([(⟨(at_ a0.f1 x4).f0, (wrap64 ((at_ a0.f1 x4).f1 + a1)), (wrap64 ((at_ a0.f1 x4).f2 + a1))⟩ : S48)] : List S48)).flatMap e48), (([(⟨(at_ a0.f1 x4).f0, (wrap64 ((at_ a0.f1 x4).f1 + a1)), (wrap64 ((at_ a0.f1 x4).f2 + a1))⟩ : S48)] : List S48).length * 3 = (([(⟨(at_ a0.f1 x4).f0, (wrap64 ((at_ a0.f1 x4).f1 + a1)), (wrap64 ((at_ a0.f1 x4).f2 + a1))⟩ : S48)] : List S48).flatMap e48).length ∧ 0 + ([(⟨(at_ a0.f1 x4).f0, (wrap64 ((at_ a0.f1 x4).f1 + a1)), (wrap64 ((at_ a0.f1 x4).f2 + a1))⟩ : S48)] : List S48).length * 3 ≤ (([(⟨(at_ a0.f1 x4).f0, (wrap64 ((at_ a0.f1 x4).f1 + a1)), (wrap64 ((at_ a0.f1 x4).f2 + a1))⟩ : S48)] : List S48).flatMap e48).length) ∧ x3.length * 3 = (x3.flatMap e48).length ∧ x3.length * 3 = (x3.flatMap e48).length ∧ (x3.length + ([(⟨(at_ a0.f1 x4).f0, (wrap64 ((at_ a0.f1 x4).f1 + a1)), (wrap64 ((at_ a0.f1 x4).f2 + a1))⟩ : S48)] : List S48).length) * 24 ≤ 70368744177664, 2 = 2 ∧ 1 + 1 ≤ 2], []⟩ [c_ 979, l_ 122, b_ 0, c_ 31] (alc ⟨rfl, by decide⟩ (alc ⟨rfl, by decide⟩ (alc ⟨rfl, by decide⟩ (alc ⟨rfl, by decide⟩ (alc (apV rfl) (alc (apR e48_ok rfl) (alc (apO e48_ok rfl c5 rfl) (alc ⟨rfl, by decide⟩ aln)))))))) nocal ?_
          refine .reg' [1, 2, 4, 5, 6] [] ⟨[(1, (I a1)), (2, (.pt 256 0 2)), (4, (.pt 257 0 2)), (5, (.pt 1027 0 2)), (6, (I (wrap64 (x4 + 1))))], [(3016433, ((x3 ++ ([(⟨(at_ a0.f1 x4).f0, (wrap64 ((at_ a0.f1 x4).f1 + a1)), (wrap64 ((at_ a0.f1 x4).f2 + a1))⟩ : S48)] : List S48)).flatMap e48)), (256, [(S a0.f0), (.sl true a0.f1.length 3 (a0.f1.flatMap e48))]), (257, [(S ByteArray.empty), nilS]), (1027, [(S a0.f0), (.rf 3016433 0 ((x3 ++ ([(⟨(at_ a0.f1 x4).f0, (wrap64 ((at_ a0.f1 x4).f1 + a1)), (wrap64 ((at_ a0.f1 x4).f2 + a1))⟩ : S48)] : List S48)).length) 3 ((x3 ++ ([(⟨(at_ a0.f1 x4).f0, (wrap64 ((at_ a0.f1 x4).f1 + a1)), (wrap64 ((at_ a0.f1 x4).f2 + a1))⟩ : S48)] : List S48)).length * 3))]), (2053, [(I (at_ a0.f1 x4).f0), (I (at_ a0.f1 x4).f1), (I (at_ a0.f1 x4).f2)]), (2317, (([(⟨(at_ a0.f1 x4).f0, (wrap64 ((at_ a0.f1 x4).f1 + a1)), (wrap64 ((at_ a0.f1 x4).f2 + a1))⟩ : S48)] : List S48).flatMap e48))], [], []⟩ [l_ 122, b_ 0, c_ 31] aln nocal ?_
          refine .wk' [] [(3016433, 3016433), (256, 256), (257, 257), (1027, 1027)] [(1, (I a1)), (2, (.pt 256 0 2)), (4, (.pt 257 0 2)), (5, (.pt 1027 0 2)), (6, (I (wrap64 (x4 + 1))))] [(3016433, ((x3 ++ ([(⟨(at_ a0.f1 x4).f0, (wrap64 ((at_ a0.f1 x4).f1 + a1)), (wrap64 ((at_ a0.f1 x4).f2 + a1))⟩ : S48)] : List S48)).flatMap e48)), (256, [(S a0.f0), (.sl true a0.f1.length 3 (a0.f1.flatMap e48))]), (257, [(S ByteArray.empty), nilS]), (1027, [(S a0.f0), (.rf 3016433 0 ((x3 ++ ([(⟨(at_ a0.f1 x4).f0, (wrap64 ((at_ a0.f1 x4).f1 + a1)), (wrap64 ((at_ a0.f1 x4).f2 + a1))⟩ : S48)] : List S48)).length) 3 ((x3 ++ ([(⟨(at_ a0.f1 x4).f0, (wrap64 ((at_ a0.f1 x4).f1 + a1)), (wrap64 ((at_ a0.f1 x4).f2 + a1))⟩ : S48)] : List S48)).length * 3))])] (shc 3016433 (rowF e48_ok _) (shc 256 (a2c (.z .s) (a2c (.z (frz_sl e48_ok (fun h => h))) a2n)) (shc 257 (a2c (.z .s) (a2c (.z .s) a2n)) (shc 1027 (a2c (.z .s) (a2c (.rf (memP_mem (p := (3016433, 3016433)) rfl)) a2n)) shn)))) (enc_ (.z .s) (enc_ (.pt (memP_mem (p := (256, 256)) rfl)) (enc_ (.pt (memP_mem (p := (257, 257)) rfl)) (enc_ (.pt (memP_mem (p := (1027, 1027)) rfl)) (enc_ (.z .s) enn))))) ?_
          exact ih0 a0 a1 (x3 ++ ([(⟨(at_ a0.f1 x4).f0, (wrap64 ((at_ a0.f1 x4).f1 + a1)), (wrap64 ((at_ a0.f1 x4).f2 + a1))⟩ : S48)] : List S48)) (wrap64 (x4 + 1)) _ h
        · rw [if_neg c5] at h
          cases h
      · rw [if_neg c4] at h
        cases h
    · rw [if_neg c3] at h
      refine .cond' (.tmp 24) false [c_ 124, c_ 125, c_ 63] (bF (dF c3)) ?_
      obtain ⟨x5, hx5, h⟩ := Option.bind_eq_some_iff.mp h
      refine .reg' [4, 5, 50] [.no, .c ⟨31, [(.ag [(S a0.f0), (.sl true x3.length 3 (x3.flatMap e48))])], [], (B x5), [], [3016433], [], [], (B x5), []⟩] ⟨[(4, (.pt 257 0 2)), (5, (.pt 1027 0 2)), (50, (B (!x5)))], [(3016433, (x3.flatMap e48)), (256, [(S a0.f0), (.sl true a0.f1.length 3 (a0.f1.flatMap e48))]), (257, [(S ByteArray.empty), nilS]), (1027, [(S a0.f0), (.rf 3016433 0 x3.length 3 (x3.length * 3))])], [2 = 2 ∧ 0 + 2 ≤ 2, COK (hget [(3016433, (x3.flatMap e48)), (256, [(S a0.f0), (.sl true a0.f1.length 3 (a0.f1.flatMap e48))]), (257, [(S ByteArray.empty), nilS]), (1027, [(S a0.f0), (.rf 3016433 0 x3.length 3 (x3.length * 3))])]) [(.ag [(S a0.f0), (.rf 3016433 0 x3.length 3 (x3.length * 3))])] ⟨31, [(.ag [(S a0.f0), (.sl true x3.length 3 (x3.flatMap e48))])], [], (B x5), [], [3016433], [], [], (B x5), []⟩], [⟨31, [(.ag [(S a0.f0), (.sl true x3.length 3 (x3.flatMap e48))])], [], (B x5), [], [3016433], [], [], (B x5), []⟩]⟩ [c_ 125, c_ 63] (alc ⟨rfl, by decide⟩ (alc (cok0 false (a2c (cnv_ag (a2c (.z .s) (a2c (.z (frz_rf (k := 3016433) e48_ok (by simp) rfl rfl (row_len e48_ok _).symm)) a2n))) a2n) (.z .s) (fun h => absurd h (by decide))) aln)) (acal (spec_TripOk.J k (⟨a0.f0, x3⟩ : S28) _ hx5) nocal) ?_
      by_cases c6 : x5 = true
      · rw [if_pos c6] at h
        refine .cond' (.tmp 50) false [c_ 126, c_ 127] (bF (nF c6)) ?_
        refine .reg' [4] [] ⟨[(4, (.pt 257 0 2))], [(3016433, (x3.flatMap e48)), (256, [(S a0.f0), (.sl true a0.f1.length 3 (a0.f1.flatMap e48))]), (257, [(S a0.f0), (.rf 3016433 0 x3.length 3 (x3.length * 3))]), (1027, [(S a0.f0), (.rf 3016433 0 x3.length 3 (x3.length * 3))])], [2 = 2 ∧ 0 + 2 ≤ 2, 2 = 2 ∧ 0 + 2 ≤ 2], []⟩ [c_ 127] (alc ⟨rfl, by decide⟩ (alc ⟨rfl, by decide⟩ aln)) nocal ?_
        have h := Option.some.inj h
        subst h
        exact .fin' [] [(3016433, 3016433)] (.ag [(S a0.f0), (.rf 3016433 0 x3.length 3 (x3.length * 3))]) [2 = 2 ∧ 0 + 2 ≤ 2] (alc ⟨rfl, by decide⟩ aln) (shc 3016433 (rowF e48_ok _) shn) (cnv_ag (a2c (.z .s) (a2c (.rf (memP_mem (p := (3016433, 3016433)) rfl)) a2n)))
      · rw [if_neg c6] at h
        refine .cond' (.tmp 50) true [c_ 500, c_ 501, c_ 63] (bT (nT (vF c6))) ?_
        refine .reg' [4] [] ⟨[(4, (.pt 257 0 2))], [(3016433, (x3.flatMap e48)), (256, [(S a0.f0), (.sl true a0.f1.length 3 (a0.f1.flatMap e48))]), (257, [(S ByteArray.empty), nilS]), (1027, [(S a0.f0), (.rf 3016433 0 x3.length 3 (x3.length * 3))])], [2 = 2 ∧ 0 + 2 ≤ 2], []⟩ [c_ 501, c_ 63] (alc ⟨rfl, by decide⟩ aln) nocal ?_
        have h := Option.some.inj h
        subst h
        refine .nl' 3016434 ?_
        exact .fin' [] [(3016434, 3016433)] (.ag [(S ByteArray.empty), nilS]) [2 = 2 ∧ 0 + 2 ≤ 2] (alc ⟨rfl, by decide⟩ aln) (shc 3016434 (rowF e48_ok _) shn) (cnv_ag (a2c (.z .s) (a2c (.nl (memP_mem (p := (3016434, 3016433)) rfl) rfl) a2n)))
theorem spec_Moved.J (k : Nat) (a0 : S28) (a1 : Int) (r : S28) (h : spec_Moved.f k a0 a1 = some r) : J prog (.call 39 [(.ag [(S a0.f0), (.sl true a0.f1.length 3 (a0.f1.flatMap e48))]), (I a1)] [] (.ag [(S r.f0), (.rf 3016433 0 r.f1.length 3 (r.f1.length * 3))]) [(3016433, (r.f1.flatMap e48))]) := by
  unfold spec_Moved.f at h
  have ih0 := spec_Moved.lab k
  refine .call' [c_ 2, c_ 3] ?_
  refine .reg' [1, 2, 4] [] ⟨[(1, (I a1)), (2, (.pt 256 0 2)), (4, (.pt 257 0 2))], [(256, [(S a0.f0), (.sl true a0.f1.length 3 (a0.f1.flatMap e48))]), (257, [(S ByteArray.empty), nilS])], [], []⟩ [c_ 12, c_ 13, c_ 7] aln nocal ?_
  obtain ⟨x1, hx1, h⟩ := Option.bind_eq_some_iff.mp h
  by_cases c1 : x1 = true
  · rw [if_pos c1] at h
    obtain ⟨x2, hx2, h⟩ := Option.bind_eq_some_iff.mp h
    refine .reg' [1, 2, 4, 15] [.no, .c ⟨31, [(.ag [(S a0.f0), (.sl true a0.f1.length 3 (a0.f1.flatMap e48))])], [], (B x1), [], [], [], [], (B x1), []⟩, .no, .v (B false), .no, .c ⟨38, [(I a1), (I (-100000)), (I 100000)], [], (B x2), [], [], [], [], (B x2), []⟩] ⟨[(1, (I a1)), (2, (.pt 256 0 2)), (4, (.pt 257 0 2)), (15, (B (!x2)))], [(256, [(S a0.f0), (.sl true a0.f1.length 3 (a0.f1.flatMap e48))]), (257, [(S ByteArray.empty), nilS])], [2 = 2 ∧ 0 + 2 ≤ 2, COK (hget [(256, [(S a0.f0), (.sl true a0.f1.length 3 (a0.f1.flatMap e48))]), (257, [(S ByteArray.empty), nilS])]) [(.ag [(S a0.f0), (.sl true a0.f1.length 3 (a0.f1.flatMap e48))])] ⟨31, [(.ag [(S a0.f0), (.sl true a0.f1.length 3 (a0.f1.flatMap e48))])], [], (B x1), [], [], [], [], (B x1), []⟩, (B (!x1) : V) = B false, COK (hget [(256, [(S a0.f0), (.sl true a0.f1.length 3 (a0.f1.flatMap e48))]), (257, [(S ByteArray.empty), nilS])]) [(I a1), (I (-100000)), (I 100000)] ⟨38, [(I a1), (I (-100000)), (I 100000)], [], (B x2), [], [], [], [], (B x2), []⟩], [⟨31, [(.ag [(S a0.f0), (.sl true a0.f1.length 3 (a0.f1.flatMap e48))])], [], (B x1), [], [], [], [], (B x1), []⟩, ⟨38, [(I a1), (I (-100000)), (I 100000)], [], (B x2), [], [], [], [], (B x2), []⟩]⟩ [c_ 13, c_ 7] (alc ⟨rfl, by decide⟩ (alc (cok0 false (a2c (.z (frz_ag (a2c .s (a2c (frz_sl e48_ok (fun h => h)) a2n)))) a2n) (.z .s) (fun h => absurd h (by decide))) (alc (bF (nF c1)) (alc (cok0 false (a2c (.z .s) (a2c (.z .s) (a2c (.z .s) a2n))) (.z .s) (fun h => absurd h (by decide))) aln)))) (acal (spec_TripOk.J k a0 _ hx1) (acal (spec_l01In.J a1 (-100000) 100000 _ hx2) nocal)) ?_
    by_cases c2 : x2 = true
    · rw [if_pos c2] at h
      refine .cond' (.tmp 15) false [c_ 14, c_ 15] (bF (nF c2)) ?_
      refine .reg' [1, 2, 4, 5] [] ⟨[(1, (I a1)), (2, (.pt 256 0 2)), (4, (.pt 257 0 2)), (5, (.pt 1027 0 2))], [(256, [(S a0.f0), (.sl true a0.f1.length 3 (a0.f1.flatMap e48))]), (257, [(S ByteArray.empty), nilS]), (1027, [(S a0.f0), nilS])], [2 = 2 ∧ 0 + 1 ≤ 2, 2 = 2 ∧ 0 + 2 ≤ 2], []⟩ [c_ 60, c_ 61, c_ 31] (alc ⟨rfl, by decide⟩ (alc ⟨rfl, by decide⟩ aln)) nocal ?_
      refine .reg' [1, 2, 4, 5, 6] [] ⟨[(1, (I a1)), (2, (.pt 256 0 2)), (4, (.pt 257 0 2)), (5, (.pt 1027 0 2)), (6, (I 0))], [(256, [(S a0.f0), (.sl true a0.f1.length 3 (a0.f1.flatMap e48))]), (257, [(S ByteArray.empty), nilS]), (1027, [(S a0.f0), nilS])], [], []⟩ [l_ 122, b_ 0, c_ 31] aln nocal ?_
      refine .nl' 3016433 ?_
      refine .wk' [] [(3016433, 3016433), (256, 256), (257, 257), (1027, 1027)] [(1, (I a1)), (2, (.pt 256 0 2)), (4, (.pt 257 0 2)), (5, (.pt 1027 0 2)), (6, (I 0))] [(3016433, (([] : List S48).flatMap e48)), (256, [(S a0.f0), (.sl true a0.f1.length 3 (a0.f1.flatMap e48))]), (257, [(S ByteArray.empty), nilS]), (1027, [(S a0.f0), (.rf 3016433 0 (([] : List S48).length) 3 (([] : List S48).length * 3))])] (shc 3016433 (rowF e48_ok _) (shc 256 (a2c (.z .s) (a2c (.z (frz_sl e48_ok (fun h => h))) a2n)) (shc 257 (a2c (.z .s) (a2c (.z .s) a2n)) (shc 1027 (a2c (.z .s) (a2c (.nl (memP_mem (p := (3016433, 3016433)) rfl) rfl) a2n)) shn)))) (enc_ (.z .s) (enc_ (.pt (memP_mem (p := (256, 256)) rfl)) (enc_ (.pt (memP_mem (p := (257, 257)) rfl)) (enc_ (.pt (memP_mem (p := (1027, 1027)) rfl)) (enc_ (.z .s) enn))))) ?_
      exact ih0 a0 a1 ([] : List S48) 0 _ h
    · rw [if_neg c2] at h
      refine .cond' (.tmp 15) true [c_ 52, c_ 53, c_ 7] (bT (nT (vF c2))) ?_
      refine .reg' [4] [] ⟨[(4, (.pt 257 0 2))], [(256, [(S a0.f0), (.sl true a0.f1.length 3 (a0.f1.flatMap e48))]), (257, [(S ByteArray.empty), nilS])], [2 = 2 ∧ 0 + 2 ≤ 2], []⟩ [c_ 53, c_ 7] (alc ⟨rfl, by decide⟩ aln) nocal ?_
      have h := Option.some.inj h
      subst h
      refine .nl' 3016433 ?_
      exact .fin' [] [(3016433, 3016433)] (.ag [(S ByteArray.empty), nilS]) [2 = 2 ∧ 0 + 2 ≤ 2] (alc ⟨rfl, by decide⟩ aln) (shc 3016433 (rowF e48_ok _) shn) (cnv_ag (a2c (.z .s) (a2c (.nl (memP_mem (p := (3016433, 3016433)) rfl) rfl) a2n)))
  · rw [if_neg c1] at h
    refine .reg' [1, 2, 4, 15] [.no, .c ⟨31, [(.ag [(S a0.f0), (.sl true a0.f1.length 3 (a0.f1.flatMap e48))])], [], (B x1), [], [], [], [], (B x1), []⟩, .no, .v (B true)] ⟨[(1, (I a1)), (2, (.pt 256 0 2)), (4, (.pt 257 0 2)), (15, (B true))], [(256, [(S a0.f0), (.sl true a0.f1.length 3 (a0.f1.flatMap e48))]), (257, [(S ByteArray.empty), nilS])], [2 = 2 ∧ 0 + 2 ≤ 2, COK (hget [(256, [(S a0.f0), (.sl true a0.f1.length 3 (a0.f1.flatMap e48))]), (257, [(S ByteArray.empty), nilS])]) [(.ag [(S a0.f0), (.sl true a0.f1.length 3 (a0.f1.flatMap e48))])] ⟨31, [(.ag [(S a0.f0), (.sl true a0.f1.length 3 (a0.f1.flatMap e48))])], [], (B x1), [], [], [], [], (B x1), []⟩, (B (!x1) : V) = B true], [⟨31, [(.ag [(S a0.f0), (.sl true a0.f1.length 3 (a0.f1.flatMap e48))])], [], (B x1), [], [], [], [], (B x1), []⟩]⟩ [c_ 13, c_ 7] (alc ⟨rfl, by decide⟩ (alc (cok0 false (a2c (.z (frz_ag (a2c .s (a2c (frz_sl e48_ok (fun h => h)) a2n)))) a2n) (.z .s) (fun h => absurd h (by decide))) (alc (bT (nT (vF c1))) aln))) (acal (spec_TripOk.J k a0 _ hx1) nocal) ?_
    refine .cond' (.tmp 15) true [c_ 52, c_ 53, c_ 7] (rfl) ?_
    refine .reg' [4] [] ⟨[(4, (.pt 257 0 2))], [(256, [(S a0.f0), (.sl true a0.f1.length 3 (a0.f1.flatMap e48))]), (257, [(S ByteArray.empty), nilS])], [2 = 2 ∧ 0 + 2 ≤ 2], []⟩ [c_ 53, c_ 7] (alc ⟨rfl, by decide⟩ aln) nocal ?_
    have h := Option.some.inj h
    subst h
    refine .nl' 3016433 ?_
    exact .fin' [] [(3016433, 3016433)] (.ag [(S ByteArray.empty), nilS]) [2 = 2 ∧ 0 + 2 ≤ 2] (alc ⟨rfl, by decide⟩ aln) (shc 3016433 (rowF e48_ok _) shn) (cnv_ag (a2c (.z .s) (a2c (.nl (memP_mem (p := (3016433, 3016433)) rfl) rfl) a2n)))
/-! spec_l01Num: function 32 -/
def spec_l01Num.l0 : Nat → Int → Int → ByteArray → Option ByteArray
 | 0, _, _, _ => none
 | k + 1, a0, x1, x2 => (if x1 = 0 then (if a0 < 0 then (if (⟨#[45]⟩ : ByteArray).size + x2.size ≤ 9223372036854775807 then (some ((⟨#[45]⟩ : ByteArray) ++ x2)) else none) else (some x2)) else (if (x1.tmod (10 : Int)) < 0 then (if (⟨#[UInt8.ofNat (IntKind.u8.wrap (wrap64 (48 + (wrap64 (-(x1.tmod (10 : Int))))))).toNat]⟩ : ByteArray).size + x2.size ≤ 9223372036854775807 then (spec_l01Num.l0 k a0 (wrap64 (x1.tdiv (10 : Int))) ((⟨#[UInt8.ofNat (IntKind.u8.wrap (wrap64 (48 + (wrap64 (-(x1.tmod (10 : Int))))))).toNat]⟩ : ByteArray) ++ x2)) else none) else (if (⟨#[UInt8.ofNat (IntKind.u8.wrap (wrap64 (48 + (x1.tmod (10 : Int))))).toNat]⟩ : ByteArray).size + x2.size ≤ 9223372036854775807 then (spec_l01Num.l0 k a0 (wrap64 (x1.tdiv (10 : Int))) ((⟨#[UInt8.ofNat (IntKind.u8.wrap (wrap64 (48 + (x1.tmod (10 : Int))))).toNat]⟩ : ByteArray) ++ x2)) else none)))
def spec_l01Num.f (k : Nat) (a0 : Int) : Option ByteArray := (if a0 = 0 then (some (⟨#[48]⟩ : ByteArray)) else (spec_l01Num.l0 k a0 a0 (⟨#[]⟩ : ByteArray)))
theorem spec_l01Num.lab : ∀ k, (∀ (a0 : Int) (x1 : Int) (x2 : ByteArray) (r : ByteArray), spec_l01Num.l0 k a0 x1 x2 = some r → J prog (.run 32 [] [l_ 124, b_ 0, c_ 63] [(0, (I x1)), (3, (S x2)), (4, (B (decide (a0 < 0))))] [] (S r) []))
 | 0 => (by intro a0 x1 x2 r h; unfold spec_l01Num.l0 at h; cases h)
 | k + 1 => by
  have ih0 := spec_l01Num.lab k
  · intro a0 x1 x2 r h
    unfold spec_l01Num.l0 at h
    refine .loop' [c_ 992, c_ 993, c_ 497, l_ 124, b_ 0, c_ 63] ?_
    refine .reg' [0, 3, 4, 11] [] ⟨[(0, (I x1)), (3, (S x2)), (4, (B (decide (a0 < 0)))), (11, (B (!(x1 == 0))))], [], [], []⟩ [c_ 993, c_ 497, l_ 124, b_ 0, c_ 63] aln nocal ?_
    by_cases c2 : x1 = 0
    · rw [if_pos c2] at h
      refine .cond' (.tmp 11) false [c_ 252, c_ 253, c_ 127] (bF (nF (qT c2))) ?_
      refine .reg' [3, 27] [] ⟨[(3, (S x2)), (27, (B (decide (a0 < 0))))], [], [], []⟩ [c_ 253, c_ 127] aln nocal ?_
      by_cases c3 : a0 < 0
      · rw [if_pos c3] at h
        refine .cond' (.tmp 27) true [c_ 1012, c_ 1013, c_ 127] (bT (dT c3)) ?_
        by_cases c4 : (⟨#[45]⟩ : ByteArray).size + x2.size ≤ 9223372036854775807
        · rw [if_pos c4] at h
          refine .reg' [2] [] ⟨[(2, (S ((⟨#[45]⟩ : ByteArray) ++ x2)))], [], [(⟨#[45]⟩ : ByteArray).size + x2.size ≤ 9223372036854775807], []⟩ [c_ 1013, c_ 127] (alc c4 aln) nocal ?_
          have h := Option.some.inj h
          subst h
          exact .fin0 [] (S ((⟨#[45]⟩ : ByteArray) ++ x2)) [] aln (.z .s)
        · rw [if_neg c4] at h
          cases h
      · rw [if_neg c3] at h
        refine .cond' (.tmp 27) false [c_ 254, c_ 255] (bF (dF c3)) ?_
        refine .reg' [2] [] ⟨[(2, (S x2))], [], [], []⟩ [c_ 255] aln nocal ?_
        have h := Option.some.inj h
        subst h
        exact .fin0 [] (S x2) [] aln (.z .s)
    · rw [if_neg c2] at h
      refine .cond' (.tmp 11) true [c_ 1988, c_ 1989, b_ 1, l_ 124, b_ 0, c_ 63] (bT (nT (qF c2))) ?_
      refine .reg' [0, 3, 4, 5] [] ⟨[(0, (I x1)), (3, (S x2)), (4, (B (decide (a0 < 0)))), (5, (I (x1.tmod (10 : Int))))], [], [(10 : Int) ≠ 0], []⟩ [c_ 7956, c_ 7957, c_ 3979, b_ 1, l_ 124, b_ 0, c_ 63] (alc (by decide) aln) nocal ?_
      refine .reg' [0, 3, 4, 5, 15] [] ⟨[(0, (I x1)), (3, (S x2)), (4, (B (decide (a0 < 0)))), (5, (I (x1.tmod (10 : Int)))), (15, (B (decide ((x1.tmod (10 : Int)) < 0))))], [], [], []⟩ [c_ 7957, c_ 3979, b_ 1, l_ 124, b_ 0, c_ 63] aln nocal ?_
      by_cases c5 : (x1.tmod (10 : Int)) < 0
      · rw [if_pos c5] at h
        refine .cond' (.tmp 15) true [c_ 15914, c_ 3979, b_ 1, l_ 124, b_ 0, c_ 63] (bT (dT c5)) ?_
        refine .reg' [0, 3, 4, 5] [.no, .v (I (wrap64 (-(x1.tmod (10 : Int)))))] ⟨[(0, (I x1)), (3, (S x2)), (4, (B (decide (a0 < 0)))), (5, (I (wrap64 (-(x1.tmod (10 : Int))))))], [], [(I (IntKind.i64.wrap (0 - (x1.tmod (10 : Int)))) : V) = I (wrap64 (-(x1.tmod (10 : Int))))], []⟩ [c_ 7958, c_ 7959, b_ 1, l_ 124, b_ 0, c_ 63] (alc (negI _) aln) nocal ?_
        by_cases c6 : (⟨#[UInt8.ofNat (IntKind.u8.wrap (wrap64 (48 + (wrap64 (-(x1.tmod (10 : Int))))))).toNat]⟩ : ByteArray).size + x2.size ≤ 9223372036854775807
        · rw [if_pos c6] at h
          refine .reg' [0, 3, 4] [] ⟨[(0, (I x1)), (3, (S ((⟨#[UInt8.ofNat (IntKind.u8.wrap (wrap64 (48 + (wrap64 (-(x1.tmod (10 : Int))))))).toNat]⟩ : ByteArray) ++ x2))), (4, (B (decide (a0 < 0))))], [(2563, (([(IntKind.u8.wrap (wrap64 (48 + (wrap64 (-(x1.tmod (10 : Int)))))))] : List Int).flatMap encU))], [([(IntKind.u8.wrap (wrap64 (48 + (wrap64 (-(x1.tmod (10 : Int)))))))] : List Int).length * 1 = (([(IntKind.u8.wrap (wrap64 (48 + (wrap64 (-(x1.tmod (10 : Int)))))))] : List Int).flatMap encU).length ∧ 0 + ([(IntKind.u8.wrap (wrap64 (48 + (wrap64 (-(x1.tmod (10 : Int)))))))] : List Int).length ≤ (([(IntKind.u8.wrap (wrap64 (48 + (wrap64 (-(x1.tmod (10 : Int)))))))] : List Int).flatMap encU).length, (⟨#[UInt8.ofNat (IntKind.u8.wrap (wrap64 (48 + (wrap64 (-(x1.tmod (10 : Int))))))).toNat]⟩ : ByteArray).size + x2.size ≤ 9223372036854775807], []⟩ [c_ 7959, b_ 1, l_ 124, b_ 0, c_ 63] (alc ⟨rfl, Nat.le_of_ble_eq_true rfl⟩ (alc c6 aln)) nocal ?_
          refine .reg' [0, 3, 4] [] ⟨[(0, (I (wrap64 (x1.tdiv (10 : Int))))), (3, (S ((⟨#[UInt8.ofNat (IntKind.u8.wrap (wrap64 (48 + (wrap64 (-(x1.tmod (10 : Int))))))).toNat]⟩ : ByteArray) ++ x2))), (4, (B (decide (a0 < 0))))], [(2563, (([(IntKind.u8.wrap (wrap64 (48 + (wrap64 (-(x1.tmod (10 : Int)))))))] : List Int).flatMap encU))], [(10 : Int) ≠ 0], []⟩ [l_ 124, b_ 0, c_ 63] (alc (by decide) aln) nocal ?_
          refine .wk' [] [] [(0, (I (wrap64 (x1.tdiv (10 : Int))))), (3, (S ((⟨#[UInt8.ofNat (IntKind.u8.wrap (wrap64 (48 + (wrap64 (-(x1.tmod (10 : Int))))))).toNat]⟩ : ByteArray) ++ x2))), (4, (B (decide (a0 < 0))))] [] shn (enc_ (.z .s) (enc_ (.z .s) (enc_ (.z .s) enn))) ?_
          exact ih0 a0 (wrap64 (x1.tdiv (10 : Int))) ((⟨#[UInt8.ofNat (IntKind.u8.wrap (wrap64 (48 + (wrap64 (-(x1.tmod (10 : Int))))))).toNat]⟩ : ByteArray) ++ x2) _ h
        · rw [if_neg c6] at h
          cases h
      · rw [if_neg c5] at h
        refine .cond' (.tmp 15) false [c_ 7958, c_ 7959, b_ 1, l_ 124, b_ 0, c_ 63] (bF (dF c5)) ?_
        by_cases c7 : (⟨#[UInt8.ofNat (IntKind.u8.wrap (wrap64 (48 + (x1.tmod (10 : Int))))).toNat]⟩ : ByteArray).size + x2.size ≤ 9223372036854775807
        · rw [if_pos c7] at h
          refine .reg' [0, 3, 4] [] ⟨[(0, (I x1)), (3, (S ((⟨#[UInt8.ofNat (IntKind.u8.wrap (wrap64 (48 + (x1.tmod (10 : Int))))).toNat]⟩ : ByteArray) ++ x2))), (4, (B (decide (a0 < 0))))], [(2563, (([(IntKind.u8.wrap (wrap64 (48 + (x1.tmod (10 : Int)))))] : List Int).flatMap encU))], [([(IntKind.u8.wrap (wrap64 (48 + (x1.tmod (10 : Int)))))] : List Int).length * 1 = (([(IntKind.u8.wrap (wrap64 (48 + (x1.tmod (10 : Int)))))] : List Int).flatMap encU).length ∧ 0 + ([(IntKind.u8.wrap (wrap64 (48 + (x1.tmod (10 : Int)))))] : List Int).length ≤ (([(IntKind.u8.wrap (wrap64 (48 + (x1.tmod (10 : Int)))))] : List Int).flatMap encU).length, (⟨#[UInt8.ofNat (IntKind.u8.wrap (wrap64 (48 + (x1.tmod (10 : Int))))).toNat]⟩ : ByteArray).size + x2.size ≤ 9223372036854775807], []⟩ [c_ 7959, b_ 1, l_ 124, b_ 0, c_ 63] (alc ⟨rfl, Nat.le_of_ble_eq_true rfl⟩ (alc c7 aln)) nocal ?_
          refine .reg' [0, 3, 4] [] ⟨[(0, (I (wrap64 (x1.tdiv (10 : Int))))), (3, (S ((⟨#[UInt8.ofNat (IntKind.u8.wrap (wrap64 (48 + (x1.tmod (10 : Int))))).toNat]⟩ : ByteArray) ++ x2))), (4, (B (decide (a0 < 0))))], [(2563, (([(IntKind.u8.wrap (wrap64 (48 + (x1.tmod (10 : Int)))))] : List Int).flatMap encU))], [(10 : Int) ≠ 0], []⟩ [l_ 124, b_ 0, c_ 63] (alc (by decide) aln) nocal ?_
          refine .wk' [] [] [(0, (I (wrap64 (x1.tdiv (10 : Int))))), (3, (S ((⟨#[UInt8.ofNat (IntKind.u8.wrap (wrap64 (48 + (x1.tmod (10 : Int))))).toNat]⟩ : ByteArray) ++ x2))), (4, (B (decide (a0 < 0))))] [] shn (enc_ (.z .s) (enc_ (.z .s) (enc_ (.z .s) enn))) ?_
          exact ih0 a0 (wrap64 (x1.tdiv (10 : Int))) ((⟨#[UInt8.ofNat (IntKind.u8.wrap (wrap64 (48 + (x1.tmod (10 : Int))))).toNat]⟩ : ByteArray) ++ x2) _ h
        · rw [if_neg c7] at h
          cases h
theorem spec_l01Num.J (k : Nat) (a0 : Int) (r : ByteArray) (h : spec_l01Num.f k a0 = some r) : J prog (.call 32 [(I a0)] [] (S r) []) := by
  unfold spec_l01Num.f at h
  have ih0 := spec_l01Num.lab k
  refine .call' [c_ 2, c_ 3] ?_
  refine .reg' [0] [] ⟨[(0, (I a0))], [], [], []⟩ [c_ 12, c_ 13, c_ 7] aln nocal ?_
  refine .reg' [0, 7] [] ⟨[(0, (I a0)), (7, (B (a0 == 0)))], [], [], []⟩ [c_ 13, c_ 7] aln nocal ?_
  by_cases c1 : a0 = 0
  · rw [if_pos c1] at h
    refine .cond' (.tmp 7) true [c_ 52, c_ 53, c_ 7] (bT (qT c1)) ?_
    refine .reg' [2] [] ⟨[(2, (S (⟨#[48]⟩ : ByteArray)))], [], [], []⟩ [c_ 53, c_ 7] aln nocal ?_
    have h := Option.some.inj h
    subst h
    exact .fin0 [] (S (⟨#[48]⟩ : ByteArray)) [] aln (.z .s)
  · rw [if_neg c1] at h
    refine .cond' (.tmp 7) false [c_ 14, c_ 15] (bF (qF c1)) ?_
    refine .reg' [0, 3] [] ⟨[(0, (I a0)), (3, (S (⟨#[]⟩ : ByteArray)))], [], [], []⟩ [c_ 30, c_ 31] aln nocal ?_
    refine .reg' [0, 3, 4] [] ⟨[(0, (I a0)), (3, (S (⟨#[]⟩ : ByteArray))), (4, (B (decide (a0 < 0))))], [], [], []⟩ [l_ 124, b_ 0, c_ 63] aln nocal ?_
    exact ih0 a0 a0 (⟨#[]⟩ : ByteArray) _ h
/-! spec_TableOk: function 40 -/
mutual
def spec_TableOk.l0 : Nat → (List S28) → Int → Option Bool
 | 0, _, _ => none
 | k + 1, a0, x1 => (if x1 < (a0.length : Int) then (if 0 ≤ x1 then ((spec_TripOk.f k (at_ a0 x1)).bind fun x2 => (if x2 = true then (spec_TableOk.l1 k a0 x1 0) else (some false))) else none) else (some true))
def spec_TableOk.l1 : Nat → (List S28) → Int → Int → Option Bool
 | 0, _, _, _ => none
 | k + 1, a0, x1, x3 => (if x3 < x1 then (if 0 ≤ x3 then (if x3 < (a0.length : Int) then (if 0 ≤ x1 then (if x1 < (a0.length : Int) then (if (sEq (at_ a0 x3).f0 (at_ a0 x1).f0) = true then (some false) else (spec_TableOk.l1 k a0 x1 (wrap64 (x3 + 1)))) else none) else none) else none) else none) else (spec_TableOk.l0 k a0 (wrap64 (x1 + 1))))
end
def spec_TableOk.f (k : Nat) (a0 : (List S28)) : Option Bool := (if (a0.length : Int) > 24 then (some false) else (spec_TableOk.l0 k a0 0))
end Go.Proofs.YtjlickinmkafbaaDoor.Fns
