/- The functions that the law FnExactBoard reaches, by the engine. Printed by a program of this seat. -/
import Derived.Test.YtoeedickghjdbaaE5
import Derived.Test.YtoeedickghjdbaaProg
namespace Go.Proofs.Ytoeedickghjdbaa.Fns
open Go.Proofs.Try Go.Proofs.Ytoeedickghjdbaa.Eng Go.RowKit
set_option maxRecDepth 100000
set_option linter.unusedVariables false
set_option linter.unusedSimpArgs false
structure S54 where
  f0 : Int
  f1 : Int
  f2 : Int
  deriving Inhabited
def e54 (x : S54) : List V := [I x.f0, I x.f1, I x.f2]
theorem e54_ok : Enc (e54) 3 where
  len := fun _ => rfl
  self := fun x v h H tb bor => by
    simp only [e54, List.mem_cons, List.not_mem_nil, or_false] at h
    rcases h with h | h | h
    · subst h; exact .s
    · subst h; exact .s
    · subst h; exact .s
  cln := fun x v h => by
    simp only [e54, List.mem_cons, List.not_mem_nil, or_false] at h
    rcases h with h | h | h
    · subst h; exact .s
    · subst h; exact .s
    · subst h; exact .s
theorem e54_c {b : Bool} : EncC b e54 := by
  intro x v h
  simp only [e54, List.mem_cons, List.not_mem_nil, or_false] at h
  rcases h with h | h | h
  · subst h; exact .s
  · subst h; exact .s
  · subst h; exact .s
theorem e54_s : EncS e54 := by
  intro x v h
  simp only [e54, List.mem_cons, List.not_mem_nil, or_false] at h
  rcases h with h | h | h
  · subst h; exact ⟨_, rfl⟩
  · subst h; exact ⟨_, rfl⟩
  · subst h; exact ⟨_, rfl⟩
structure S23 where
  f0 : ByteArray
  f1 : (List S54)
  deriving Inhabited
def e23 (t : Bool) (x : S23) : List V := [S x.f0, .sl t x.f1.length 3 (x.f1.flatMap e54)]
theorem e23_ok (t : Bool) : Enc (e23 t) 2 where
  len := fun _ => rfl
  self := fun x v h H tb bor => by
    simp only [e23, List.mem_cons, List.not_mem_nil, or_false] at h
    rcases h with h | h
    · subst h; exact .s
    · subst h; exact frz_sl e54_ok id
  cln := fun x v h => by
    simp only [e23, List.mem_cons, List.not_mem_nil, or_false] at h
    rcases h with h | h
    · subst h; exact .s
    · subst h; exact cln_sl e54_ok
theorem e23_to (x : S23) {H : Nat → Option (List V)} {tb : Bool} {bor : List Nat} : All2 (Frz H tb bor) (e23 false x) (e23 true x) := (a2c .s (a2c (frz_sl e54_ok (fun h => absurd h (by decide))) a2n))
theorem e23_c1 : EncC true (e23 true) := by
  intro x v h
  simp only [e23, List.mem_cons, List.not_mem_nil, or_false] at h
  rcases h with h | h
  · subst h; exact .s
  · subst h; exact clnS e54_c (fun h => rfl)
theorem e23_c0 {b : Bool} : EncC b (e23 false) := by
  intro x v h
  simp only [e23, List.mem_cons, List.not_mem_nil, or_false] at h
  rcases h with h | h
  · subst h; exact .s
  · subst h; exact clnS e54_c (fun h => absurd h (by decide))
structure S28 where
  f0 : ByteArray
  f1 : (List S54)
  deriving Inhabited
def e28 (t : Bool) (x : S28) : List V := [S x.f0, .sl t x.f1.length 3 (x.f1.flatMap e54)]
theorem e28_ok (t : Bool) : Enc (e28 t) 2 where
  len := fun _ => rfl
  self := fun x v h H tb bor => by
    simp only [e28, List.mem_cons, List.not_mem_nil, or_false] at h
    rcases h with h | h
    · subst h; exact .s
    · subst h; exact frz_sl e54_ok id
  cln := fun x v h => by
    simp only [e28, List.mem_cons, List.not_mem_nil, or_false] at h
    rcases h with h | h
    · subst h; exact .s
    · subst h; exact cln_sl e54_ok
theorem e28_to (x : S28) {H : Nat → Option (List V)} {tb : Bool} {bor : List Nat} : All2 (Frz H tb bor) (e28 false x) (e28 true x) := (a2c .s (a2c (frz_sl e54_ok (fun h => absurd h (by decide))) a2n))
theorem e28_c1 : EncC true (e28 true) := by
  intro x v h
  simp only [e28, List.mem_cons, List.not_mem_nil, or_false] at h
  rcases h with h | h
  · subst h; exact .s
  · subst h; exact clnS e54_c (fun h => rfl)
theorem e28_c0 {b : Bool} : EncC b (e28 false) := by
  intro x v h
  simp only [e28, List.mem_cons, List.not_mem_nil, or_false] at h
  rcases h with h | h
  · subst h; exact .s
  · subst h; exact clnS e54_c (fun h => absurd h (by decide))
def o28 (x : S28) : List V := [S x.f0, .on x.f1.length 3 (x.f1.flatMap e54)]
theorem o28_ok : Enc o28 2 where
  len := fun _ => rfl
  self := fun x v h H tb bor => by
    simp only [o28, List.mem_cons, List.not_mem_nil, or_false] at h
    rcases h with h | h
    · subst h; exact .s
    · subst h; exact .on
  cln := fun x v h => by
    simp only [o28, List.mem_cons, List.not_mem_nil, or_false] at h
    rcases h with h | h
    · subst h; exact .s
    · subst h; exact .on
theorem o28_c {b : Bool} : EncC b o28 := by
  intro x v h
  simp only [o28, List.mem_cons, List.not_mem_nil, or_false] at h
  rcases h with h | h
  · subst h; exact .s
  · subst h; exact .on
theorem o28_l (x : S28) {H : Nat → Option (List V)} {bor : List Nat} : All2 (fun v v2 => (isOn v = false → Frz H true bor v v2) ∧ ∀ m z ds, v = .on m z ds → v2 = .sl true m z ds) (o28 x) (e28 true x) := (a2c ⟨fun _ => .s, fun m z ds h => (by cases h)⟩ (a2c ⟨fun h => (by cases h), fun m z ds h => (by cases h; rfl)⟩ a2n))
structure S58 where
  f0 : Int
  f1 : Int
  deriving Inhabited
def e58 (x : S58) : List V := [I x.f0, I x.f1]
theorem e58_ok : Enc (e58) 2 where
  len := fun _ => rfl
  self := fun x v h H tb bor => by
    simp only [e58, List.mem_cons, List.not_mem_nil, or_false] at h
    rcases h with h | h
    · subst h; exact .s
    · subst h; exact .s
  cln := fun x v h => by
    simp only [e58, List.mem_cons, List.not_mem_nil, or_false] at h
    rcases h with h | h
    · subst h; exact .s
    · subst h; exact .s
theorem e58_c {b : Bool} : EncC b e58 := by
  intro x v h
  simp only [e58, List.mem_cons, List.not_mem_nil, or_false] at h
  rcases h with h | h
  · subst h; exact .s
  · subst h; exact .s
theorem e58_s : EncS e58 := by
  intro x v h
  simp only [e58, List.mem_cons, List.not_mem_nil, or_false] at h
  rcases h with h | h
  · subst h; exact ⟨_, rfl⟩
  · subst h; exact ⟨_, rfl⟩
/-! laws_szCallS: function 39 -/
def laws_szCallS.f (a0 : (List S54)) (a1 : Int) : Option Int := (if (wrap64 (a1 - (a0.length : Int))) < 0 then (some (-1)) else (some (wrap64 (a1 - (a0.length : Int)))))
theorem laws_szCallS.J (a0 : (List S54)) (a1 : Int) (r : Int) (h : laws_szCallS.f a0 a1 = some r) : J prog (.call 39 [(.sl true a0.length 3 (a0.flatMap e54)), (I a1)] [] (I r) []) := by
  unfold laws_szCallS.f at h
  refine .call' [c_ 2, c_ 3] ?_
  refine .reg' [0, 1] [] ⟨[(0, (.sl true a0.length 3 (a0.flatMap e54))), (1, (I a1))], [], [], []⟩ [c_ 6, c_ 7] aln nocal ?_
  refine .reg' [1] [] ⟨[(1, (I (wrap64 (a1 - (a0.length : Int)))))], [], [], []⟩ [c_ 28, c_ 29, c_ 15] aln nocal ?_
  refine .reg' [1, 10] [] ⟨[(1, (I (wrap64 (a1 - (a0.length : Int))))), (10, (B (decide ((wrap64 (a1 - (a0.length : Int))) < 0))))], [], [], []⟩ [c_ 29, c_ 15] aln nocal ?_
  by_cases c1 : (wrap64 (a1 - (a0.length : Int))) < 0
  · rw [if_pos c1] at h
    refine .cond' (.tmp 10) true [c_ 116, c_ 117, c_ 15] (bT (dT c1)) ?_
    refine .reg' [4] [] ⟨[(4, (I (-1)))], [], [], []⟩ [c_ 117, c_ 15] aln nocal ?_
    have h := Option.some.inj h
    subst h
    exact .fin0 [] (I (-1)) [] aln (.z .s)
  · rw [if_neg c1] at h
    refine .cond' (.tmp 10) false [c_ 30, c_ 31] (bF (dF c1)) ?_
    refine .reg' [4] [] ⟨[(4, (I (wrap64 (a1 - (a0.length : Int)))))], [], [], []⟩ [c_ 31] aln nocal ?_
    have h := Option.some.inj h
    subst h
    exact .fin0 [] (I (wrap64 (a1 - (a0.length : Int)))) [] aln (.z .s)
/-! laws_szTrip: function 11 -/
def laws_szTrip.f (a0 : S23) (a1 : Int) : Option Int := (if (wrap64 (a1 - (a0.f0.size : Int))) < 0 then (some (-1)) else ((laws_szCallS.f a0.f1 (wrap64 (a1 - (a0.f0.size : Int)))).bind fun x1 => (if x1 < 0 then (some (-1)) else (some x1))))
theorem laws_szTrip.J (a0 : S23) (a1 : Int) (r : Int) (h : laws_szTrip.f a0 a1 = some r) : J prog (.call 11 [(.ag [(S a0.f0), (.sl true a0.f1.length 3 (a0.f1.flatMap e54))]), (I a1)] [] (I r) []) := by
  unfold laws_szTrip.f at h
  refine .call' [c_ 2, c_ 3] ?_
  refine .reg' [1, 2] [] ⟨[(1, (I a1)), (2, (.pt 256 0 2))], [(256, [(S a0.f0), (.sl true a0.f1.length 3 (a0.f1.flatMap e54))])], [], []⟩ [c_ 6, c_ 7] aln nocal ?_
  refine .reg' [1, 2] [] ⟨[(1, (I (wrap64 (a1 - (a0.f0.size : Int))))), (2, (.pt 256 0 2))], [(256, [(S a0.f0), (.sl true a0.f1.length 3 (a0.f1.flatMap e54))])], [2 = 2 ∧ 0 + 1 ≤ 2], []⟩ [c_ 28, c_ 29, c_ 15] (alc ⟨rfl, by decide⟩ aln) nocal ?_
  refine .reg' [1, 2, 11] [] ⟨[(1, (I (wrap64 (a1 - (a0.f0.size : Int))))), (2, (.pt 256 0 2)), (11, (B (decide ((wrap64 (a1 - (a0.f0.size : Int))) < 0))))], [(256, [(S a0.f0), (.sl true a0.f1.length 3 (a0.f1.flatMap e54))])], [], []⟩ [c_ 29, c_ 15] aln nocal ?_
  by_cases c1 : (wrap64 (a1 - (a0.f0.size : Int))) < 0
  · rw [if_pos c1] at h
    refine .cond' (.tmp 11) true [c_ 116, c_ 117, c_ 15] (bT (dT c1)) ?_
    refine .reg' [4] [] ⟨[(4, (I (-1)))], [(256, [(S a0.f0), (.sl true a0.f1.length 3 (a0.f1.flatMap e54))])], [], []⟩ [c_ 117, c_ 15] aln nocal ?_
    have h := Option.some.inj h
    subst h
    exact .fin0 [] (I (-1)) [] aln (.z .s)
  · rw [if_neg c1] at h
    refine .cond' (.tmp 11) false [c_ 30, c_ 31] (bF (dF c1)) ?_
    obtain ⟨x1, hx1, h⟩ := Option.bind_eq_some_iff.mp h
    refine .reg' [1] [.no, .no, .no, .c ⟨39, [(.sl true a0.f1.length 3 (a0.f1.flatMap e54)), (I (wrap64 (a1 - (a0.f0.size : Int))))], [], (I x1), [], [], [], [], (I x1), []⟩] ⟨[(1, (I x1))], [(256, [(S a0.f0), (.sl true a0.f1.length 3 (a0.f1.flatMap e54))])], [2 = 2 ∧ 1 + 1 ≤ 2, COK (hget [(256, [(S a0.f0), (.sl true a0.f1.length 3 (a0.f1.flatMap e54))])]) [(.sl true a0.f1.length 3 (a0.f1.flatMap e54)), (I (wrap64 (a1 - (a0.f0.size : Int))))] ⟨39, [(.sl true a0.f1.length 3 (a0.f1.flatMap e54)), (I (wrap64 (a1 - (a0.f0.size : Int))))], [], (I x1), [], [], [], [], (I x1), []⟩], [⟨39, [(.sl true a0.f1.length 3 (a0.f1.flatMap e54)), (I (wrap64 (a1 - (a0.f0.size : Int))))], [], (I x1), [], [], [], [], (I x1), []⟩]⟩ [c_ 124, c_ 125, c_ 63] (alc ⟨rfl, by decide⟩ (alc (cok0 false (a2c (.z (frz_sl e54_ok (fun h => h))) (a2c (.z .s) a2n)) (.z .s) (fun h => absurd h (by decide))) aln)) (acal (laws_szCallS.J a0.f1 (wrap64 (a1 - (a0.f0.size : Int))) _ hx1) nocal) ?_
    refine .reg' [1, 17] [] ⟨[(1, (I x1)), (17, (B (decide (x1 < 0))))], [(256, [(S a0.f0), (.sl true a0.f1.length 3 (a0.f1.flatMap e54))])], [], []⟩ [c_ 125, c_ 63] aln nocal ?_
    by_cases c2 : x1 < 0
    · rw [if_pos c2] at h
      refine .cond' (.tmp 17) true [c_ 500, c_ 501, c_ 63] (bT (dT c2)) ?_
      refine .reg' [4] [] ⟨[(4, (I (-1)))], [(256, [(S a0.f0), (.sl true a0.f1.length 3 (a0.f1.flatMap e54))])], [], []⟩ [c_ 501, c_ 63] aln nocal ?_
      have h := Option.some.inj h
      subst h
      exact .fin0 [] (I (-1)) [] aln (.z .s)
    · rw [if_neg c2] at h
      refine .cond' (.tmp 17) false [c_ 126, c_ 127] (bF (dF c2)) ?_
      refine .reg' [4] [] ⟨[(4, (I x1))], [(256, [(S a0.f0), (.sl true a0.f1.length 3 (a0.f1.flatMap e54))])], [], []⟩ [c_ 127] aln nocal ?_
      have h := Option.some.inj h
      subst h
      exact .fin0 [] (I x1) [] aln (.z .s)
/-! laws_szTripS: function 18 -/
def laws_szTripS.l0 : Nat → (List S23) → Int → Int → Option Int
 | 0, _, _, _ => none
 | k + 1, a0, x1, x2 => (if x2 < (a0.length : Int) then (if 0 ≤ x2 then ((laws_szTrip.f (at_ a0 x2) x1).bind fun x3 => (if x3 < 0 then (some (-1)) else (laws_szTripS.l0 k a0 x3 (wrap64 (x2 + 1))))) else none) else (some x1))
def laws_szTripS.f (k : Nat) (a0 : (List S23)) (a1 : Int) : Option Int := (if (wrap64 (a1 - (a0.length : Int))) < 0 then (some (-1)) else (laws_szTripS.l0 k a0 (wrap64 (a1 - (a0.length : Int))) 0))
theorem laws_szTripS.lab : ∀ k, (∀ (a0 : (List S23)) (x1 : Int) (x2 : Int) (r : Int), laws_szTripS.l0 k a0 x1 x2 = some r → J prog (.run 18 [] [l_ 122, b_ 0, c_ 31] [(0, (.sl true a0.length 2 (a0.flatMap (e23 true)))), (1, (I x1)), (5, (I x2))] [] (I r) []))
 | 0 => (by intro a0 x1 x2 r h; unfold laws_szTripS.l0 at h; cases h)
 | k + 1 => by
  have ih0 := laws_szTripS.lab k
  · intro a0 x1 x2 r h
    unfold laws_szTripS.l0 at h
    refine .loop' [c_ 976, c_ 977, c_ 489, l_ 122, b_ 0, c_ 31] ?_
    refine .reg' [0, 1, 5, 15] [] ⟨[(0, (.sl true a0.length 2 (a0.flatMap (e23 true)))), (1, (I x1)), (5, (I x2)), (15, (B (decide (x2 < (a0.length : Int)))))], [], [], []⟩ [c_ 977, c_ 489, l_ 122, b_ 0, c_ 31] aln nocal ?_
    by_cases c2 : x2 < (a0.length : Int)
    · rw [if_pos c2] at h
      refine .cond' (.tmp 15) true [c_ 3912, c_ 3913, b_ 1, c_ 979, l_ 122, b_ 0, c_ 31] (bT (dT c2)) ?_
      by_cases c3 : 0 ≤ x2
      · rw [if_pos c3] at h
        obtain ⟨x3, hx3, h⟩ := Option.bind_eq_some_iff.mp h
        refine .reg' [0, 1, 5] [.no, .no, .no, .v (.ag [(S (at_ a0 x2).f0), (.sl true (at_ a0 x2).f1.length 3 ((at_ a0 x2).f1.flatMap e54))]), .no, .c ⟨11, [(.ag [(S (at_ a0 x2).f0), (.sl true (at_ a0 x2).f1.length 3 ((at_ a0 x2).f1.flatMap e54))]), (I x1)], [], (I x3), [], [], [], [], (I x3), []⟩] ⟨[(0, (.sl true a0.length 2 (a0.flatMap (e23 true)))), (1, (I x3)), (5, (I x2))], [], [(0 : Int) ≤ x2 ∧ x2 < (a0.length : Int), rdC prog 24 ((a0.flatMap (e23 true)).drop (x2.toNat * 2)) = (.ag [(S (at_ a0 x2).f0), (.sl true (at_ a0 x2).f1.length 3 ((at_ a0 x2).f1.flatMap e54))]), 2 ≤ ((a0.flatMap (e23 true)).drop (x2.toNat * 2)).length, COK (hget []) [(.ag [(S (at_ a0 x2).f0), (.sl true (at_ a0 x2).f1.length 3 ((at_ a0 x2).f1.flatMap e54))]), (I x1)] ⟨11, [(.ag [(S (at_ a0 x2).f0), (.sl true (at_ a0 x2).f1.length 3 ((at_ a0 x2).f1.flatMap e54))]), (I x1)], [], (I x3), [], [], [], [], (I x3), []⟩], [⟨11, [(.ag [(S (at_ a0 x2).f0), (.sl true (at_ a0 x2).f1.length 3 ((at_ a0 x2).f1.flatMap e54))]), (I x1)], [], (I x3), [], [], [], [], (I x3), []⟩]⟩ [c_ 7826, c_ 7827, b_ 1, c_ 979, l_ 122, b_ 0, c_ 31] (alc ⟨c3, c2⟩ (alc (ldA (e23_ok true) rfl rfl c3 c2) (alc (okI (e23_ok true) c3 c2 (by decide)) (alc (cok0 false (a2c (.z (frz_ag (a2c .s (a2c (frz_sl e54_ok (fun h => h)) a2n)))) (a2c (.z .s) a2n)) (.z .s) (fun h => absurd h (by decide))) aln)))) (acal (laws_szTrip.J (at_ a0 x2) x1 _ hx3) nocal) ?_
        refine .reg' [0, 1, 5, 25] [] ⟨[(0, (.sl true a0.length 2 (a0.flatMap (e23 true)))), (1, (I x3)), (5, (I x2)), (25, (B (decide (x3 < 0))))], [], [], []⟩ [c_ 7827, b_ 1, c_ 979, l_ 122, b_ 0, c_ 31] aln nocal ?_
        by_cases c4 : x3 < 0
        · rw [if_pos c4] at h
          refine .cond' (.tmp 25) true [c_ 31308, c_ 31309, b_ 1, c_ 979, l_ 122, b_ 0, c_ 31] (bT (dT c4)) ?_
          refine .reg' [4] [] ⟨[(4, (I (-1)))], [], [], []⟩ [c_ 31309, b_ 1, c_ 979, l_ 122, b_ 0, c_ 31] aln nocal ?_
          have h := Option.some.inj h
          subst h
          exact .fin0 [] (I (-1)) [] aln (.z .s)
        · rw [if_neg c4] at h
          refine .cond' (.tmp 25) false [c_ 979, l_ 122, b_ 0, c_ 31] (bF (dF c4)) ?_
          refine .reg' [0, 1, 5] [] ⟨[(0, (.sl true a0.length 2 (a0.flatMap (e23 true)))), (1, (I x3)), (5, (I (wrap64 (x2 + 1))))], [], [], []⟩ [l_ 122, b_ 0, c_ 31] aln nocal ?_
          exact ih0 a0 x3 (wrap64 (x2 + 1)) _ h
      · rw [if_neg c3] at h
        cases h
    · rw [if_neg c2] at h
      refine .cond' (.tmp 15) false [c_ 62, c_ 63] (bF (dF c2)) ?_
      refine .reg' [4] [] ⟨[(4, (I x1))], [], [], []⟩ [c_ 63] aln nocal ?_
      have h := Option.some.inj h
      subst h
      exact .fin0 [] (I x1) [] aln (.z .s)
theorem laws_szTripS.J (k : Nat) (a0 : (List S23)) (a1 : Int) (r : Int) (h : laws_szTripS.f k a0 a1 = some r) : J prog (.call 18 [(.sl true a0.length 2 (a0.flatMap (e23 true))), (I a1)] [] (I r) []) := by
  unfold laws_szTripS.f at h
  have ih0 := laws_szTripS.lab k
  refine .call' [c_ 2, c_ 3] ?_
  refine .reg' [0, 1] [] ⟨[(0, (.sl true a0.length 2 (a0.flatMap (e23 true)))), (1, (I a1))], [], [], []⟩ [c_ 6, c_ 7] aln nocal ?_
  refine .reg' [0, 1] [] ⟨[(0, (.sl true a0.length 2 (a0.flatMap (e23 true)))), (1, (I (wrap64 (a1 - (a0.length : Int)))))], [], [], []⟩ [c_ 28, c_ 29, c_ 15] aln nocal ?_
  refine .reg' [0, 1, 11] [] ⟨[(0, (.sl true a0.length 2 (a0.flatMap (e23 true)))), (1, (I (wrap64 (a1 - (a0.length : Int))))), (11, (B (decide ((wrap64 (a1 - (a0.length : Int))) < 0))))], [], [], []⟩ [c_ 29, c_ 15] aln nocal ?_
  by_cases c1 : (wrap64 (a1 - (a0.length : Int))) < 0
  · rw [if_pos c1] at h
    refine .cond' (.tmp 11) true [c_ 116, c_ 117, c_ 15] (bT (dT c1)) ?_
    refine .reg' [4] [] ⟨[(4, (I (-1)))], [], [], []⟩ [c_ 117, c_ 15] aln nocal ?_
    have h := Option.some.inj h
    subst h
    exact .fin0 [] (I (-1)) [] aln (.z .s)
  · rw [if_neg c1] at h
    refine .cond' (.tmp 11) false [c_ 60, c_ 61, c_ 31] (bF (dF c1)) ?_
    refine .reg' [0, 1, 5] [] ⟨[(0, (.sl true a0.length 2 (a0.flatMap (e23 true)))), (1, (I (wrap64 (a1 - (a0.length : Int))))), (5, (I 0))], [], [], []⟩ [l_ 122, b_ 0, c_ 31] aln nocal ?_
    exact ih0 a0 (wrap64 (a1 - (a0.length : Int))) 0 _ h
/-! laws_toCall: function 61 -/
def laws_toCall.f (a0 : S54) : Option S54 := (some a0)
theorem laws_toCall.J (a0 : S54) (r : S54) (h : laws_toCall.f a0 = some r) : J prog (.call 61 [(.ag [(I a0.f0), (I a0.f1), (I a0.f2)])] [] (.ag [(I r.f0), (I r.f1), (I r.f2)]) []) := by
  unfold laws_toCall.f at h
  refine .call' [c_ 2, c_ 3] ?_
  refine .reg' [1, 2] [] ⟨[(1, (.pt 256 0 3)), (2, (.pt 257 0 3))], [(256, [(I a0.f0), (I a0.f1), (I a0.f2)]), (257, [(I 0), (I 0), (I 0)])], [], []⟩ [c_ 6, c_ 7] aln nocal ?_
  refine .reg' [1, 2, 3] [] ⟨[(1, (.pt 256 0 3)), (2, (.pt 257 0 3)), (3, (.pt 512 0 3))], [(256, [(I a0.f0), (I a0.f1), (I a0.f2)]), (257, [(I 0), (I 0), (I 0)]), (512, [(I 0), (I 0), (I 0)])], [], []⟩ [c_ 14, c_ 15] aln nocal ?_
  refine .reg' [1, 2, 3] [] ⟨[(1, (.pt 256 0 3)), (2, (.pt 257 0 3)), (3, (.pt 512 0 3))], [(256, [(I a0.f0), (I a0.f1), (I a0.f2)]), (257, [(I 0), (I 0), (I 0)]), (512, [(I a0.f0), (I 0), (I 0)])], [3 = 3 ∧ 0 + 1 ≤ 3, 3 = 3 ∧ 0 + 1 ≤ 3], []⟩ [c_ 30, c_ 31] (alc ⟨rfl, by decide⟩ (alc ⟨rfl, by decide⟩ aln)) nocal ?_
  refine .reg' [1, 2, 3] [] ⟨[(1, (.pt 256 0 3)), (2, (.pt 257 0 3)), (3, (.pt 512 0 3))], [(256, [(I a0.f0), (I a0.f1), (I a0.f2)]), (257, [(I 0), (I 0), (I 0)]), (512, [(I a0.f0), (I a0.f1), (I 0)])], [3 = 3 ∧ 1 + 1 ≤ 3, 3 = 3 ∧ 1 + 1 ≤ 3], []⟩ [c_ 62, c_ 63] (alc ⟨rfl, by decide⟩ (alc ⟨rfl, by decide⟩ aln)) nocal ?_
  refine .reg' [2, 3] [] ⟨[(2, (.pt 257 0 3)), (3, (.pt 512 0 3))], [(256, [(I a0.f0), (I a0.f1), (I a0.f2)]), (257, [(I 0), (I 0), (I 0)]), (512, [(I a0.f0), (I a0.f1), (I a0.f2)])], [3 = 3 ∧ 2 + 1 ≤ 3, 3 = 3 ∧ 2 + 1 ≤ 3], []⟩ [c_ 126, c_ 127] (alc ⟨rfl, by decide⟩ (alc ⟨rfl, by decide⟩ aln)) nocal ?_
  refine .reg' [2] [] ⟨[(2, (.pt 257 0 3))], [(256, [(I a0.f0), (I a0.f1), (I a0.f2)]), (257, [(I a0.f0), (I a0.f1), (I a0.f2)]), (512, [(I a0.f0), (I a0.f1), (I a0.f2)])], [3 = 3 ∧ 0 + 3 ≤ 3, 3 = 3 ∧ 0 + 3 ≤ 3], []⟩ [c_ 127] (alc ⟨rfl, by decide⟩ (alc ⟨rfl, by decide⟩ aln)) nocal ?_
  have h := Option.some.inj h
  subst h
  exact .fin0 [] (.ag [(I a0.f0), (I a0.f1), (I a0.f2)]) [3 = 3 ∧ 0 + 3 ≤ 3] (alc ⟨rfl, by decide⟩ aln) (.z (frz_ag (a2c .s (a2c .s (a2c .s a2n)))))
/-! laws_toCallS: function 42 -/
def laws_toCallS.l0 : Nat → (List S54) → (List S54) → Int → Option (List S54)
 | 0, _, _, _ => none
 | k + 1, a0, x1, x2 => (if x2 < (a0.length : Int) then (if 0 ≤ x2 then ((laws_toCall.f (at_ a0 x2)).bind fun x3 => (if x2 < (x1.length : Int) then (laws_toCallS.l0 k a0 (x1.set x2.toNat x3) (wrap64 (x2 + 1))) else none)) else none) else (some x1))
def laws_toCallS.f (k : Nat) (a0 : (List S54)) : Option (List S54) := (if 0 ≤ (a0.length : Int) then (if (a0.length : Int) * 24 ≤ 281474976710656 then (laws_toCallS.l0 k a0 (List.replicate (a0.length : Int).toNat (⟨0, 0, 0⟩ : S54)) 0) else none) else none)
theorem laws_toCallS.lab : ∀ k, (∀ (a0 : (List S54)) (x1 : (List S54)) (x2 : Int) (r : (List S54)), laws_toCallS.l0 k a0 x1 x2 = some r → J prog (.run 42 [] [l_ 58, b_ 0, c_ 15] [(0, (.sl true a0.length 3 (a0.flatMap e54))), (3, (.rf 514 0 x1.length 3 (x1.length * 3))), (4, (I x2))] [(514, (x1.flatMap e54))] (.rf 514 0 r.length 3 (r.length * 3)) [(514, (r.flatMap e54))]))
 | 0 => (by intro a0 x1 x2 r h; unfold laws_toCallS.l0 at h; cases h)
 | k + 1 => by
  have ih0 := laws_toCallS.lab k
  · intro a0 x1 x2 r h
    unfold laws_toCallS.l0 at h
    refine .loop' [c_ 464, c_ 465, c_ 233, l_ 58, b_ 0, c_ 15] ?_
    refine .reg' [0, 3, 4, 11] [] ⟨[(0, (.sl true a0.length 3 (a0.flatMap e54))), (3, (.rf 514 0 x1.length 3 (x1.length * 3))), (4, (I x2)), (11, (B (decide (x2 < (a0.length : Int)))))], [(514, (x1.flatMap e54))], [], []⟩ [c_ 465, c_ 233, l_ 58, b_ 0, c_ 15] aln nocal ?_
    by_cases c3 : x2 < (a0.length : Int)
    · rw [if_pos c3] at h
      refine .cond' (.tmp 11) true [c_ 932, b_ 1, c_ 467, l_ 58, b_ 0, c_ 15] (bT (dT c3)) ?_
      by_cases c4 : 0 ≤ x2
      · rw [if_pos c4] at h
        obtain ⟨x3, hx3, h⟩ := Option.bind_eq_some_iff.mp h
        by_cases c5 : x2 < (x1.length : Int)
        · rw [if_pos c5] at h
          refine .reg' [0, 3, 4] [.no, .no, .no, .no, .no, .v (.ag [(I (at_ a0 x2).f0), (I (at_ a0 x2).f1), (I (at_ a0 x2).f2)]), .c ⟨61, [(.ag [(I (at_ a0 x2).f0), (I (at_ a0 x2).f1), (I (at_ a0 x2).f2)])], [], (.ag [(I x3.f0), (I x3.f1), (I x3.f2)]), [], [], [], [], (.ag [(I x3.f0), (I x3.f1), (I x3.f2)]), []⟩, .no, .w .un ((x1.set x2.toNat x3).flatMap e54)] ⟨[(0, (.sl true a0.length 3 (a0.flatMap e54))), (3, (.rf 514 0 x1.length 3 (x1.length * 3))), (4, (I x2))], [(514, ((x1.set x2.toNat x3).flatMap e54))], [(0 : Int) ≤ x2 ∧ x2 < (a0.length : Int), rdC prog 83 ((a0.flatMap e54).drop (x2.toNat * 3)) = (.ag [(I (at_ a0 x2).f0), (I (at_ a0 x2).f1), (I (at_ a0 x2).f2)]), 3 ≤ ((a0.flatMap e54).drop (x2.toNat * 3)).length, COK (hget [(514, (x1.flatMap e54))]) [(.ag [(I (at_ a0 x2).f0), (I (at_ a0 x2).f1), (I (at_ a0 x2).f2)])] ⟨61, [(.ag [(I (at_ a0 x2).f0), (I (at_ a0 x2).f1), (I (at_ a0 x2).f2)])], [], (.ag [(I x3.f0), (I x3.f1), (I x3.f2)]), [], [], [], [], (.ag [(I x3.f0), (I x3.f1), (I x3.f2)]), []⟩, (0 : Int) ≤ x2 ∧ x2 < (x1.length : Int), V.un = V.un, spl (x1.flatMap e54) (0 + x2.toNat * 3) [(I x3.f0), (I x3.f1), (I x3.f2)] = ((x1.set x2.toNat x3).flatMap e54), x1.length * 3 = (x1.flatMap e54).length ∧ 0 + x2.toNat * 3 + 3 ≤ (x1.flatMap e54).length], [⟨61, [(.ag [(I (at_ a0 x2).f0), (I (at_ a0 x2).f1), (I (at_ a0 x2).f2)])], [], (.ag [(I x3.f0), (I x3.f1), (I x3.f2)]), [], [], [], [], (.ag [(I x3.f0), (I x3.f1), (I x3.f2)]), []⟩]⟩ [c_ 467, l_ 58, b_ 0, c_ 15] (alc ⟨c4, c3⟩ (alc (ldA e54_ok rfl rfl c4 c3) (alc (okI e54_ok c4 c3 (by decide)) (alc (cok0 false (a2c (.z (frz_ag (a2c .s (a2c .s (a2c .s a2n))))) a2n) (.z (cln_ag (alc1 .s (alc1 .s (alc1 .s aln1))))) (fun h => absurd h (by decide))) (alc ⟨c4, c5⟩ (alc rfl (alc (st_row e54_ok 0 c4 c5 (Nat.le_of_ble_eq_true rfl) rfl) (alc (okA0 e54_ok c4 c5 (by decide)) aln)))))))) (acal (laws_toCall.J (at_ a0 x2) _ hx3) nocal) ?_
          refine .eqs (env2 := [(0, (.sl true a0.length 3 (a0.flatMap e54))), (3, (.rf 514 0 ((x1.set x2.toNat x3).length) 3 ((x1.set x2.toNat x3).length * 3))), (4, (I x2))]) (H2 := [(514, ((x1.set x2.toNat x3).flatMap e54))]) (by first | (simp only [List.length_set]; done) | simp) (by first | rfl | (simp only [List.length_set]; done) | simp) ?_
          refine .reg' [0, 3, 4] [] ⟨[(0, (.sl true a0.length 3 (a0.flatMap e54))), (3, (.rf 514 0 ((x1.set x2.toNat x3).length) 3 ((x1.set x2.toNat x3).length * 3))), (4, (I (wrap64 (x2 + 1))))], [(514, ((x1.set x2.toNat x3).flatMap e54))], [], []⟩ [l_ 58, b_ 0, c_ 15] aln nocal ?_
          exact ih0 a0 (x1.set x2.toNat x3) (wrap64 (x2 + 1)) _ h
        · rw [if_neg c5] at h
          cases h
      · rw [if_neg c4] at h
        cases h
    · rw [if_neg c3] at h
      refine .cond' (.tmp 11) false [c_ 30, c_ 31] (bF (dF c3)) ?_
      refine .reg' [2] [] ⟨[(2, (.rf 514 0 x1.length 3 (x1.length * 3)))], [(514, (x1.flatMap e54))], [], []⟩ [c_ 31] aln nocal ?_
      have h := Option.some.inj h
      subst h
      exact .fin' [] [(514, 514)] (.rf 514 0 x1.length 3 (x1.length * 3)) [] aln (shc 514 (rowF e54_ok _) shn) (.rf (memP_mem (p := (514, 514)) rfl))
theorem laws_toCallS.J (k : Nat) (a0 : (List S54)) (r : (List S54)) (h : laws_toCallS.f k a0 = some r) : J prog (.call 42 [(.sl true a0.length 3 (a0.flatMap e54))] [] (.rf 514 0 r.length 3 (r.length * 3)) [(514, (r.flatMap e54))]) := by
  unfold laws_toCallS.f at h
  have ih0 := laws_toCallS.lab k
  refine .call' [c_ 2, c_ 3] ?_
  refine .reg' [0] [] ⟨[(0, (.sl true a0.length 3 (a0.flatMap e54)))], [], [], []⟩ [c_ 6, c_ 7] aln nocal ?_
  by_cases c1 : 0 ≤ (a0.length : Int)
  · rw [if_pos c1] at h
    by_cases c2 : (a0.length : Int) * 24 ≤ 281474976710656
    · rw [if_pos c2] at h
      refine .reg' [0, 3] [.no, .no, .w (.rf 514 0 ((List.replicate (a0.length : Int).toNat (⟨0, 0, 0⟩ : S54)).length) 3 ((List.replicate (a0.length : Int).toNat (⟨0, 0, 0⟩ : S54)).length * 3)) ((List.replicate (a0.length : Int).toNat (⟨0, 0, 0⟩ : S54)).flatMap e54)] ⟨[(0, (.sl true a0.length 3 (a0.flatMap e54))), (3, (.rf 514 0 ((List.replicate (a0.length : Int).toNat (⟨0, 0, 0⟩ : S54)).length) 3 ((List.replicate (a0.length : Int).toNat (⟨0, 0, 0⟩ : S54)).length * 3)))], [(514, ((List.replicate (a0.length : Int).toNat (⟨0, 0, 0⟩ : S54)).flatMap e54))], [V.rf 514 0 (a0.length : Int).toNat 3 ((a0.length : Int).toNat * 3) = (.rf 514 0 ((List.replicate (a0.length : Int).toNat (⟨0, 0, 0⟩ : S54)).length) 3 ((List.replicate (a0.length : Int).toNat (⟨0, 0, 0⟩ : S54)).length * 3)), rept (a0.length : Int).toNat [(I 0), (I 0), (I 0)] = (List.replicate (a0.length : Int).toNat (⟨0, 0, 0⟩ : S54)).flatMap e54, (a0.length : Int) = (a0.length : Int) ∧ 0 ≤ (a0.length : Int) ∧ (a0.length : Int) * 24 ≤ 281474976710656 ∧ (a0.length : Int) ≤ 9223372036854775807], []⟩ [c_ 28, c_ 29, c_ 15] (alc mkV (alc (row_rept (enc := e54) (x := (⟨0, 0, 0⟩ : S54)) (by decide) _) (alc ⟨rfl, c1, c2, by omega⟩ aln))) nocal ?_
      refine .reg' [0, 3, 4] [] ⟨[(0, (.sl true a0.length 3 (a0.flatMap e54))), (3, (.rf 514 0 ((List.replicate (a0.length : Int).toNat (⟨0, 0, 0⟩ : S54)).length) 3 ((List.replicate (a0.length : Int).toNat (⟨0, 0, 0⟩ : S54)).length * 3))), (4, (I 0))], [(514, ((List.replicate (a0.length : Int).toNat (⟨0, 0, 0⟩ : S54)).flatMap e54))], [], []⟩ [l_ 58, b_ 0, c_ 15] aln nocal ?_
      exact ih0 a0 (List.replicate (a0.length : Int).toNat (⟨0, 0, 0⟩ : S54)) 0 _ h
    · rw [if_neg c2] at h
      cases h
  · rw [if_neg c1] at h
    cases h
/-! laws_toTrip: function 13 -/
def laws_toTrip.f (k : Nat) (a0 : S23) : Option S28 := ((laws_toCallS.f k a0.f1).bind fun x1 => (some (⟨a0.f0, x1⟩ : S28)))
theorem laws_toTrip.J (k : Nat) (a0 : S23) (r : S28) (h : laws_toTrip.f k a0 = some r) : J prog (.call 13 [(.ag [(S a0.f0), (.sl true a0.f1.length 3 (a0.f1.flatMap e54))])] [] (.ag [(S r.f0), (.rf 1001026 0 r.f1.length 3 (r.f1.length * 3))]) [(1001026, (r.f1.flatMap e54))]) := by
  unfold laws_toTrip.f at h
  refine .call' [c_ 2, c_ 3] ?_
  refine .reg' [1, 2] [] ⟨[(1, (.pt 256 0 2)), (2, (.pt 257 0 2))], [(256, [(S a0.f0), (.sl true a0.f1.length 3 (a0.f1.flatMap e54))]), (257, [(S ByteArray.empty), nilS])], [], []⟩ [c_ 6, c_ 7] aln nocal ?_
  refine .reg' [1, 2, 3] [] ⟨[(1, (.pt 256 0 2)), (2, (.pt 257 0 2)), (3, (.pt 512 0 2))], [(256, [(S a0.f0), (.sl true a0.f1.length 3 (a0.f1.flatMap e54))]), (257, [(S ByteArray.empty), nilS]), (512, [(S ByteArray.empty), nilS])], [], []⟩ [c_ 14, c_ 15] aln nocal ?_
  refine .reg' [1, 2, 3] [] ⟨[(1, (.pt 256 0 2)), (2, (.pt 257 0 2)), (3, (.pt 512 0 2))], [(256, [(S a0.f0), (.sl true a0.f1.length 3 (a0.f1.flatMap e54))]), (257, [(S ByteArray.empty), nilS]), (512, [(S a0.f0), nilS])], [2 = 2 ∧ 0 + 1 ≤ 2, 2 = 2 ∧ 0 + 1 ≤ 2], []⟩ [c_ 30, c_ 31] (alc ⟨rfl, by decide⟩ (alc ⟨rfl, by decide⟩ aln)) nocal ?_
  obtain ⟨x1, hx1, h⟩ := Option.bind_eq_some_iff.mp h
  refine .reg' [2, 3] [.no, .no, .c ⟨42, [(.sl true a0.f1.length 3 (a0.f1.flatMap e54))], [], (.rf 514 0 x1.length 3 (x1.length * 3)), [(514, (x1.flatMap e54))], [], [], [(1001026, 514)], (.rf 1001026 0 x1.length 3 (x1.length * 3)), [(1001026, (x1.flatMap e54))]⟩] ⟨[(2, (.pt 257 0 2)), (3, (.pt 512 0 2))], [(256, [(S a0.f0), (.sl true a0.f1.length 3 (a0.f1.flatMap e54))]), (257, [(S ByteArray.empty), nilS]), (512, [(S a0.f0), (.rf 1001026 0 x1.length 3 (x1.length * 3))]), (1001026, (x1.flatMap e54))], [2 = 2 ∧ 1 + 1 ≤ 2, COK (hget [(256, [(S a0.f0), (.sl true a0.f1.length 3 (a0.f1.flatMap e54))]), (257, [(S ByteArray.empty), nilS]), (512, [(S a0.f0), nilS])]) [(.sl true a0.f1.length 3 (a0.f1.flatMap e54))] ⟨42, [(.sl true a0.f1.length 3 (a0.f1.flatMap e54))], [], (.rf 514 0 x1.length 3 (x1.length * 3)), [(514, (x1.flatMap e54))], [], [], [(1001026, 514)], (.rf 1001026 0 x1.length 3 (x1.length * 3)), [(1001026, (x1.flatMap e54))]⟩, 2 = 2 ∧ 1 + 1 ≤ 2], [⟨42, [(.sl true a0.f1.length 3 (a0.f1.flatMap e54))], [], (.rf 514 0 x1.length 3 (x1.length * 3)), [(514, (x1.flatMap e54))], [], [], [(1001026, 514)], (.rf 1001026 0 x1.length 3 (x1.length * 3)), [(1001026, (x1.flatMap e54))]⟩]⟩ [c_ 62, c_ 63] (alc ⟨rfl, by decide⟩ (alc (cokW false (a2c (.z (frz_sl e54_ok (fun h => h))) a2n) akn (akc (.inr rfl) akn) (.rf (memP_mem (p := (1001026, 514)) rfl)) (akc ⟨_, _, rfl, rfl, rowB e54_c _⟩ akn) (fun h => absurd h (by decide))) (alc ⟨rfl, by decide⟩ aln))) (acal (laws_toCallS.J k a0.f1 _ hx1) nocal) ?_
  refine .reg' [2] [] ⟨[(2, (.pt 257 0 2))], [(256, [(S a0.f0), (.sl true a0.f1.length 3 (a0.f1.flatMap e54))]), (257, [(S a0.f0), (.rf 1001026 0 x1.length 3 (x1.length * 3))]), (512, [(S a0.f0), (.rf 1001026 0 x1.length 3 (x1.length * 3))]), (1001026, (x1.flatMap e54))], [2 = 2 ∧ 0 + 2 ≤ 2, 2 = 2 ∧ 0 + 2 ≤ 2], []⟩ [c_ 63] (alc ⟨rfl, by decide⟩ (alc ⟨rfl, by decide⟩ aln)) nocal ?_
  have h := Option.some.inj h
  subst h
  exact .fin' [] [(1001026, 1001026)] (.ag [(S a0.f0), (.rf 1001026 0 x1.length 3 (x1.length * 3))]) [2 = 2 ∧ 0 + 2 ≤ 2] (alc ⟨rfl, by decide⟩ aln) (shc 1001026 (rowF e54_ok _) shn) (cnv_ag (a2c (.z .s) (a2c (.rf (memP_mem (p := (1001026, 1001026)) rfl)) a2n)))
/-! laws_toTripS: function 20 -/
def laws_toTripS.l0 : Nat → (List S23) → (List S28) → Int → Option (List S28)
 | 0, _, _, _ => none
 | k + 1, a0, x1, x2 => (if x2 < (a0.length : Int) then (if 0 ≤ x2 then ((laws_toTrip.f k (at_ a0 x2)).bind fun x3 => (if x2 < (x1.length : Int) then (laws_toTripS.l0 k a0 (x1.set x2.toNat x3) (wrap64 (x2 + 1))) else none)) else none) else (some x1))
def laws_toTripS.f (k : Nat) (a0 : (List S23)) : Option (List S28) := (if 0 ≤ (a0.length : Int) then (if (a0.length : Int) * 40 ≤ 281474976710656 then (laws_toTripS.l0 k a0 (List.replicate (a0.length : Int).toNat (⟨ByteArray.empty, []⟩ : S28)) 0) else none) else none)
theorem laws_toTripS.lab : ∀ k, (∀ (a0 : (List S23)) (x1 : (List S28)) (x2 : Int) (r : (List S28)), laws_toTripS.l0 k a0 x1 x2 = some r → J prog (.run 20 [] [l_ 58, b_ 0, c_ 15] [(0, (.sl true a0.length 2 (a0.flatMap (e23 true)))), (3, (.rf 4000000514 0 x1.length 2 (x1.length * 2))), (4, (I x2))] [(4000000514, (x1.flatMap o28))] (.rf 4000000514 0 r.length 2 (r.length * 2)) [(4000000514, (r.flatMap o28))]))
 | 0 => (by intro a0 x1 x2 r h; unfold laws_toTripS.l0 at h; cases h)
 | k + 1 => by
  have ih0 := laws_toTripS.lab k
  · intro a0 x1 x2 r h
    unfold laws_toTripS.l0 at h
    refine .loop' [c_ 464, c_ 465, c_ 233, l_ 58, b_ 0, c_ 15] ?_
    refine .reg' [0, 3, 4, 11] [] ⟨[(0, (.sl true a0.length 2 (a0.flatMap (e23 true)))), (3, (.rf 4000000514 0 x1.length 2 (x1.length * 2))), (4, (I x2)), (11, (B (decide (x2 < (a0.length : Int)))))], [(4000000514, (x1.flatMap o28))], [], []⟩ [c_ 465, c_ 233, l_ 58, b_ 0, c_ 15] aln nocal ?_
    by_cases c3 : x2 < (a0.length : Int)
    · rw [if_pos c3] at h
      refine .cond' (.tmp 11) true [c_ 932, b_ 1, c_ 467, l_ 58, b_ 0, c_ 15] (bT (dT c3)) ?_
      by_cases c4 : 0 ≤ x2
      · rw [if_pos c4] at h
        obtain ⟨x3, hx3, h⟩ := Option.bind_eq_some_iff.mp h
        by_cases c5 : x2 < (x1.length : Int)
        · rw [if_pos c5] at h
          refine .reg' [0, 3, 4] [.no, .no, .no, .no, .no, .v (.ag [(S (at_ a0 x2).f0), (.sl true (at_ a0 x2).f1.length 3 ((at_ a0 x2).f1.flatMap e54))]), .c ⟨13, [(.ag [(S (at_ a0 x2).f0), (.sl true (at_ a0 x2).f1.length 3 ((at_ a0 x2).f1.flatMap e54))])], [], (.ag [(S x3.f0), (.rf 1001026 0 x3.f1.length 3 (x3.f1.length * 3))]), [(1001026, (x3.f1.flatMap e54))], [], [], [(1001542, 1001026)], (.ag [(S x3.f0), (.rf 1001542 0 x3.f1.length 3 (x3.f1.length * 3))]), [(1001542, (x3.f1.flatMap e54))]⟩, .no, .w .un (foc o28 x1 x2.toNat [(S x3.f0), (.rf 1001542 0 x3.f1.length 3 (x3.f1.length * 3))])] ⟨[(0, (.sl true a0.length 2 (a0.flatMap (e23 true)))), (3, (.rf 4000000514 0 x1.length 2 (x1.length * 2))), (4, (I x2))], [(4000000514, (foc o28 x1 x2.toNat [(S x3.f0), (.rf 1001542 0 x3.f1.length 3 (x3.f1.length * 3))])), (1001542, (x3.f1.flatMap e54))], [(0 : Int) ≤ x2 ∧ x2 < (a0.length : Int), rdC prog 24 ((a0.flatMap (e23 true)).drop (x2.toNat * 2)) = (.ag [(S (at_ a0 x2).f0), (.sl true (at_ a0 x2).f1.length 3 ((at_ a0 x2).f1.flatMap e54))]), 2 ≤ ((a0.flatMap (e23 true)).drop (x2.toNat * 2)).length, COK (hget [(4000000514, (x1.flatMap o28))]) [(.ag [(S (at_ a0 x2).f0), (.sl true (at_ a0 x2).f1.length 3 ((at_ a0 x2).f1.flatMap e54))])] ⟨13, [(.ag [(S (at_ a0 x2).f0), (.sl true (at_ a0 x2).f1.length 3 ((at_ a0 x2).f1.flatMap e54))])], [], (.ag [(S x3.f0), (.rf 1001026 0 x3.f1.length 3 (x3.f1.length * 3))]), [(1001026, (x3.f1.flatMap e54))], [], [], [(1001542, 1001026)], (.ag [(S x3.f0), (.rf 1001542 0 x3.f1.length 3 (x3.f1.length * 3))]), [(1001542, (x3.f1.flatMap e54))]⟩, (0 : Int) ≤ x2 ∧ x2 < (x1.length : Int), V.un = V.un, spl (x1.flatMap o28) (0 + x2.toNat * 2) [(S x3.f0), (.rf 1001542 0 x3.f1.length 3 (x3.f1.length * 3))] = (foc o28 x1 x2.toNat [(S x3.f0), (.rf 1001542 0 x3.f1.length 3 (x3.f1.length * 3))]), x1.length * 2 = (x1.flatMap o28).length ∧ 0 + x2.toNat * 2 + 2 ≤ (x1.flatMap o28).length], [⟨13, [(.ag [(S (at_ a0 x2).f0), (.sl true (at_ a0 x2).f1.length 3 ((at_ a0 x2).f1.flatMap e54))])], [], (.ag [(S x3.f0), (.rf 1001026 0 x3.f1.length 3 (x3.f1.length * 3))]), [(1001026, (x3.f1.flatMap e54))], [], [], [(1001542, 1001026)], (.ag [(S x3.f0), (.rf 1001542 0 x3.f1.length 3 (x3.f1.length * 3))]), [(1001542, (x3.f1.flatMap e54))]⟩]⟩ [c_ 467, l_ 58, b_ 0, c_ 15] (alc ⟨c4, c3⟩ (alc (ldA (e23_ok true) rfl rfl c4 c3) (alc (okI (e23_ok true) c4 c3 (by decide)) (alc (cokW false (a2c (.z (frz_ag (a2c .s (a2c (frz_sl e54_ok (fun h => h)) a2n)))) a2n) akn (akc (.inr rfl) akn) (bck_ag (a2c (.z .s) (a2c (.rf (memP_mem (p := (1001542, 1001026)) rfl)) a2n))) (akc ⟨_, _, rfl, rfl, rowB e54_c _⟩ akn) (fun h => absurd h (by decide))) (alc ⟨c4, c5⟩ (alc rfl (alc (foc_st0 o28_ok c4 c5 rfl) (alc (okA0 o28_ok c4 c5 (by decide)) aln)))))))) (acal (laws_toTrip.J k (at_ a0 x2) _ hx3) nocal) ?_
          refine .clX [1001542] 1001542 4000000514 (x2.toNat * 2 + 1) x3.f1.length 3 (cs' := ((x1.set x2.toNat x3).flatMap o28)) (ds := (x3.f1.flatMap e54)) (H2 := []) ((foc_get (vs := [(S x3.f0), (.rf 1001542 0 x3.f1.length 3 (x3.f1.length * 3))]) o28_ok c4 c5 rfl 1 (by decide)).trans rfl) ((foc_set (vs := [(S x3.f0), (.rf 1001542 0 x3.f1.length 3 (x3.f1.length * 3))]) o28_ok c4 c5 rfl 1 (by decide) _).trans (foc_end o28_ok c4 c5 x3)) (row_len e54_ok _) (rowS e54_s _) (rsc (rqE o28_ok _) rsn) ?_
          refine .reg' [0, 3, 4] [] ⟨[(0, (.sl true a0.length 2 (a0.flatMap (e23 true)))), (3, (.rf 4000000514 0 x1.length 2 (x1.length * 2))), (4, (I (wrap64 (x2 + 1))))], [(4000000514, ((x1.set x2.toNat x3).flatMap o28))], [], []⟩ [l_ 58, b_ 0, c_ 15] aln nocal ?_
          refine .eqs (env2 := [(0, (.sl true a0.length 2 (a0.flatMap (e23 true)))), (3, (.rf 4000000514 0 ((x1.set x2.toNat x3).length) 2 ((x1.set x2.toNat x3).length * 2))), (4, (I (wrap64 (x2 + 1))))]) (H2 := [(4000000514, ((x1.set x2.toNat x3).flatMap o28))]) (by first | (simp only [List.length_set]; done) | simp) (by first | rfl | (simp only [List.length_set]; done) | simp) ?_
          exact ih0 a0 (x1.set x2.toNat x3) (wrap64 (x2 + 1)) _ h
        · rw [if_neg c5] at h
          cases h
      · rw [if_neg c4] at h
        cases h
    · rw [if_neg c3] at h
      refine .cond' (.tmp 11) false [c_ 30, c_ 31] (bF (dF c3)) ?_
      refine .reg' [2] [] ⟨[(2, (.rf 4000000514 0 x1.length 2 (x1.length * 2)))], [(4000000514, (x1.flatMap o28))], [], []⟩ [c_ 31] aln nocal ?_
      have h := Option.some.inj h
      subst h
      exact .fin' [] [(4000000514, 4000000514)] (.rf 4000000514 0 x1.length 2 (x1.length * 2)) [] aln (shc 4000000514 (rowF o28_ok _) shn) (.rf (memP_mem (p := (4000000514, 4000000514)) rfl))
theorem laws_toTripS.J (k : Nat) (a0 : (List S23)) (r : (List S28)) (h : laws_toTripS.f k a0 = some r) : J prog (.call 20 [(.sl true a0.length 2 (a0.flatMap (e23 true)))] [] (.rf 4000000514 0 r.length 2 (r.length * 2)) [(4000000514, (r.flatMap o28))]) := by
  unfold laws_toTripS.f at h
  have ih0 := laws_toTripS.lab k
  refine .call' [c_ 2, c_ 3] ?_
  refine .reg' [0] [] ⟨[(0, (.sl true a0.length 2 (a0.flatMap (e23 true))))], [], [], []⟩ [c_ 6, c_ 7] aln nocal ?_
  by_cases c1 : 0 ≤ (a0.length : Int)
  · rw [if_pos c1] at h
    by_cases c2 : (a0.length : Int) * 40 ≤ 281474976710656
    · rw [if_pos c2] at h
      refine .reg' [0, 3] [.no, .no, .v (.rf 514 0 ((List.replicate (a0.length : Int).toNat (⟨ByteArray.empty, []⟩ : S28)).length) 2 ((List.replicate (a0.length : Int).toNat (⟨ByteArray.empty, []⟩ : S28)).length * 2))] ⟨[(0, (.sl true a0.length 2 (a0.flatMap (e23 true)))), (3, (.rf 514 0 ((List.replicate (a0.length : Int).toNat (⟨ByteArray.empty, []⟩ : S28)).length) 2 ((List.replicate (a0.length : Int).toNat (⟨ByteArray.empty, []⟩ : S28)).length * 2)))], [(514, (rept (a0.length : Int).toNat [(S ByteArray.empty), nilS]))], [V.rf 514 0 (a0.length : Int).toNat 2 ((a0.length : Int).toNat * 2) = (.rf 514 0 ((List.replicate (a0.length : Int).toNat (⟨ByteArray.empty, []⟩ : S28)).length) 2 ((List.replicate (a0.length : Int).toNat (⟨ByteArray.empty, []⟩ : S28)).length * 2)), (a0.length : Int) = (a0.length : Int) ∧ 0 ≤ (a0.length : Int) ∧ (a0.length : Int) * 40 ≤ 281474976710656 ∧ (a0.length : Int) ≤ 9223372036854775807], []⟩ [c_ 28, c_ 29, c_ 15] (alc mkV (alc ⟨rfl, c1, c2, by omega⟩ aln)) nocal ?_
      refine .wk' [] [(514, 4000000514)] [(0, (.sl true a0.length 2 (a0.flatMap (e23 true)))), (3, (.rf 4000000514 0 ((List.replicate (a0.length : Int).toNat (⟨ByteArray.empty, []⟩ : S28)).length) 2 ((List.replicate (a0.length : Int).toNat (⟨ByteArray.empty, []⟩ : S28)).length * 2)))] [(4000000514, ((List.replicate (a0.length : Int).toNat (⟨ByteArray.empty, []⟩ : S28)).flatMap o28))] (shcA 514 (a2reptO (enc := o28) (x := (⟨ByteArray.empty, []⟩ : S28)) (a2c (.inl (.z .s)) (a2c cnvN a2n)) _) (.inr (rept_no rfl _)) shn) (enc_ (.z (frz_sl (e23_ok true) (fun h => h))) (enc_ (.rf (memP_mem (p := (514, 4000000514)) rfl)) enn)) ?_
      refine .reg' [0, 3, 4] [] ⟨[(0, (.sl true a0.length 2 (a0.flatMap (e23 true)))), (3, (.rf 4000000514 0 ((List.replicate (a0.length : Int).toNat (⟨ByteArray.empty, []⟩ : S28)).length) 2 ((List.replicate (a0.length : Int).toNat (⟨ByteArray.empty, []⟩ : S28)).length * 2))), (4, (I 0))], [(4000000514, ((List.replicate (a0.length : Int).toNat (⟨ByteArray.empty, []⟩ : S28)).flatMap o28))], [], []⟩ [l_ 58, b_ 0, c_ 15] aln nocal ?_
      exact ih0 a0 (List.replicate (a0.length : Int).toNat (⟨ByteArray.empty, []⟩ : S28)) 0 _ h
    · rw [if_neg c2] at h
      cases h
  · rw [if_neg c1] at h
    cases h
/-! spec_l01In: function 41 -/
def spec_l01In.f (a0 : Int) (a1 : Int) (a2 : Int) : Option Bool := (if a1 ≤ a0 then (some (decide (a0 ≤ a2))) else (some false))
theorem spec_l01In.J (a0 : Int) (a1 : Int) (a2 : Int) (r : Bool) (h : spec_l01In.f a0 a1 a2 = some r) : J prog (.call 41 [(I a0), (I a1), (I a2)] [] (B r) []) := by
  unfold spec_l01In.f at h
  refine .call' [c_ 2, c_ 3] ?_
  refine .reg' [0, 1, 2] [] ⟨[(0, (I a0)), (1, (I a1)), (2, (I a2))], [], [], []⟩ [c_ 6, c_ 7] aln nocal ?_
  by_cases c1 : a1 ≤ a0
  · rw [if_pos c1] at h
    refine .reg' [6] [.no, .no, .no, .v (B true)] ⟨[(6, (B (decide (a0 ≤ a2))))], [], [(B (decide (a1 ≤ a0)) : V) = B true], []⟩ [c_ 7] (alc (bT (dT c1)) aln) nocal ?_
    have h := Option.some.inj h
    subst h
    exact .fin0 [] (B (decide (a0 ≤ a2))) [] aln (.z .s)
  · rw [if_neg c1] at h
    refine .reg' [6] [.no, .no, .no, .v (B false)] ⟨[(6, (B false))], [], [(B (decide (a1 ≤ a0)) : V) = B false], []⟩ [c_ 7] (alc (bF (dF c1)) aln) nocal ?_
    have h := Option.some.inj h
    subst h
    exact .fin0 [] (B false) [] aln (.z .s)
/-! spec_l01Name: function 40 -/
def spec_l01Name.l0 : Nat → ByteArray → Int → Option Bool
 | 0, _, _ => none
 | k + 1, a0, x1 => (if x1 < (a0.size : Int) then (if 0 ≤ x1 then (if (bt a0 x1) ≥ 97 then (if (bt a0 x1) ≤ 122 then (spec_l01Name.l0 k a0 (wrap64 (x1 + 1))) else (if (bt a0 x1) ≥ 48 then (if (bt a0 x1) ≤ 57 then (spec_l01Name.l0 k a0 (wrap64 (x1 + 1))) else (some false)) else (some false))) else (if (bt a0 x1) ≥ 48 then (if (bt a0 x1) ≤ 57 then (spec_l01Name.l0 k a0 (wrap64 (x1 + 1))) else (some false)) else (some false))) else none) else ((spec_l01In.f (a0.size : Int) 1 12).bind fun x2 => (some x2)))
def spec_l01Name.f (k : Nat) (a0 : ByteArray) : Option Bool := (spec_l01Name.l0 k a0 0)
theorem spec_l01Name.lab : ∀ k, (∀ (a0 : ByteArray) (x1 : Int) (r : Bool), spec_l01Name.l0 k a0 x1 = some r → J prog (.run 40 [] [l_ 26, b_ 0, c_ 7] [(0, (S a0)), (3, (I x1))] [] (B r) []))
 | 0 => (by intro a0 x1 r h; unfold spec_l01Name.l0 at h; cases h)
 | k + 1 => by
  have ih0 := spec_l01Name.lab k
  · intro a0 x1 r h
    unfold spec_l01Name.l0 at h
    refine .loop' [c_ 208, c_ 209, c_ 105, l_ 26, b_ 0, c_ 7] ?_
    refine .reg' [0, 3, 8] [] ⟨[(0, (S a0)), (3, (I x1)), (8, (B (decide (x1 < (a0.size : Int)))))], [], [], []⟩ [c_ 209, c_ 105, l_ 26, b_ 0, c_ 7] aln nocal ?_
    by_cases c1 : x1 < (a0.size : Int)
    · rw [if_pos c1] at h
      refine .cond' (.tmp 8) true [c_ 840, c_ 841, b_ 1, c_ 211, l_ 26, b_ 0, c_ 7] (bT (dT c1)) ?_
      by_cases c2 : 0 ≤ x1
      · rw [if_pos c2] at h
        refine .reg' [0, 3, 4] [] ⟨[(0, (S a0)), (3, (I x1)), (4, (U (bt a0 x1)))], [], [(0 : Int) ≤ x1 ∧ x1 < (a0.size : Int)], []⟩ [c_ 1682, c_ 1683, b_ 1, c_ 211, l_ 26, b_ 0, c_ 7] (alc ⟨c2, c1⟩ aln) nocal ?_
        by_cases c3 : (bt a0 x1) ≥ 97
        · rw [if_pos c3] at h
          by_cases c4 : (bt a0 x1) ≤ 122
          · rw [if_pos c4] at h
            refine .reg' [0, 3, 29] [.no, .no, .v (B true), .no, .no, .no, .no, .v (B false)] ⟨[(0, (S a0)), (3, (I x1)), (29, (B false))], [], [(B (decide ((bt a0 x1) ≥ 97)) : V) = B true, (B (!(decide ((bt a0 x1) ≤ 122))) : V) = B false], []⟩ [c_ 1683, b_ 1, c_ 211, l_ 26, b_ 0, c_ 7] (alc (bT (dT c3)) (alc (bF (nF (dT c4))) aln)) nocal ?_
            refine .cond' (.tmp 29) false [c_ 211, l_ 26, b_ 0, c_ 7] (rfl) ?_
            refine .reg' [0, 3] [] ⟨[(0, (S a0)), (3, (I (wrap64 (x1 + 1))))], [], [], []⟩ [l_ 26, b_ 0, c_ 7] aln nocal ?_
            exact ih0 a0 (wrap64 (x1 + 1)) _ h
          · rw [if_neg c4] at h
            by_cases c5 : (bt a0 x1) ≥ 48
            · rw [if_pos c5] at h
              refine .reg' [0, 3, 29] [.no, .no, .v (B true), .no, .no, .no, .no, .v (B true), .no, .no, .v (B true)] ⟨[(0, (S a0)), (3, (I x1)), (29, (B (!(decide ((bt a0 x1) ≤ 57)))))], [], [(B (decide ((bt a0 x1) ≥ 97)) : V) = B true, (B (!(decide ((bt a0 x1) ≤ 122))) : V) = B true, (B (decide ((bt a0 x1) ≥ 48)) : V) = B true], []⟩ [c_ 1683, b_ 1, c_ 211, l_ 26, b_ 0, c_ 7] (alc (bT (dT c3)) (alc (bT (nT (dF c4))) (alc (bT (dT c5)) aln))) nocal ?_
              by_cases c6 : (bt a0 x1) ≤ 57
              · rw [if_pos c6] at h
                refine .cond' (.tmp 29) false [c_ 211, l_ 26, b_ 0, c_ 7] (bF (nF (dT c6))) ?_
                refine .reg' [0, 3] [] ⟨[(0, (S a0)), (3, (I (wrap64 (x1 + 1))))], [], [], []⟩ [l_ 26, b_ 0, c_ 7] aln nocal ?_
                exact ih0 a0 (wrap64 (x1 + 1)) _ h
              · rw [if_neg c6] at h
                refine .cond' (.tmp 29) true [c_ 6732, c_ 6733, b_ 1, c_ 211, l_ 26, b_ 0, c_ 7] (bT (nT (dF c6))) ?_
                refine .reg' [2] [] ⟨[(2, (B false))], [], [], []⟩ [c_ 6733, b_ 1, c_ 211, l_ 26, b_ 0, c_ 7] aln nocal ?_
                have h := Option.some.inj h
                subst h
                exact .fin0 [] (B false) [] aln (.z .s)
            · rw [if_neg c5] at h
              refine .reg' [0, 3, 29] [.no, .no, .v (B true), .no, .no, .no, .no, .v (B true), .no, .no, .v (B false)] ⟨[(0, (S a0)), (3, (I x1)), (29, (B true))], [], [(B (decide ((bt a0 x1) ≥ 97)) : V) = B true, (B (!(decide ((bt a0 x1) ≤ 122))) : V) = B true, (B (decide ((bt a0 x1) ≥ 48)) : V) = B false], []⟩ [c_ 1683, b_ 1, c_ 211, l_ 26, b_ 0, c_ 7] (alc (bT (dT c3)) (alc (bT (nT (dF c4))) (alc (bF (dF c5)) aln))) nocal ?_
              refine .cond' (.tmp 29) true [c_ 6732, c_ 6733, b_ 1, c_ 211, l_ 26, b_ 0, c_ 7] (rfl) ?_
              refine .reg' [2] [] ⟨[(2, (B false))], [], [], []⟩ [c_ 6733, b_ 1, c_ 211, l_ 26, b_ 0, c_ 7] aln nocal ?_
              have h := Option.some.inj h
              subst h
              exact .fin0 [] (B false) [] aln (.z .s)
        · rw [if_neg c3] at h
          by_cases c7 : (bt a0 x1) ≥ 48
          · rw [if_pos c7] at h
            refine .reg' [0, 3, 29] [.no, .no, .v (B false), .no, .no, .no, .no, .no, .no, .no, .v (B true)] ⟨[(0, (S a0)), (3, (I x1)), (29, (B (!(decide ((bt a0 x1) ≤ 57)))))], [], [(B (decide ((bt a0 x1) ≥ 97)) : V) = B false, (B (decide ((bt a0 x1) ≥ 48)) : V) = B true], []⟩ [c_ 1683, b_ 1, c_ 211, l_ 26, b_ 0, c_ 7] (alc (bF (dF c3)) (alc (bT (dT c7)) aln)) nocal ?_
            by_cases c8 : (bt a0 x1) ≤ 57
            · rw [if_pos c8] at h
              refine .cond' (.tmp 29) false [c_ 211, l_ 26, b_ 0, c_ 7] (bF (nF (dT c8))) ?_
              refine .reg' [0, 3] [] ⟨[(0, (S a0)), (3, (I (wrap64 (x1 + 1))))], [], [], []⟩ [l_ 26, b_ 0, c_ 7] aln nocal ?_
              exact ih0 a0 (wrap64 (x1 + 1)) _ h
            · rw [if_neg c8] at h
              refine .cond' (.tmp 29) true [c_ 6732, c_ 6733, b_ 1, c_ 211, l_ 26, b_ 0, c_ 7] (bT (nT (dF c8))) ?_
              refine .reg' [2] [] ⟨[(2, (B false))], [], [], []⟩ [c_ 6733, b_ 1, c_ 211, l_ 26, b_ 0, c_ 7] aln nocal ?_
              have h := Option.some.inj h
              subst h
              exact .fin0 [] (B false) [] aln (.z .s)
          · rw [if_neg c7] at h
            refine .reg' [0, 3, 29] [.no, .no, .v (B false), .no, .no, .no, .no, .no, .no, .no, .v (B false)] ⟨[(0, (S a0)), (3, (I x1)), (29, (B true))], [], [(B (decide ((bt a0 x1) ≥ 97)) : V) = B false, (B (decide ((bt a0 x1) ≥ 48)) : V) = B false], []⟩ [c_ 1683, b_ 1, c_ 211, l_ 26, b_ 0, c_ 7] (alc (bF (dF c3)) (alc (bF (dF c7)) aln)) nocal ?_
            refine .cond' (.tmp 29) true [c_ 6732, c_ 6733, b_ 1, c_ 211, l_ 26, b_ 0, c_ 7] (rfl) ?_
            refine .reg' [2] [] ⟨[(2, (B false))], [], [], []⟩ [c_ 6733, b_ 1, c_ 211, l_ 26, b_ 0, c_ 7] aln nocal ?_
            have h := Option.some.inj h
            subst h
            exact .fin0 [] (B false) [] aln (.z .s)
      · rw [if_neg c2] at h
        cases h
    · rw [if_neg c1] at h
      refine .cond' (.tmp 8) false [c_ 14, c_ 15] (bF (dF c1)) ?_
      obtain ⟨x2, hx2, h⟩ := Option.bind_eq_some_iff.mp h
      refine .reg' [2] [.no, .no, .c ⟨41, [(I (a0.size : Int)), (I 1), (I 12)], [], (B x2), [], [], [], [], (B x2), []⟩] ⟨[(2, (B x2))], [], [COK (hget []) [(I (a0.size : Int)), (I 1), (I 12)] ⟨41, [(I (a0.size : Int)), (I 1), (I 12)], [], (B x2), [], [], [], [], (B x2), []⟩], [⟨41, [(I (a0.size : Int)), (I 1), (I 12)], [], (B x2), [], [], [], [], (B x2), []⟩]⟩ [c_ 15] (alc (cok0 false (a2c (.z .s) (a2c (.z .s) (a2c (.z .s) a2n))) (.z .s) (fun h => absurd h (by decide))) aln) (acal (spec_l01In.J (a0.size : Int) 1 12 _ hx2) nocal) ?_
      have h := Option.some.inj h
      subst h
      exact .fin0 [] (B x2) [] aln (.z .s)
theorem spec_l01Name.J (k : Nat) (a0 : ByteArray) (r : Bool) (h : spec_l01Name.f k a0 = some r) : J prog (.call 40 [(S a0)] [] (B r) []) := by
  unfold spec_l01Name.f at h
  have ih0 := spec_l01Name.lab k
  refine .call' [c_ 2, c_ 3] ?_
  refine .reg' [0] [] ⟨[(0, (S a0))], [], [], []⟩ [c_ 12, c_ 13, c_ 7] aln nocal ?_
  refine .reg' [0, 3] [] ⟨[(0, (S a0)), (3, (I 0))], [], [], []⟩ [l_ 26, b_ 0, c_ 7] aln nocal ?_
  exact ih0 a0 0 _ h
/-! spec_TripOk: function 12 -/
def spec_TripOk.l0 : Nat → S28 → Int → Option Bool
 | 0, _, _ => none
 | k + 1, a0, x3 => (if x3 < (a0.f1.length : Int) then (if 0 ≤ x3 then ((spec_l01In.f ((at_ a0.f1 x3).f0) 0 29).bind fun x4 => (if x4 = true then ((spec_l01In.f ((at_ a0.f1 x3).f2) 0 100000).bind fun x5 => (if x5 = true then ((spec_l01In.f ((at_ a0.f1 x3).f1) 0 ((at_ a0.f1 x3).f2)).bind fun x6 => (if x6 = true then (if x3 > 0 then (if 0 ≤ (wrap64 (x3 - 1)) then (if (wrap64 (x3 - 1)) < (a0.f1.length : Int) then (if (at_ a0.f1 (wrap64 (x3 - 1))).f2 ≥ (at_ a0.f1 x3).f1 then (some false) else (if (at_ a0.f1 (wrap64 (x3 - 1))).f0 = (at_ a0.f1 x3).f0 then (some false) else (spec_TripOk.l0 k a0 (wrap64 (x3 + 1))))) else none) else none) else (spec_TripOk.l0 k a0 (wrap64 (x3 + 1)))) else (some false))) else (some false))) else (some false))) else none) else (some true))
def spec_TripOk.f (k : Nat) (a0 : S28) : Option Bool := ((spec_l01Name.f k a0.f0).bind fun x1 => (if x1 = true then ((spec_l01In.f (a0.f1.length : Int) 2 12).bind fun x2 => (if x2 = true then (spec_TripOk.l0 k a0 0) else (some false))) else (some false)))
theorem spec_TripOk.lab : ∀ k, (∀ (a0 : S28) (x3 : Int) (r : Bool), spec_TripOk.l0 k a0 x3 = some r → J prog (.run 12 [] [l_ 58, b_ 0, c_ 15] [(1, (.pt 256 0 2)), (3, (I x3))] [(256, [(S a0.f0), (.sl true a0.f1.length 3 (a0.f1.flatMap e54))])] (B r) []))
 | 0 => (by intro a0 x3 r h; unfold spec_TripOk.l0 at h; cases h)
 | k + 1 => by
  have ih0 := spec_TripOk.lab k
  · intro a0 x3 r h
    unfold spec_TripOk.l0 at h
    refine .loop' [c_ 464, c_ 465, c_ 233, l_ 58, b_ 0, c_ 15] ?_
    refine .reg' [1, 3, 20] [] ⟨[(1, (.pt 256 0 2)), (3, (I x3)), (20, (B (decide (x3 < (a0.f1.length : Int)))))], [(256, [(S a0.f0), (.sl true a0.f1.length 3 (a0.f1.flatMap e54))])], [2 = 2 ∧ 1 + 1 ≤ 2], []⟩ [c_ 465, c_ 233, l_ 58, b_ 0, c_ 15] (alc ⟨rfl, by decide⟩ aln) nocal ?_
    by_cases c3 : x3 < (a0.f1.length : Int)
    · rw [if_pos c3] at h
      refine .cond' (.tmp 20) true [c_ 1864, c_ 1865, b_ 1, c_ 467, l_ 58, b_ 0, c_ 15] (bT (dT c3)) ?_
      by_cases c4 : 0 ≤ x3
      · rw [if_pos c4] at h
        refine .reg' [1, 3, 4] [.no, .no, .no, .no, .v (.ag [(I (at_ a0.f1 x3).f0), (I (at_ a0.f1 x3).f1), (I (at_ a0.f1 x3).f2)])] ⟨[(1, (.pt 256 0 2)), (3, (I x3)), (4, (.pt 1797 0 3))], [(256, [(S a0.f0), (.sl true a0.f1.length 3 (a0.f1.flatMap e54))]), (1797, [(I (at_ a0.f1 x3).f0), (I (at_ a0.f1 x3).f1), (I (at_ a0.f1 x3).f2)])], [2 = 2 ∧ 1 + 1 ≤ 2, (0 : Int) ≤ x3 ∧ x3 < (a0.f1.length : Int), rdC prog 55 ((a0.f1.flatMap e54).drop (x3.toNat * 3)) = (.ag [(I (at_ a0.f1 x3).f0), (I (at_ a0.f1 x3).f1), (I (at_ a0.f1 x3).f2)]), 3 ≤ ((a0.f1.flatMap e54).drop (x3.toNat * 3)).length, 3 = 3 ∧ 0 + 3 ≤ 3], []⟩ [c_ 7460, c_ 7461, c_ 3731, b_ 1, c_ 467, l_ 58, b_ 0, c_ 15] (alc ⟨rfl, by decide⟩ (alc ⟨c4, c3⟩ (alc (ldA e54_ok rfl rfl c4 c3) (alc (okI e54_ok c4 c3 (by decide)) (alc ⟨rfl, by decide⟩ aln))))) nocal ?_
        obtain ⟨x4, hx4, h⟩ := Option.bind_eq_some_iff.mp h
        by_cases c5 : x4 = true
        · rw [if_pos c5] at h
          obtain ⟨x5, hx5, h⟩ := Option.bind_eq_some_iff.mp h
          by_cases c6 : x5 = true
          · rw [if_pos c6] at h
            obtain ⟨x6, hx6, h⟩ := Option.bind_eq_some_iff.mp h
            refine .reg' [1, 3, 4, 45] [.no, .no, .c ⟨41, [(I (at_ a0.f1 x3).f0), (I 0), (I 29)], [], (B x4), [], [], [], [], (B x4), []⟩, .no, .v (B false), .no, .no, .c ⟨41, [(I (at_ a0.f1 x3).f2), (I 0), (I 100000)], [], (B x5), [], [], [], [], (B x5), []⟩, .no, .no, .v (B false), .no, .no, .no, .no, .c ⟨41, [(I (at_ a0.f1 x3).f1), (I 0), (I (at_ a0.f1 x3).f2)], [], (B x6), [], [], [], [], (B x6), []⟩] ⟨[(1, (.pt 256 0 2)), (3, (I x3)), (4, (.pt 1797 0 3)), (45, (B (!x6)))], [(256, [(S a0.f0), (.sl true a0.f1.length 3 (a0.f1.flatMap e54))]), (1797, [(I (at_ a0.f1 x3).f0), (I (at_ a0.f1 x3).f1), (I (at_ a0.f1 x3).f2)])], [3 = 3 ∧ 0 + 1 ≤ 3, COK (hget [(256, [(S a0.f0), (.sl true a0.f1.length 3 (a0.f1.flatMap e54))]), (1797, [(I (at_ a0.f1 x3).f0), (I (at_ a0.f1 x3).f1), (I (at_ a0.f1 x3).f2)])]) [(I (at_ a0.f1 x3).f0), (I 0), (I 29)] ⟨41, [(I (at_ a0.f1 x3).f0), (I 0), (I 29)], [], (B x4), [], [], [], [], (B x4), []⟩, (B (!x4) : V) = B false, 3 = 3 ∧ 2 + 1 ≤ 3, COK (hget [(256, [(S a0.f0), (.sl true a0.f1.length 3 (a0.f1.flatMap e54))]), (1797, [(I (at_ a0.f1 x3).f0), (I (at_ a0.f1 x3).f1), (I (at_ a0.f1 x3).f2)])]) [(I (at_ a0.f1 x3).f2), (I 0), (I 100000)] ⟨41, [(I (at_ a0.f1 x3).f2), (I 0), (I 100000)], [], (B x5), [], [], [], [], (B x5), []⟩, (B (!x5) : V) = B false, 3 = 3 ∧ 1 + 1 ≤ 3, 3 = 3 ∧ 2 + 1 ≤ 3, COK (hget [(256, [(S a0.f0), (.sl true a0.f1.length 3 (a0.f1.flatMap e54))]), (1797, [(I (at_ a0.f1 x3).f0), (I (at_ a0.f1 x3).f1), (I (at_ a0.f1 x3).f2)])]) [(I (at_ a0.f1 x3).f1), (I 0), (I (at_ a0.f1 x3).f2)] ⟨41, [(I (at_ a0.f1 x3).f1), (I 0), (I (at_ a0.f1 x3).f2)], [], (B x6), [], [], [], [], (B x6), []⟩], [⟨41, [(I (at_ a0.f1 x3).f0), (I 0), (I 29)], [], (B x4), [], [], [], [], (B x4), []⟩, ⟨41, [(I (at_ a0.f1 x3).f2), (I 0), (I 100000)], [], (B x5), [], [], [], [], (B x5), []⟩, ⟨41, [(I (at_ a0.f1 x3).f1), (I 0), (I (at_ a0.f1 x3).f2)], [], (B x6), [], [], [], [], (B x6), []⟩]⟩ [c_ 7461, c_ 3731, b_ 1, c_ 467, l_ 58, b_ 0, c_ 15] (alc ⟨rfl, by decide⟩ (alc (cok0 false (a2c (.z .s) (a2c (.z .s) (a2c (.z .s) a2n))) (.z .s) (fun h => absurd h (by decide))) (alc (bF (nF c5)) (alc ⟨rfl, by decide⟩ (alc (cok0 false (a2c (.z .s) (a2c (.z .s) (a2c (.z .s) a2n))) (.z .s) (fun h => absurd h (by decide))) (alc (bF (nF c6)) (alc ⟨rfl, by decide⟩ (alc ⟨rfl, by decide⟩ (alc (cok0 false (a2c (.z .s) (a2c (.z .s) (a2c (.z .s) a2n))) (.z .s) (fun h => absurd h (by decide))) aln))))))))) (acal (spec_l01In.J ((at_ a0.f1 x3).f0) 0 29 _ hx4) (acal (spec_l01In.J ((at_ a0.f1 x3).f2) 0 100000 _ hx5) (acal (spec_l01In.J ((at_ a0.f1 x3).f1) 0 ((at_ a0.f1 x3).f2) _ hx6) nocal))) ?_
            by_cases c7 : x6 = true
            · rw [if_pos c7] at h
              refine .cond' (.tmp 45) false [c_ 7462, c_ 7463, b_ 1, c_ 467, l_ 58, b_ 0, c_ 15] (bF (nF c7)) ?_
              by_cases c8 : x3 > 0
              · rw [if_pos c8] at h
                by_cases c9 : 0 ≤ (wrap64 (x3 - 1))
                · rw [if_pos c9] at h
                  by_cases c10 : (wrap64 (x3 - 1)) < (a0.f1.length : Int)
                  · rw [if_pos c10] at h
                    by_cases c11 : (at_ a0.f1 (wrap64 (x3 - 1))).f2 ≥ (at_ a0.f1 x3).f1
                    · rw [if_pos c11] at h
                      refine .reg' [1, 3, 71] [.no, .no, .v (B true), .no, .no, .no, .no, .no, .no, .v (I (at_ a0.f1 (wrap64 (x3 - 1))).f2), .no, .no, .no, .v (B true)] ⟨[(1, (.pt 256 0 2)), (3, (I x3)), (71, (B true))], [(256, [(S a0.f0), (.sl true a0.f1.length 3 (a0.f1.flatMap e54))]), (1797, [(I (at_ a0.f1 x3).f0), (I (at_ a0.f1 x3).f1), (I (at_ a0.f1 x3).f2)])], [(B (decide (x3 > 0)) : V) = B true, 2 = 2 ∧ 1 + 1 ≤ 2, (0 : Int) ≤ (wrap64 (x3 - 1)) ∧ (wrap64 (x3 - 1)) < (a0.f1.length : Int), rdC prog 3 (((a0.f1.flatMap e54).drop ((wrap64 (x3 - 1)).toNat * 3)).drop 2) = (I (at_ a0.f1 (wrap64 (x3 - 1))).f2), 1 ≤ (((a0.f1.flatMap e54).drop ((wrap64 (x3 - 1)).toNat * 3)).drop 2).length, 3 = 3 ∧ 1 + 1 ≤ 3, (B (decide ((at_ a0.f1 (wrap64 (x3 - 1))).f2 ≥ (at_ a0.f1 x3).f1)) : V) = B true], []⟩ [c_ 7463, b_ 1, c_ 467, l_ 58, b_ 0, c_ 15] (alc (bT (dT c8)) (alc ⟨rfl, by decide⟩ (alc ⟨c9, c10⟩ (alc (ldC e54_ok 2 (by decide) rfl c9 c10) (alc (okIj e54_ok c9 c10 (by decide)) (alc ⟨rfl, by decide⟩ (alc (bT (dT c11)) aln))))))) nocal ?_
                      refine .cond' (.tmp 71) true [c_ 29852, c_ 29853, b_ 1, c_ 467, l_ 58, b_ 0, c_ 15] (rfl) ?_
                      refine .reg' [2] [] ⟨[(2, (B false))], [(256, [(S a0.f0), (.sl true a0.f1.length 3 (a0.f1.flatMap e54))]), (1797, [(I (at_ a0.f1 x3).f0), (I (at_ a0.f1 x3).f1), (I (at_ a0.f1 x3).f2)])], [], []⟩ [c_ 29853, b_ 1, c_ 467, l_ 58, b_ 0, c_ 15] aln nocal ?_
                      have h := Option.some.inj h
                      subst h
                      exact .fin0 [] (B false) [] aln (.z .s)
                    · rw [if_neg c11] at h
                      refine .reg' [1, 3, 71] [.no, .no, .v (B true), .no, .no, .no, .no, .no, .no, .v (I (at_ a0.f1 (wrap64 (x3 - 1))).f2), .no, .no, .no, .v (B false), .no, .no, .no, .no, .no, .no, .v (I (at_ a0.f1 (wrap64 (x3 - 1))).f0)] ⟨[(1, (.pt 256 0 2)), (3, (I x3)), (71, (B ((at_ a0.f1 (wrap64 (x3 - 1))).f0 == (at_ a0.f1 x3).f0)))], [(256, [(S a0.f0), (.sl true a0.f1.length 3 (a0.f1.flatMap e54))]), (1797, [(I (at_ a0.f1 x3).f0), (I (at_ a0.f1 x3).f1), (I (at_ a0.f1 x3).f2)])], [(B (decide (x3 > 0)) : V) = B true, 2 = 2 ∧ 1 + 1 ≤ 2, (0 : Int) ≤ (wrap64 (x3 - 1)) ∧ (wrap64 (x3 - 1)) < (a0.f1.length : Int), rdC prog 3 (((a0.f1.flatMap e54).drop ((wrap64 (x3 - 1)).toNat * 3)).drop 2) = (I (at_ a0.f1 (wrap64 (x3 - 1))).f2), 1 ≤ (((a0.f1.flatMap e54).drop ((wrap64 (x3 - 1)).toNat * 3)).drop 2).length, 3 = 3 ∧ 1 + 1 ≤ 3, (B (decide ((at_ a0.f1 (wrap64 (x3 - 1))).f2 ≥ (at_ a0.f1 x3).f1)) : V) = B false, 2 = 2 ∧ 1 + 1 ≤ 2, (0 : Int) ≤ (wrap64 (x3 - 1)) ∧ (wrap64 (x3 - 1)) < (a0.f1.length : Int), rdC prog 3 (((a0.f1.flatMap e54).drop ((wrap64 (x3 - 1)).toNat * 3)).drop 0) = (I (at_ a0.f1 (wrap64 (x3 - 1))).f0), 1 ≤ (((a0.f1.flatMap e54).drop ((wrap64 (x3 - 1)).toNat * 3)).drop 0).length, 3 = 3 ∧ 0 + 1 ≤ 3], []⟩ [c_ 7463, b_ 1, c_ 467, l_ 58, b_ 0, c_ 15] (alc (bT (dT c8)) (alc ⟨rfl, by decide⟩ (alc ⟨c9, c10⟩ (alc (ldC e54_ok 2 (by decide) rfl c9 c10) (alc (okIj e54_ok c9 c10 (by decide)) (alc ⟨rfl, by decide⟩ (alc (bF (dF c11)) (alc ⟨rfl, by decide⟩ (alc ⟨c9, c10⟩ (alc (ldC e54_ok 0 (by decide) rfl c9 c10) (alc (okIj e54_ok c9 c10 (by decide)) (alc ⟨rfl, by decide⟩ aln)))))))))))) nocal ?_
                      by_cases c12 : (at_ a0.f1 (wrap64 (x3 - 1))).f0 = (at_ a0.f1 x3).f0
                      · rw [if_pos c12] at h
                        refine .cond' (.tmp 71) true [c_ 29852, c_ 29853, b_ 1, c_ 467, l_ 58, b_ 0, c_ 15] (bT (qT c12)) ?_
                        refine .reg' [2] [] ⟨[(2, (B false))], [(256, [(S a0.f0), (.sl true a0.f1.length 3 (a0.f1.flatMap e54))]), (1797, [(I (at_ a0.f1 x3).f0), (I (at_ a0.f1 x3).f1), (I (at_ a0.f1 x3).f2)])], [], []⟩ [c_ 29853, b_ 1, c_ 467, l_ 58, b_ 0, c_ 15] aln nocal ?_
                        have h := Option.some.inj h
                        subst h
                        exact .fin0 [] (B false) [] aln (.z .s)
                      · rw [if_neg c12] at h
                        refine .cond' (.tmp 71) false [c_ 467, l_ 58, b_ 0, c_ 15] (bF (qF c12)) ?_
                        refine .reg' [1, 3] [] ⟨[(1, (.pt 256 0 2)), (3, (I (wrap64 (x3 + 1))))], [(256, [(S a0.f0), (.sl true a0.f1.length 3 (a0.f1.flatMap e54))]), (1797, [(I (at_ a0.f1 x3).f0), (I (at_ a0.f1 x3).f1), (I (at_ a0.f1 x3).f2)])], [], []⟩ [l_ 58, b_ 0, c_ 15] aln nocal ?_
                        refine .wk' [] [(256, 256)] [(1, (.pt 256 0 2)), (3, (I (wrap64 (x3 + 1))))] [(256, [(S a0.f0), (.sl true a0.f1.length 3 (a0.f1.flatMap e54))])] (shc 256 (a2c (.z .s) (a2c (.z (frz_sl e54_ok (fun h => h))) a2n)) shn) (enc_ (.pt (memP_mem (p := (256, 256)) rfl)) (enc_ (.z .s) enn)) ?_
                        exact ih0 a0 (wrap64 (x3 + 1)) _ h
                  · rw [if_neg c10] at h
                    cases h
                · rw [if_neg c9] at h
                  cases h
              · rw [if_neg c8] at h
                refine .reg' [1, 3, 71] [.no, .no, .v (B false)] ⟨[(1, (.pt 256 0 2)), (3, (I x3)), (71, (B false))], [(256, [(S a0.f0), (.sl true a0.f1.length 3 (a0.f1.flatMap e54))]), (1797, [(I (at_ a0.f1 x3).f0), (I (at_ a0.f1 x3).f1), (I (at_ a0.f1 x3).f2)])], [(B (decide (x3 > 0)) : V) = B false], []⟩ [c_ 7463, b_ 1, c_ 467, l_ 58, b_ 0, c_ 15] (alc (bF (dF c8)) aln) nocal ?_
                refine .cond' (.tmp 71) false [c_ 467, l_ 58, b_ 0, c_ 15] (rfl) ?_
                refine .reg' [1, 3] [] ⟨[(1, (.pt 256 0 2)), (3, (I (wrap64 (x3 + 1))))], [(256, [(S a0.f0), (.sl true a0.f1.length 3 (a0.f1.flatMap e54))]), (1797, [(I (at_ a0.f1 x3).f0), (I (at_ a0.f1 x3).f1), (I (at_ a0.f1 x3).f2)])], [], []⟩ [l_ 58, b_ 0, c_ 15] aln nocal ?_
                refine .wk' [] [(256, 256)] [(1, (.pt 256 0 2)), (3, (I (wrap64 (x3 + 1))))] [(256, [(S a0.f0), (.sl true a0.f1.length 3 (a0.f1.flatMap e54))])] (shc 256 (a2c (.z .s) (a2c (.z (frz_sl e54_ok (fun h => h))) a2n)) shn) (enc_ (.pt (memP_mem (p := (256, 256)) rfl)) (enc_ (.z .s) enn)) ?_
                exact ih0 a0 (wrap64 (x3 + 1)) _ h
            · rw [if_neg c7] at h
              refine .cond' (.tmp 45) true [c_ 29844, c_ 29845, c_ 3731, b_ 1, c_ 467, l_ 58, b_ 0, c_ 15] (bT (nT (vF c7))) ?_
              refine .reg' [2] [] ⟨[(2, (B false))], [(256, [(S a0.f0), (.sl true a0.f1.length 3 (a0.f1.flatMap e54))]), (1797, [(I (at_ a0.f1 x3).f0), (I (at_ a0.f1 x3).f1), (I (at_ a0.f1 x3).f2)])], [], []⟩ [c_ 29845, c_ 3731, b_ 1, c_ 467, l_ 58, b_ 0, c_ 15] aln nocal ?_
              have h := Option.some.inj h
              subst h
              exact .fin0 [] (B false) [] aln (.z .s)
          · rw [if_neg c6] at h
            refine .reg' [1, 3, 4, 45] [.no, .no, .c ⟨41, [(I (at_ a0.f1 x3).f0), (I 0), (I 29)], [], (B x4), [], [], [], [], (B x4), []⟩, .no, .v (B false), .no, .no, .c ⟨41, [(I (at_ a0.f1 x3).f2), (I 0), (I 100000)], [], (B x5), [], [], [], [], (B x5), []⟩, .no, .no, .v (B true)] ⟨[(1, (.pt 256 0 2)), (3, (I x3)), (4, (.pt 1797 0 3)), (45, (B true))], [(256, [(S a0.f0), (.sl true a0.f1.length 3 (a0.f1.flatMap e54))]), (1797, [(I (at_ a0.f1 x3).f0), (I (at_ a0.f1 x3).f1), (I (at_ a0.f1 x3).f2)])], [3 = 3 ∧ 0 + 1 ≤ 3, COK (hget [(256, [(S a0.f0), (.sl true a0.f1.length 3 (a0.f1.flatMap e54))]), (1797, [(I (at_ a0.f1 x3).f0), (I (at_ a0.f1 x3).f1), (I (at_ a0.f1 x3).f2)])]) [(I (at_ a0.f1 x3).f0), (I 0), (I 29)] ⟨41, [(I (at_ a0.f1 x3).f0), (I 0), (I 29)], [], (B x4), [], [], [], [], (B x4), []⟩, (B (!x4) : V) = B false, 3 = 3 ∧ 2 + 1 ≤ 3, COK (hget [(256, [(S a0.f0), (.sl true a0.f1.length 3 (a0.f1.flatMap e54))]), (1797, [(I (at_ a0.f1 x3).f0), (I (at_ a0.f1 x3).f1), (I (at_ a0.f1 x3).f2)])]) [(I (at_ a0.f1 x3).f2), (I 0), (I 100000)] ⟨41, [(I (at_ a0.f1 x3).f2), (I 0), (I 100000)], [], (B x5), [], [], [], [], (B x5), []⟩, (B (!x5) : V) = B true], [⟨41, [(I (at_ a0.f1 x3).f0), (I 0), (I 29)], [], (B x4), [], [], [], [], (B x4), []⟩, ⟨41, [(I (at_ a0.f1 x3).f2), (I 0), (I 100000)], [], (B x5), [], [], [], [], (B x5), []⟩]⟩ [c_ 7461, c_ 3731, b_ 1, c_ 467, l_ 58, b_ 0, c_ 15] (alc ⟨rfl, by decide⟩ (alc (cok0 false (a2c (.z .s) (a2c (.z .s) (a2c (.z .s) a2n))) (.z .s) (fun h => absurd h (by decide))) (alc (bF (nF c5)) (alc ⟨rfl, by decide⟩ (alc (cok0 false (a2c (.z .s) (a2c (.z .s) (a2c (.z .s) a2n))) (.z .s) (fun h => absurd h (by decide))) (alc (bT (nT (vF c6))) aln)))))) (acal (spec_l01In.J ((at_ a0.f1 x3).f0) 0 29 _ hx4) (acal (spec_l01In.J ((at_ a0.f1 x3).f2) 0 100000 _ hx5) nocal)) ?_
            refine .cond' (.tmp 45) true [c_ 29844, c_ 29845, c_ 3731, b_ 1, c_ 467, l_ 58, b_ 0, c_ 15] (rfl) ?_
            refine .reg' [2] [] ⟨[(2, (B false))], [(256, [(S a0.f0), (.sl true a0.f1.length 3 (a0.f1.flatMap e54))]), (1797, [(I (at_ a0.f1 x3).f0), (I (at_ a0.f1 x3).f1), (I (at_ a0.f1 x3).f2)])], [], []⟩ [c_ 29845, c_ 3731, b_ 1, c_ 467, l_ 58, b_ 0, c_ 15] aln nocal ?_
            have h := Option.some.inj h
            subst h
            exact .fin0 [] (B false) [] aln (.z .s)
        · rw [if_neg c5] at h
          refine .reg' [1, 3, 4, 45] [.no, .no, .c ⟨41, [(I (at_ a0.f1 x3).f0), (I 0), (I 29)], [], (B x4), [], [], [], [], (B x4), []⟩, .no, .v (B true)] ⟨[(1, (.pt 256 0 2)), (3, (I x3)), (4, (.pt 1797 0 3)), (45, (B true))], [(256, [(S a0.f0), (.sl true a0.f1.length 3 (a0.f1.flatMap e54))]), (1797, [(I (at_ a0.f1 x3).f0), (I (at_ a0.f1 x3).f1), (I (at_ a0.f1 x3).f2)])], [3 = 3 ∧ 0 + 1 ≤ 3, COK (hget [(256, [(S a0.f0), (.sl true a0.f1.length 3 (a0.f1.flatMap e54))]), (1797, [(I (at_ a0.f1 x3).f0), (I (at_ a0.f1 x3).f1), (I (at_ a0.f1 x3).f2)])]) [(I (at_ a0.f1 x3).f0), (I 0), (I 29)] ⟨41, [(I (at_ a0.f1 x3).f0), (I 0), (I 29)], [], (B x4), [], [], [], [], (B x4), []⟩, (B (!x4) : V) = B true], [⟨41, [(I (at_ a0.f1 x3).f0), (I 0), (I 29)], [], (B x4), [], [], [], [], (B x4), []⟩]⟩ [c_ 7461, c_ 3731, b_ 1, c_ 467, l_ 58, b_ 0, c_ 15] (alc ⟨rfl, by decide⟩ (alc (cok0 false (a2c (.z .s) (a2c (.z .s) (a2c (.z .s) a2n))) (.z .s) (fun h => absurd h (by decide))) (alc (bT (nT (vF c5))) aln))) (acal (spec_l01In.J ((at_ a0.f1 x3).f0) 0 29 _ hx4) nocal) ?_
          refine .cond' (.tmp 45) true [c_ 29844, c_ 29845, c_ 3731, b_ 1, c_ 467, l_ 58, b_ 0, c_ 15] (rfl) ?_
          refine .reg' [2] [] ⟨[(2, (B false))], [(256, [(S a0.f0), (.sl true a0.f1.length 3 (a0.f1.flatMap e54))]), (1797, [(I (at_ a0.f1 x3).f0), (I (at_ a0.f1 x3).f1), (I (at_ a0.f1 x3).f2)])], [], []⟩ [c_ 29845, c_ 3731, b_ 1, c_ 467, l_ 58, b_ 0, c_ 15] aln nocal ?_
          have h := Option.some.inj h
          subst h
          exact .fin0 [] (B false) [] aln (.z .s)
      · rw [if_neg c4] at h
        cases h
    · rw [if_neg c3] at h
      refine .cond' (.tmp 20) false [c_ 30, c_ 31] (bF (dF c3)) ?_
      refine .reg' [2] [] ⟨[(2, (B true))], [(256, [(S a0.f0), (.sl true a0.f1.length 3 (a0.f1.flatMap e54))])], [], []⟩ [c_ 31] aln nocal ?_
      have h := Option.some.inj h
      subst h
      exact .fin0 [] (B true) [] aln (.z .s)
theorem spec_TripOk.J (k : Nat) (a0 : S28) (r : Bool) (h : spec_TripOk.f k a0 = some r) : J prog (.call 12 [(.ag [(S a0.f0), (.sl true a0.f1.length 3 (a0.f1.flatMap e54))])] [] (B r) []) := by
  unfold spec_TripOk.f at h
  have ih0 := spec_TripOk.lab k
  refine .call' [c_ 2, c_ 3] ?_
  refine .reg' [1] [] ⟨[(1, (.pt 256 0 2))], [(256, [(S a0.f0), (.sl true a0.f1.length 3 (a0.f1.flatMap e54))])], [], []⟩ [c_ 12, c_ 13, c_ 7] aln nocal ?_
  obtain ⟨x1, hx1, h⟩ := Option.bind_eq_some_iff.mp h
  by_cases c1 : x1 = true
  · rw [if_pos c1] at h
    obtain ⟨x2, hx2, h⟩ := Option.bind_eq_some_iff.mp h
    refine .reg' [1, 15] [.no, .no, .c ⟨40, [(S a0.f0)], [], (B x1), [], [], [], [], (B x1), []⟩, .no, .v (B false), .no, .no, .no, .c ⟨41, [(I (a0.f1.length : Int)), (I 2), (I 12)], [], (B x2), [], [], [], [], (B x2), []⟩] ⟨[(1, (.pt 256 0 2)), (15, (B (!x2)))], [(256, [(S a0.f0), (.sl true a0.f1.length 3 (a0.f1.flatMap e54))])], [2 = 2 ∧ 0 + 1 ≤ 2, COK (hget [(256, [(S a0.f0), (.sl true a0.f1.length 3 (a0.f1.flatMap e54))])]) [(S a0.f0)] ⟨40, [(S a0.f0)], [], (B x1), [], [], [], [], (B x1), []⟩, (B (!x1) : V) = B false, 2 = 2 ∧ 1 + 1 ≤ 2, COK (hget [(256, [(S a0.f0), (.sl true a0.f1.length 3 (a0.f1.flatMap e54))])]) [(I (a0.f1.length : Int)), (I 2), (I 12)] ⟨41, [(I (a0.f1.length : Int)), (I 2), (I 12)], [], (B x2), [], [], [], [], (B x2), []⟩], [⟨40, [(S a0.f0)], [], (B x1), [], [], [], [], (B x1), []⟩, ⟨41, [(I (a0.f1.length : Int)), (I 2), (I 12)], [], (B x2), [], [], [], [], (B x2), []⟩]⟩ [c_ 13, c_ 7] (alc ⟨rfl, by decide⟩ (alc (cok0 false (a2c (.z .s) a2n) (.z .s) (fun h => absurd h (by decide))) (alc (bF (nF c1)) (alc ⟨rfl, by decide⟩ (alc (cok0 false (a2c (.z .s) (a2c (.z .s) (a2c (.z .s) a2n))) (.z .s) (fun h => absurd h (by decide))) aln))))) (acal (spec_l01Name.J k a0.f0 _ hx1) (acal (spec_l01In.J (a0.f1.length : Int) 2 12 _ hx2) nocal)) ?_
    by_cases c2 : x2 = true
    · rw [if_pos c2] at h
      refine .cond' (.tmp 15) false [c_ 28, c_ 29, c_ 15] (bF (nF c2)) ?_
      refine .reg' [1, 3] [] ⟨[(1, (.pt 256 0 2)), (3, (I 0))], [(256, [(S a0.f0), (.sl true a0.f1.length 3 (a0.f1.flatMap e54))])], [], []⟩ [l_ 58, b_ 0, c_ 15] aln nocal ?_
      exact ih0 a0 0 _ h
    · rw [if_neg c2] at h
      refine .cond' (.tmp 15) true [c_ 52, c_ 53, c_ 7] (bT (nT (vF c2))) ?_
      refine .reg' [2] [] ⟨[(2, (B false))], [(256, [(S a0.f0), (.sl true a0.f1.length 3 (a0.f1.flatMap e54))])], [], []⟩ [c_ 53, c_ 7] aln nocal ?_
      have h := Option.some.inj h
      subst h
      exact .fin0 [] (B false) [] aln (.z .s)
  · rw [if_neg c1] at h
    refine .reg' [1, 15] [.no, .no, .c ⟨40, [(S a0.f0)], [], (B x1), [], [], [], [], (B x1), []⟩, .no, .v (B true)] ⟨[(1, (.pt 256 0 2)), (15, (B true))], [(256, [(S a0.f0), (.sl true a0.f1.length 3 (a0.f1.flatMap e54))])], [2 = 2 ∧ 0 + 1 ≤ 2, COK (hget [(256, [(S a0.f0), (.sl true a0.f1.length 3 (a0.f1.flatMap e54))])]) [(S a0.f0)] ⟨40, [(S a0.f0)], [], (B x1), [], [], [], [], (B x1), []⟩, (B (!x1) : V) = B true], [⟨40, [(S a0.f0)], [], (B x1), [], [], [], [], (B x1), []⟩]⟩ [c_ 13, c_ 7] (alc ⟨rfl, by decide⟩ (alc (cok0 false (a2c (.z .s) a2n) (.z .s) (fun h => absurd h (by decide))) (alc (bT (nT (vF c1))) aln))) (acal (spec_l01Name.J k a0.f0 _ hx1) nocal) ?_
    refine .cond' (.tmp 15) true [c_ 52, c_ 53, c_ 7] (rfl) ?_
    refine .reg' [2] [] ⟨[(2, (B false))], [(256, [(S a0.f0), (.sl true a0.f1.length 3 (a0.f1.flatMap e54))])], [], []⟩ [c_ 53, c_ 7] aln nocal ?_
    have h := Option.some.inj h
    subst h
    exact .fin0 [] (B false) [] aln (.z .s)
/-! spec_TableOk: function 19 -/
mutual
def spec_TableOk.l0 : Nat → (List S28) → Int → Option Bool
 | 0, _, _ => none
 | k + 1, a0, x1 => (if x1 < (a0.length : Int) then (if 0 ≤ x1 then ((spec_TripOk.f k (at_ a0 x1)).bind fun x2 => (if x2 = true then (spec_TableOk.l1 k a0 x1 0) else (some false))) else none) else (some true))
def spec_TableOk.l1 : Nat → (List S28) → Int → Int → Option Bool
 | 0, _, _, _ => none
 | k + 1, a0, x1, x3 => (if x3 < x1 then (if 0 ≤ x3 then (if x3 < (a0.length : Int) then (if 0 ≤ x1 then (if x1 < (a0.length : Int) then (if (sEq (at_ a0 x3).f0 (at_ a0 x1).f0) = true then (some false) else (spec_TableOk.l1 k a0 x1 (wrap64 (x3 + 1)))) else none) else none) else none) else none) else (spec_TableOk.l0 k a0 (wrap64 (x1 + 1))))
end
def spec_TableOk.f (k : Nat) (a0 : (List S28)) : Option Bool := (if (a0.length : Int) > 24 then (some false) else (spec_TableOk.l0 k a0 0))
theorem spec_TableOk.lab : ∀ k, (∀ (a0 : (List S28)) (x1 : Int) (r : Bool), spec_TableOk.l0 k a0 x1 = some r → J prog (.run 19 [] [l_ 58, b_ 0, c_ 15] [(0, (.sl true a0.length 2 (a0.flatMap (e28 true)))), (3, (I x1))] [] (B r) [])) ∧ (∀ (a0 : (List S28)) (x1 : Int) (x3 : Int) (r : Bool), spec_TableOk.l1 k a0 x1 x3 = some r → J prog (.run 19 [] [l_ 7462, b_ 2, b_ 1, c_ 467, l_ 58, b_ 0, c_ 15] [(0, (.sl true a0.length 2 (a0.flatMap (e28 true)))), (3, (I x1)), (4, (I x3))] [] (B r) []))
 | 0 => ⟨(by intro a0 x1 r h; unfold spec_TableOk.l0 at h; cases h), (by intro a0 x1 x3 r h; unfold spec_TableOk.l1 at h; cases h)⟩
 | k + 1 => by
  obtain ⟨ih0, ih1⟩ := spec_TableOk.lab k
  refine ⟨?_, ?_⟩
  · intro a0 x1 r h
    unfold spec_TableOk.l0 at h
    refine .loop' [c_ 464, c_ 465, c_ 233, l_ 58, b_ 0, c_ 15] ?_
    refine .reg' [0, 3, 11] [] ⟨[(0, (.sl true a0.length 2 (a0.flatMap (e28 true)))), (3, (I x1)), (11, (B (decide (x1 < (a0.length : Int)))))], [], [], []⟩ [c_ 465, c_ 233, l_ 58, b_ 0, c_ 15] aln nocal ?_
    by_cases c2 : x1 < (a0.length : Int)
    · rw [if_pos c2] at h
      refine .cond' (.tmp 11) true [c_ 3728, c_ 3729, c_ 1865, b_ 1, c_ 467, l_ 58, b_ 0, c_ 15] (bT (dT c2)) ?_
      by_cases c3 : 0 ≤ x1
      · rw [if_pos c3] at h
        obtain ⟨x2, hx2, h⟩ := Option.bind_eq_some_iff.mp h
        refine .reg' [0, 3, 19] [.no, .no, .no, .v (.ag [(S (at_ a0 x1).f0), (.sl true (at_ a0 x1).f1.length 3 ((at_ a0 x1).f1.flatMap e54))]), .c ⟨12, [(.ag [(S (at_ a0 x1).f0), (.sl true (at_ a0 x1).f1.length 3 ((at_ a0 x1).f1.flatMap e54))])], [], (B x2), [], [], [], [], (B x2), []⟩] ⟨[(0, (.sl true a0.length 2 (a0.flatMap (e28 true)))), (3, (I x1)), (19, (B (!x2)))], [], [(0 : Int) ≤ x1 ∧ x1 < (a0.length : Int), rdC prog 29 ((a0.flatMap (e28 true)).drop (x1.toNat * 2)) = (.ag [(S (at_ a0 x1).f0), (.sl true (at_ a0 x1).f1.length 3 ((at_ a0 x1).f1.flatMap e54))]), 2 ≤ ((a0.flatMap (e28 true)).drop (x1.toNat * 2)).length, COK (hget []) [(.ag [(S (at_ a0 x1).f0), (.sl true (at_ a0 x1).f1.length 3 ((at_ a0 x1).f1.flatMap e54))])] ⟨12, [(.ag [(S (at_ a0 x1).f0), (.sl true (at_ a0 x1).f1.length 3 ((at_ a0 x1).f1.flatMap e54))])], [], (B x2), [], [], [], [], (B x2), []⟩], [⟨12, [(.ag [(S (at_ a0 x1).f0), (.sl true (at_ a0 x1).f1.length 3 ((at_ a0 x1).f1.flatMap e54))])], [], (B x2), [], [], [], [], (B x2), []⟩]⟩ [c_ 3729, c_ 1865, b_ 1, c_ 467, l_ 58, b_ 0, c_ 15] (alc ⟨c3, c2⟩ (alc (ldA (e28_ok true) rfl rfl c3 c2) (alc (okI (e28_ok true) c3 c2 (by decide)) (alc (cok0 false (a2c (.z (frz_ag (a2c .s (a2c (frz_sl e54_ok (fun h => h)) a2n)))) a2n) (.z .s) (fun h => absurd h (by decide))) aln)))) (acal (spec_TripOk.J k (at_ a0 x1) _ hx2) nocal) ?_
        by_cases c4 : x2 = true
        · rw [if_pos c4] at h
          refine .cond' (.tmp 19) false [c_ 3730, c_ 3731, b_ 1, c_ 467, l_ 58, b_ 0, c_ 15] (bF (nF c4)) ?_
          refine .reg' [0, 3, 4] [] ⟨[(0, (.sl true a0.length 2 (a0.flatMap (e28 true)))), (3, (I x1)), (4, (I 0))], [], [], []⟩ [l_ 7462, b_ 2, b_ 1, c_ 467, l_ 58, b_ 0, c_ 15] aln nocal ?_
          exact ih1 a0 x1 0 _ h
        · rw [if_neg c4] at h
          refine .cond' (.tmp 19) true [c_ 14916, c_ 14917, c_ 1865, b_ 1, c_ 467, l_ 58, b_ 0, c_ 15] (bT (nT (vF c4))) ?_
          refine .reg' [2] [] ⟨[(2, (B false))], [], [], []⟩ [c_ 14917, c_ 1865, b_ 1, c_ 467, l_ 58, b_ 0, c_ 15] aln nocal ?_
          have h := Option.some.inj h
          subst h
          exact .fin0 [] (B false) [] aln (.z .s)
      · rw [if_neg c3] at h
        cases h
    · rw [if_neg c2] at h
      refine .cond' (.tmp 11) false [c_ 30, c_ 31] (bF (dF c2)) ?_
      refine .reg' [2] [] ⟨[(2, (B true))], [], [], []⟩ [c_ 31] aln nocal ?_
      have h := Option.some.inj h
      subst h
      exact .fin0 [] (B true) [] aln (.z .s)
  · intro a0 x1 x3 r h
    unfold spec_TableOk.l1 at h
    refine .loop' [c_ 59696, c_ 59697, c_ 29849, l_ 7462, b_ 2, b_ 1, c_ 467, l_ 58, b_ 0, c_ 15] ?_
    refine .reg' [0, 3, 4, 22] [] ⟨[(0, (.sl true a0.length 2 (a0.flatMap (e28 true)))), (3, (I x1)), (4, (I x3)), (22, (B (decide (x3 < x1))))], [], [], []⟩ [c_ 59697, c_ 29849, l_ 7462, b_ 2, b_ 1, c_ 467, l_ 58, b_ 0, c_ 15] aln nocal ?_
    by_cases c5 : x3 < x1
    · rw [if_pos c5] at h
      refine .cond' (.tmp 22) true [c_ 238792, c_ 238793, b_ 3, c_ 59699, l_ 7462, b_ 2, b_ 1, c_ 467, l_ 58, b_ 0, c_ 15] (bT (dT c5)) ?_
      by_cases c6 : 0 ≤ x3
      · rw [if_pos c6] at h
        by_cases c7 : x3 < (a0.length : Int)
        · rw [if_pos c7] at h
          by_cases c8 : 0 ≤ x1
          · rw [if_pos c8] at h
            by_cases c9 : x1 < (a0.length : Int)
            · rw [if_pos c9] at h
              refine .reg' [0, 3, 4, 35] [.no, .no, .no, .no, .v (S (at_ a0 x3).f0), .no, .no, .no, .no, .v (S (at_ a0 x1).f0)] ⟨[(0, (.sl true a0.length 2 (a0.flatMap (e28 true)))), (3, (I x1)), (4, (I x3)), (35, (B (sEq (at_ a0 x3).f0 (at_ a0 x1).f0)))], [], [(0 : Int) ≤ x3 ∧ x3 < (a0.length : Int), rdC prog 9 (((a0.flatMap (e28 true)).drop (x3.toNat * 2)).drop 0) = (S (at_ a0 x3).f0), 1 ≤ (((a0.flatMap (e28 true)).drop (x3.toNat * 2)).drop 0).length, (0 : Int) ≤ x1 ∧ x1 < (a0.length : Int), rdC prog 9 (((a0.flatMap (e28 true)).drop (x1.toNat * 2)).drop 0) = (S (at_ a0 x1).f0), 1 ≤ (((a0.flatMap (e28 true)).drop (x1.toNat * 2)).drop 0).length], []⟩ [c_ 238793, b_ 3, c_ 59699, l_ 7462, b_ 2, b_ 1, c_ 467, l_ 58, b_ 0, c_ 15] (alc ⟨c6, c7⟩ (alc (ldC (e28_ok true) 0 (by decide) rfl c6 c7) (alc (okIj (e28_ok true) c6 c7 (by decide)) (alc ⟨c8, c9⟩ (alc (ldC (e28_ok true) 0 (by decide) rfl c8 c9) (alc (okIj (e28_ok true) c8 c9 (by decide)) aln)))))) nocal ?_
              by_cases c10 : (sEq (at_ a0 x3).f0 (at_ a0 x1).f0) = true
              · rw [if_pos c10] at h
                refine .cond' (.tmp 35) true [c_ 955172, c_ 955173, b_ 3, c_ 59699, l_ 7462, b_ 2, b_ 1, c_ 467, l_ 58, b_ 0, c_ 15] (bT c10) ?_
                refine .reg' [2] [] ⟨[(2, (B false))], [], [], []⟩ [c_ 955173, b_ 3, c_ 59699, l_ 7462, b_ 2, b_ 1, c_ 467, l_ 58, b_ 0, c_ 15] aln nocal ?_
                have h := Option.some.inj h
                subst h
                exact .fin0 [] (B false) [] aln (.z .s)
              · rw [if_neg c10] at h
                refine .cond' (.tmp 35) false [c_ 59699, l_ 7462, b_ 2, b_ 1, c_ 467, l_ 58, b_ 0, c_ 15] (bF (vF c10)) ?_
                refine .reg' [0, 3, 4] [] ⟨[(0, (.sl true a0.length 2 (a0.flatMap (e28 true)))), (3, (I x1)), (4, (I (wrap64 (x3 + 1))))], [], [], []⟩ [l_ 7462, b_ 2, b_ 1, c_ 467, l_ 58, b_ 0, c_ 15] aln nocal ?_
                exact ih1 a0 x1 (wrap64 (x3 + 1)) _ h
            · rw [if_neg c9] at h
              cases h
          · rw [if_neg c8] at h
            cases h
        · rw [if_neg c7] at h
          cases h
      · rw [if_neg c6] at h
        cases h
    · rw [if_neg c5] at h
      refine .cond' (.tmp 22) false [c_ 467, l_ 58, b_ 0, c_ 15] (bF (dF c5)) ?_
      refine .reg' [0, 3] [] ⟨[(0, (.sl true a0.length 2 (a0.flatMap (e28 true)))), (3, (I (wrap64 (x1 + 1))))], [], [], []⟩ [l_ 58, b_ 0, c_ 15] aln nocal ?_
      exact ih0 a0 (wrap64 (x1 + 1)) _ h
theorem spec_TableOk.J (k : Nat) (a0 : (List S28)) (r : Bool) (h : spec_TableOk.f k a0 = some r) : J prog (.call 19 [(.sl true a0.length 2 (a0.flatMap (e28 true)))] [] (B r) []) := by
  unfold spec_TableOk.f at h
  obtain ⟨ih0, ih1⟩ := spec_TableOk.lab k
  refine .call' [c_ 2, c_ 3] ?_
  refine .reg' [0] [] ⟨[(0, (.sl true a0.length 2 (a0.flatMap (e28 true))))], [], [], []⟩ [c_ 12, c_ 13, c_ 7] aln nocal ?_
  refine .reg' [0, 7] [] ⟨[(0, (.sl true a0.length 2 (a0.flatMap (e28 true)))), (7, (B (decide ((a0.length : Int) > 24))))], [], [], []⟩ [c_ 13, c_ 7] aln nocal ?_
  by_cases c1 : (a0.length : Int) > 24
  · rw [if_pos c1] at h
    refine .cond' (.tmp 7) true [c_ 52, c_ 53, c_ 7] (bT (dT c1)) ?_
    refine .reg' [2] [] ⟨[(2, (B false))], [], [], []⟩ [c_ 53, c_ 7] aln nocal ?_
    have h := Option.some.inj h
    subst h
    exact .fin0 [] (B false) [] aln (.z .s)
  · rw [if_neg c1] at h
    refine .cond' (.tmp 7) false [c_ 28, c_ 29, c_ 15] (bF (dF c1)) ?_
    refine .reg' [0, 3] [] ⟨[(0, (.sl true a0.length 2 (a0.flatMap (e28 true)))), (3, (I 0))], [], [], []⟩ [l_ 58, b_ 0, c_ 15] aln nocal ?_
    exact ih0 a0 0 _ h
/-! spec_l08Told: function 51 -/
def spec_l08Told.l0 : Nat → (List S58) → Int → Int → Int → Option Bool
 | 0, _, _, _, _ => none
 | k + 1, a0, a1, a2, x1 => (if x1 < (a0.length : Int) then (if 0 ≤ x1 then (if (at_ a0 x1).f0 = a1 then (if (at_ a0 x1).f1 = a2 then (some true) else (spec_l08Told.l0 k a0 a1 a2 (wrap64 (x1 + 1)))) else (spec_l08Told.l0 k a0 a1 a2 (wrap64 (x1 + 1)))) else none) else (some false))
def spec_l08Told.f (k : Nat) (a0 : (List S58)) (a1 : Int) (a2 : Int) : Option Bool := (spec_l08Told.l0 k a0 a1 a2 0)
theorem spec_l08Told.lab : ∀ k, (∀ (a0 : (List S58)) (a1 : Int) (a2 : Int) (x1 : Int) (r : Bool), spec_l08Told.l0 k a0 a1 a2 x1 = some r → J prog (.run 51 [] [l_ 26, b_ 0, c_ 7] [(0, (.sl true a0.length 2 (a0.flatMap e58))), (1, (I a1)), (2, (I a2)), (7, (I x1))] [] (B r) []))
 | 0 => (by intro a0 a1 a2 x1 r h; unfold spec_l08Told.l0 at h; cases h)
 | k + 1 => by
  have ih0 := spec_l08Told.lab k
  · intro a0 a1 a2 x1 r h
    unfold spec_l08Told.l0 at h
    refine .loop' [c_ 208, c_ 209, c_ 105, l_ 26, b_ 0, c_ 7] ?_
    refine .reg' [0, 1, 2, 7, 11] [] ⟨[(0, (.sl true a0.length 2 (a0.flatMap e58))), (1, (I a1)), (2, (I a2)), (7, (I x1)), (11, (B (decide (x1 < (a0.length : Int)))))], [], [], []⟩ [c_ 209, c_ 105, l_ 26, b_ 0, c_ 7] aln nocal ?_
    by_cases c1 : x1 < (a0.length : Int)
    · rw [if_pos c1] at h
      refine .cond' (.tmp 11) true [c_ 840, c_ 841, b_ 1, c_ 211, l_ 26, b_ 0, c_ 7] (bT (dT c1)) ?_
      by_cases c2 : 0 ≤ x1
      · rw [if_pos c2] at h
        by_cases c3 : (at_ a0 x1).f0 = a1
        · rw [if_pos c3] at h
          refine .reg' [0, 1, 2, 7, 29] [.no, .no, .no, .no, .v (I (at_ a0 x1).f0), .no, .no, .v (B true), .no, .no, .no, .no, .v (I (at_ a0 x1).f1)] ⟨[(0, (.sl true a0.length 2 (a0.flatMap e58))), (1, (I a1)), (2, (I a2)), (7, (I x1)), (29, (B ((at_ a0 x1).f1 == a2)))], [], [(0 : Int) ≤ x1 ∧ x1 < (a0.length : Int), rdC prog 3 (((a0.flatMap e58).drop (x1.toNat * 2)).drop 0) = (I (at_ a0 x1).f0), 1 ≤ (((a0.flatMap e58).drop (x1.toNat * 2)).drop 0).length, (B ((at_ a0 x1).f0 == a1) : V) = B true, (0 : Int) ≤ x1 ∧ x1 < (a0.length : Int), rdC prog 3 (((a0.flatMap e58).drop (x1.toNat * 2)).drop 1) = (I (at_ a0 x1).f1), 1 ≤ (((a0.flatMap e58).drop (x1.toNat * 2)).drop 1).length], []⟩ [c_ 841, b_ 1, c_ 211, l_ 26, b_ 0, c_ 7] (alc ⟨c2, c1⟩ (alc (ldC e58_ok 0 (by decide) rfl c2 c1) (alc (okIj e58_ok c2 c1 (by decide)) (alc (bT (qT c3)) (alc ⟨c2, c1⟩ (alc (ldC e58_ok 1 (by decide) rfl c2 c1) (alc (okIj e58_ok c2 c1 (by decide)) aln))))))) nocal ?_
          by_cases c4 : (at_ a0 x1).f1 = a2
          · rw [if_pos c4] at h
            refine .cond' (.tmp 29) true [c_ 3364, c_ 3365, b_ 1, c_ 211, l_ 26, b_ 0, c_ 7] (bT (qT c4)) ?_
            refine .reg' [6] [] ⟨[(6, (B true))], [], [], []⟩ [c_ 3365, b_ 1, c_ 211, l_ 26, b_ 0, c_ 7] aln nocal ?_
            have h := Option.some.inj h
            subst h
            exact .fin0 [] (B true) [] aln (.z .s)
          · rw [if_neg c4] at h
            refine .cond' (.tmp 29) false [c_ 211, l_ 26, b_ 0, c_ 7] (bF (qF c4)) ?_
            refine .reg' [0, 1, 2, 7] [] ⟨[(0, (.sl true a0.length 2 (a0.flatMap e58))), (1, (I a1)), (2, (I a2)), (7, (I (wrap64 (x1 + 1))))], [], [], []⟩ [l_ 26, b_ 0, c_ 7] aln nocal ?_
            exact ih0 a0 a1 a2 (wrap64 (x1 + 1)) _ h
        · rw [if_neg c3] at h
          refine .reg' [0, 1, 2, 7, 29] [.no, .no, .no, .no, .v (I (at_ a0 x1).f0), .no, .no, .v (B false)] ⟨[(0, (.sl true a0.length 2 (a0.flatMap e58))), (1, (I a1)), (2, (I a2)), (7, (I x1)), (29, (B false))], [], [(0 : Int) ≤ x1 ∧ x1 < (a0.length : Int), rdC prog 3 (((a0.flatMap e58).drop (x1.toNat * 2)).drop 0) = (I (at_ a0 x1).f0), 1 ≤ (((a0.flatMap e58).drop (x1.toNat * 2)).drop 0).length, (B ((at_ a0 x1).f0 == a1) : V) = B false], []⟩ [c_ 841, b_ 1, c_ 211, l_ 26, b_ 0, c_ 7] (alc ⟨c2, c1⟩ (alc (ldC e58_ok 0 (by decide) rfl c2 c1) (alc (okIj e58_ok c2 c1 (by decide)) (alc (bF (qF c3)) aln)))) nocal ?_
          refine .cond' (.tmp 29) false [c_ 211, l_ 26, b_ 0, c_ 7] (rfl) ?_
          refine .reg' [0, 1, 2, 7] [] ⟨[(0, (.sl true a0.length 2 (a0.flatMap e58))), (1, (I a1)), (2, (I a2)), (7, (I (wrap64 (x1 + 1))))], [], [], []⟩ [l_ 26, b_ 0, c_ 7] aln nocal ?_
          exact ih0 a0 a1 a2 (wrap64 (x1 + 1)) _ h
      · rw [if_neg c2] at h
        cases h
    · rw [if_neg c1] at h
      refine .cond' (.tmp 11) false [c_ 14, c_ 15] (bF (dF c1)) ?_
      refine .reg' [6] [] ⟨[(6, (B false))], [], [], []⟩ [c_ 15] aln nocal ?_
      have h := Option.some.inj h
      subst h
      exact .fin0 [] (B false) [] aln (.z .s)
theorem spec_l08Told.J (k : Nat) (a0 : (List S58)) (a1 : Int) (a2 : Int) (r : Bool) (h : spec_l08Told.f k a0 a1 a2 = some r) : J prog (.call 51 [(.sl true a0.length 2 (a0.flatMap e58)), (I a1), (I a2)] [] (B r) []) := by
  unfold spec_l08Told.f at h
  have ih0 := spec_l08Told.lab k
  refine .call' [c_ 2, c_ 3] ?_
  refine .reg' [0, 1, 2] [] ⟨[(0, (.sl true a0.length 2 (a0.flatMap e58))), (1, (I a1)), (2, (I a2))], [], [], []⟩ [c_ 12, c_ 13, c_ 7] aln nocal ?_
  refine .reg' [0, 1, 2, 7] [] ⟨[(0, (.sl true a0.length 2 (a0.flatMap e58))), (1, (I a1)), (2, (I a2)), (7, (I 0))], [], [], []⟩ [l_ 26, b_ 0, c_ 7] aln nocal ?_
  exact ih0 a0 a1 a2 0 _ h
/-! spec_Board: function 29 -/
mutual
def spec_Board.l0 : Nat → (List S28) → Int → Int → Int → (List S58) → Int → Option (List S58)
 | 0, _, _, _, _, _, _ => none
 | k + 1, a0, a1, a2, a3, x3, x4 => (if x4 < 576 then (if (x3.length : Int) < a3 then (spec_Board.l1 k a0 a1 a2 a3 x3 x4 (⟨(-1), 0⟩ : S58) 0) else (some x3)) else (some x3))
def spec_Board.l1 : Nat → (List S28) → Int → Int → Int → (List S58) → Int → S58 → Int → Option (List S58)
 | 0, _, _, _, _, _, _, _, _ => none
 | k + 1, a0, a1, a2, a3, x3, x4, x5, x6 => (if x6 < (a0.length : Int) then (spec_Board.l2 k a0 a1 a2 a3 x3 x4 x6 x5 0) else (if x5.f0 < 0 then (some x3) else (if (x3.length + ([x5] : List S58).length) * 16 ≤ 70368744177664 then (spec_Board.l0 k a0 a1 a2 a3 (x3 ++ ([x5] : List S58)) (wrap64 (x4 + 1))) else none)))
def spec_Board.l2 : Nat → (List S28) → Int → Int → Int → (List S58) → Int → Int → S58 → Int → Option (List S58)
 | 0, _, _, _, _, _, _, _, _, _ => none
 | k + 1, a0, a1, a2, a3, x3, x4, x6, x7, x8 => (if 0 ≤ x6 then (if x6 < (a0.length : Int) then (if (wrap64 (x8 + 1)) < ((at_ a0 x6).f1.length : Int) then (if 0 ≤ x8 then (if x8 < ((at_ a0 x6).f1.length : Int) then (if (at_ (at_ a0 x6).f1 x8).f0 = a1 then (if (at_ (at_ a0 x6).f1 x8).f2 < a2 then (spec_Board.l2 k a0 a1 a2 a3 x3 x4 x6 x7 (wrap64 (x8 + 1))) else ((spec_l08Told.f k x3 x6 x8).bind fun x9 => (if x9 = true then (spec_Board.l2 k a0 a1 a2 a3 x3 x4 x6 x7 (wrap64 (x8 + 1))) else (if x7.f0 < 0 then (spec_Board.l2 k a0 a1 a2 a3 x3 x4 x6 (⟨x6, x8⟩ : S58) (wrap64 (x8 + 1))) else (if 0 ≤ x7.f0 then (if x7.f0 < (a0.length : Int) then (if 0 ≤ x7.f1 then (if x7.f1 < ((at_ a0 x7.f0).f1.length : Int) then (if (at_ (at_ a0 x6).f1 x8).f2 < (at_ (at_ a0 x7.f0).f1 x7.f1).f2 then (spec_Board.l2 k a0 a1 a2 a3 x3 x4 x6 (⟨x6, x8⟩ : S58) (wrap64 (x8 + 1))) else (spec_Board.l2 k a0 a1 a2 a3 x3 x4 x6 x7 (wrap64 (x8 + 1)))) else none) else none) else none) else none))))) else (spec_Board.l2 k a0 a1 a2 a3 x3 x4 x6 x7 (wrap64 (x8 + 1)))) else none) else none) else (spec_Board.l1 k a0 a1 a2 a3 x3 x4 x7 (wrap64 (x6 + 1)))) else none) else none)
end
def spec_Board.f (k : Nat) (a0 : (List S28)) (a1 : Int) (a2 : Int) (a3 : Int) : Option (List S58) := ((spec_TableOk.f k a0).bind fun x1 => (if x1 = true then ((spec_l01In.f a3 0 50).bind fun x2 => (if x2 = true then (spec_Board.l0 k a0 a1 a2 a3 ([] : List S58) 0) else (some ([] : List S58)))) else (some ([] : List S58))))
end Go.Proofs.Ytoeedickghjdbaa.Fns
