/- The functions that the law FnExactSettle reaches, by the engine. Printed by a program of this seat. -/
import Derived.Test.YtebgaiokpncacaaE5
import Derived.Test.YtebgaiokpncacaaProg
namespace Go.Proofs.Ytebgaiokpncacaa.Fns
open Go.Proofs.Try Go.Proofs.Ytebgaiokpncacaa.Eng Go.RowKit
set_option maxRecDepth 100000
set_option linter.unusedVariables false
set_option linter.unusedSimpArgs false
structure S22 where
  f0 : Int
  f1 : Int
  f2 : Int
  f3 : Int
  f4 : Int
  deriving Inhabited
def e22 (x : S22) : List V := [I x.f0, I x.f1, I x.f2, I x.f3, I x.f4]
theorem e22_ok : Enc (e22) 5 where
  len := fun _ => rfl
  self := fun x v h H tb bor => by
    simp only [e22, List.mem_cons, List.not_mem_nil, or_false] at h
    rcases h with h | h | h | h | h
    · subst h; exact .s
    · subst h; exact .s
    · subst h; exact .s
    · subst h; exact .s
    · subst h; exact .s
  cln := fun x v h => by
    simp only [e22, List.mem_cons, List.not_mem_nil, or_false] at h
    rcases h with h | h | h | h | h
    · subst h; exact .s
    · subst h; exact .s
    · subst h; exact .s
    · subst h; exact .s
    · subst h; exact .s
theorem e22_c {b : Bool} : EncC b e22 := by
  intro x v h
  simp only [e22, List.mem_cons, List.not_mem_nil, or_false] at h
  rcases h with h | h | h | h | h
  · subst h; exact .s
  · subst h; exact .s
  · subst h; exact .s
  · subst h; exact .s
  · subst h; exact .s
theorem e22_s : EncS e22 := by
  intro x v h
  simp only [e22, List.mem_cons, List.not_mem_nil, or_false] at h
  rcases h with h | h | h | h | h
  · subst h; exact ⟨_, rfl⟩
  · subst h; exact ⟨_, rfl⟩
  · subst h; exact ⟨_, rfl⟩
  · subst h; exact ⟨_, rfl⟩
  · subst h; exact ⟨_, rfl⟩
structure S95 where
  f0 : Int
  f1 : Int
  f2 : Int
  f3 : Int
  deriving Inhabited
def e95 (x : S95) : List V := [I x.f0, I x.f1, I x.f2, I x.f3]
theorem e95_ok : Enc (e95) 4 where
  len := fun _ => rfl
  self := fun x v h H tb bor => by
    simp only [e95, List.mem_cons, List.not_mem_nil, or_false] at h
    rcases h with h | h | h | h
    · subst h; exact .s
    · subst h; exact .s
    · subst h; exact .s
    · subst h; exact .s
  cln := fun x v h => by
    simp only [e95, List.mem_cons, List.not_mem_nil, or_false] at h
    rcases h with h | h | h | h
    · subst h; exact .s
    · subst h; exact .s
    · subst h; exact .s
    · subst h; exact .s
theorem e95_c {b : Bool} : EncC b e95 := by
  intro x v h
  simp only [e95, List.mem_cons, List.not_mem_nil, or_false] at h
  rcases h with h | h | h | h
  · subst h; exact .s
  · subst h; exact .s
  · subst h; exact .s
  · subst h; exact .s
theorem e95_s : EncS e95 := by
  intro x v h
  simp only [e95, List.mem_cons, List.not_mem_nil, or_false] at h
  rcases h with h | h | h | h
  · subst h; exact ⟨_, rfl⟩
  · subst h; exact ⟨_, rfl⟩
  · subst h; exact ⟨_, rfl⟩
  · subst h; exact ⟨_, rfl⟩
structure S39 where
  f0 : Int
  f1 : (List S95)
  deriving Inhabited
def e39 (t : Bool) (x : S39) : List V := [I x.f0, .sl t x.f1.length 4 (x.f1.flatMap e95)]
theorem e39_ok (t : Bool) : Enc (e39 t) 2 where
  len := fun _ => rfl
  self := fun x v h H tb bor => by
    simp only [e39, List.mem_cons, List.not_mem_nil, or_false] at h
    rcases h with h | h
    · subst h; exact .s
    · subst h; exact frz_sl e95_ok id
  cln := fun x v h => by
    simp only [e39, List.mem_cons, List.not_mem_nil, or_false] at h
    rcases h with h | h
    · subst h; exact .s
    · subst h; exact cln_sl e95_ok
theorem e39_to (x : S39) {H : Nat → Option (List V)} {tb : Bool} {bor : List Nat} : All2 (Frz H tb bor) (e39 false x) (e39 true x) := (a2c .s (a2c (frz_sl e95_ok (fun h => absurd h (by decide))) a2n))
theorem e39_c1 : EncC true (e39 true) := by
  intro x v h
  simp only [e39, List.mem_cons, List.not_mem_nil, or_false] at h
  rcases h with h | h
  · subst h; exact .s
  · subst h; exact clnS e95_c (fun h => rfl)
theorem e39_c0 {b : Bool} : EncC b (e39 false) := by
  intro x v h
  simp only [e39, List.mem_cons, List.not_mem_nil, or_false] at h
  rcases h with h | h
  · subst h; exact .s
  · subst h; exact clnS e95_c (fun h => absurd h (by decide))
structure S46 where
  f0 : Int
  f1 : (List S95)
  deriving Inhabited
def e46 (t : Bool) (x : S46) : List V := [I x.f0, .sl t x.f1.length 4 (x.f1.flatMap e95)]
theorem e46_ok (t : Bool) : Enc (e46 t) 2 where
  len := fun _ => rfl
  self := fun x v h H tb bor => by
    simp only [e46, List.mem_cons, List.not_mem_nil, or_false] at h
    rcases h with h | h
    · subst h; exact .s
    · subst h; exact frz_sl e95_ok id
  cln := fun x v h => by
    simp only [e46, List.mem_cons, List.not_mem_nil, or_false] at h
    rcases h with h | h
    · subst h; exact .s
    · subst h; exact cln_sl e95_ok
theorem e46_to (x : S46) {H : Nat → Option (List V)} {tb : Bool} {bor : List Nat} : All2 (Frz H tb bor) (e46 false x) (e46 true x) := (a2c .s (a2c (frz_sl e95_ok (fun h => absurd h (by decide))) a2n))
theorem e46_c1 : EncC true (e46 true) := by
  intro x v h
  simp only [e46, List.mem_cons, List.not_mem_nil, or_false] at h
  rcases h with h | h
  · subst h; exact .s
  · subst h; exact clnS e95_c (fun h => rfl)
theorem e46_c0 {b : Bool} : EncC b (e46 false) := by
  intro x v h
  simp only [e46, List.mem_cons, List.not_mem_nil, or_false] at h
  rcases h with h | h
  · subst h; exact .s
  · subst h; exact clnS e95_c (fun h => absurd h (by decide))
structure S89 where
  f0 : Int
  f1 : Int
  f2 : Int
  deriving Inhabited
def e89 (x : S89) : List V := [I x.f0, I x.f1, I x.f2]
theorem e89_ok : Enc (e89) 3 where
  len := fun _ => rfl
  self := fun x v h H tb bor => by
    simp only [e89, List.mem_cons, List.not_mem_nil, or_false] at h
    rcases h with h | h | h
    · subst h; exact .s
    · subst h; exact .s
    · subst h; exact .s
  cln := fun x v h => by
    simp only [e89, List.mem_cons, List.not_mem_nil, or_false] at h
    rcases h with h | h | h
    · subst h; exact .s
    · subst h; exact .s
    · subst h; exact .s
theorem e89_c {b : Bool} : EncC b e89 := by
  intro x v h
  simp only [e89, List.mem_cons, List.not_mem_nil, or_false] at h
  rcases h with h | h | h
  · subst h; exact .s
  · subst h; exact .s
  · subst h; exact .s
theorem e89_s : EncS e89 := by
  intro x v h
  simp only [e89, List.mem_cons, List.not_mem_nil, or_false] at h
  rcases h with h | h | h
  · subst h; exact ⟨_, rfl⟩
  · subst h; exact ⟨_, rfl⟩
  · subst h; exact ⟨_, rfl⟩
structure S61 where
  f0 : ByteArray
  f1 : (List S89)
  deriving Inhabited
def e61 (t : Bool) (x : S61) : List V := [S x.f0, .sl t x.f1.length 3 (x.f1.flatMap e89)]
theorem e61_ok (t : Bool) : Enc (e61 t) 2 where
  len := fun _ => rfl
  self := fun x v h H tb bor => by
    simp only [e61, List.mem_cons, List.not_mem_nil, or_false] at h
    rcases h with h | h
    · subst h; exact .s
    · subst h; exact frz_sl e89_ok id
  cln := fun x v h => by
    simp only [e61, List.mem_cons, List.not_mem_nil, or_false] at h
    rcases h with h | h
    · subst h; exact .s
    · subst h; exact cln_sl e89_ok
theorem e61_to (x : S61) {H : Nat → Option (List V)} {tb : Bool} {bor : List Nat} : All2 (Frz H tb bor) (e61 false x) (e61 true x) := (a2c .s (a2c (frz_sl e89_ok (fun h => absurd h (by decide))) a2n))
theorem e61_c1 : EncC true (e61 true) := by
  intro x v h
  simp only [e61, List.mem_cons, List.not_mem_nil, or_false] at h
  rcases h with h | h
  · subst h; exact .s
  · subst h; exact clnS e89_c (fun h => rfl)
theorem e61_c0 {b : Bool} : EncC b (e61 false) := by
  intro x v h
  simp only [e61, List.mem_cons, List.not_mem_nil, or_false] at h
  rcases h with h | h
  · subst h; exact .s
  · subst h; exact clnS e89_c (fun h => absurd h (by decide))
structure S66 where
  f0 : ByteArray
  f1 : (List S89)
  deriving Inhabited
def e66 (t : Bool) (x : S66) : List V := [S x.f0, .sl t x.f1.length 3 (x.f1.flatMap e89)]
theorem e66_ok (t : Bool) : Enc (e66 t) 2 where
  len := fun _ => rfl
  self := fun x v h H tb bor => by
    simp only [e66, List.mem_cons, List.not_mem_nil, or_false] at h
    rcases h with h | h
    · subst h; exact .s
    · subst h; exact frz_sl e89_ok id
  cln := fun x v h => by
    simp only [e66, List.mem_cons, List.not_mem_nil, or_false] at h
    rcases h with h | h
    · subst h; exact .s
    · subst h; exact cln_sl e89_ok
theorem e66_to (x : S66) {H : Nat → Option (List V)} {tb : Bool} {bor : List Nat} : All2 (Frz H tb bor) (e66 false x) (e66 true x) := (a2c .s (a2c (frz_sl e89_ok (fun h => absurd h (by decide))) a2n))
theorem e66_c1 : EncC true (e66 true) := by
  intro x v h
  simp only [e66, List.mem_cons, List.not_mem_nil, or_false] at h
  rcases h with h | h
  · subst h; exact .s
  · subst h; exact clnS e89_c (fun h => rfl)
theorem e66_c0 {b : Bool} : EncC b (e66 false) := by
  intro x v h
  simp only [e66, List.mem_cons, List.not_mem_nil, or_false] at h
  rcases h with h | h
  · subst h; exact .s
  · subst h; exact clnS e89_c (fun h => absurd h (by decide))
def o66 (x : S66) : List V := [S x.f0, .on x.f1.length 3 (x.f1.flatMap e89)]
theorem o66_ok : Enc o66 2 where
  len := fun _ => rfl
  self := fun x v h H tb bor => by
    simp only [o66, List.mem_cons, List.not_mem_nil, or_false] at h
    rcases h with h | h
    · subst h; exact .s
    · subst h; exact .on
  cln := fun x v h => by
    simp only [o66, List.mem_cons, List.not_mem_nil, or_false] at h
    rcases h with h | h
    · subst h; exact .s
    · subst h; exact .on
theorem o66_c {b : Bool} : EncC b o66 := by
  intro x v h
  simp only [o66, List.mem_cons, List.not_mem_nil, or_false] at h
  rcases h with h | h
  · subst h; exact .s
  · subst h; exact .on
theorem o66_l (x : S66) {H : Nat → Option (List V)} {bor : List Nat} : All2 (fun v v2 => (isOn v = false → Frz H true bor v v2) ∧ ∀ m z ds, v = .on m z ds → v2 = .sl true m z ds) (o66 x) (e66 true x) := (a2c ⟨fun _ => .s, fun m z ds h => (by cases h)⟩ (a2c ⟨fun h => (by cases h), fun m z ds h => (by cases h; rfl)⟩ a2n))
/-! laws_szEdgeS: function 61 -/
def laws_szEdgeS.f (a0 : (List S95)) (a1 : Int) : Option Int := (if (wrap64 (a1 - (a0.length : Int))) < 0 then (some (-1)) else (some (wrap64 (a1 - (a0.length : Int)))))
theorem laws_szEdgeS.J (a0 : (List S95)) (a1 : Int) (r : Int) (h : laws_szEdgeS.f a0 a1 = some r) : J prog (.call 61 [(.sl true a0.length 4 (a0.flatMap e95)), (I a1)] [] (I r) []) := by
  unfold laws_szEdgeS.f at h
  refine .call' [c_ 2, c_ 3] ?_
  refine .reg' [0, 1] [] ⟨[(0, (.sl true a0.length 4 (a0.flatMap e95))), (1, (I a1))], [], [], []⟩ [c_ 6, c_ 7] aln nocal ?_
  refine .reg' [1] [] ⟨[(1, (I (wrap64 (a1 - (a0.length : Int)))))], [], [], []⟩ [c_ 28, c_ 29, c_ 15] aln nocal ?_
  refine .reg' [1, 10] [] ⟨[(1, (I (wrap64 (a1 - (a0.length : Int))))), (10, (B (decide ((wrap64 (a1 - (a0.length : Int))) < 0))))], [], [], []⟩ [c_ 29, c_ 15] aln nocal ?_
  by_cases c1 : (wrap64 (a1 - (a0.length : Int))) < 0
  · rw [if_pos c1] at h
    refine .cond' (.tmp 10) true [c_ 116, c_ 117, c_ 15] (bT (dT c1)) ?_
    refine .reg' [4] [] ⟨[(4, (I (-1)))], [], [], []⟩ [c_ 117, c_ 15] aln nocal ?_
    have h := Option.some.inj h
    subst h
    exact .fin0 [] (I (-1)) [] aln (.z .s)
  · rw [if_neg c1] at h
    refine .cond' (.tmp 10) false [c_ 30, c_ 31] (bF (dF c1)) ?_
    refine .reg' [4] [] ⟨[(4, (I (wrap64 (a1 - (a0.length : Int)))))], [], [], []⟩ [c_ 31] aln nocal ?_
    have h := Option.some.inj h
    subst h
    exact .fin0 [] (I (wrap64 (a1 - (a0.length : Int)))) [] aln (.z .s)
/-! laws_szNet: function 23 -/
def laws_szNet.f (a0 : S39) (a1 : Int) : Option Int := ((laws_szEdgeS.f a0.f1 a1).bind fun x1 => (if x1 < 0 then (some (-1)) else (some x1)))
theorem laws_szNet.J (a0 : S39) (a1 : Int) (r : Int) (h : laws_szNet.f a0 a1 = some r) : J prog (.call 23 [(.ag [(I a0.f0), (.sl true a0.f1.length 4 (a0.f1.flatMap e95))]), (I a1)] [] (I r) []) := by
  unfold laws_szNet.f at h
  refine .call' [c_ 2, c_ 3] ?_
  refine .reg' [1, 2] [] ⟨[(1, (I a1)), (2, (.pt 256 0 2))], [(256, [(I a0.f0), (.sl true a0.f1.length 4 (a0.f1.flatMap e95))])], [], []⟩ [c_ 6, c_ 7] aln nocal ?_
  obtain ⟨x1, hx1, h⟩ := Option.bind_eq_some_iff.mp h
  refine .reg' [1] [.no, .no, .no, .c ⟨61, [(.sl true a0.f1.length 4 (a0.f1.flatMap e95)), (I a1)], [], (I x1), [], [], [], [], (I x1), []⟩] ⟨[(1, (I x1))], [(256, [(I a0.f0), (.sl true a0.f1.length 4 (a0.f1.flatMap e95))])], [2 = 2 ∧ 1 + 1 ≤ 2, COK (hget [(256, [(I a0.f0), (.sl true a0.f1.length 4 (a0.f1.flatMap e95))])]) [(.sl true a0.f1.length 4 (a0.f1.flatMap e95)), (I a1)] ⟨61, [(.sl true a0.f1.length 4 (a0.f1.flatMap e95)), (I a1)], [], (I x1), [], [], [], [], (I x1), []⟩], [⟨61, [(.sl true a0.f1.length 4 (a0.f1.flatMap e95)), (I a1)], [], (I x1), [], [], [], [], (I x1), []⟩]⟩ [c_ 28, c_ 29, c_ 15] (alc ⟨rfl, by decide⟩ (alc (cok0 false (a2c (.z (frz_sl e95_ok (fun h => h))) (a2c (.z .s) a2n)) (.z .s) (fun h => absurd h (by decide))) aln)) (acal (laws_szEdgeS.J a0.f1 a1 _ hx1) nocal) ?_
  refine .reg' [1, 10] [] ⟨[(1, (I x1)), (10, (B (decide (x1 < 0))))], [(256, [(I a0.f0), (.sl true a0.f1.length 4 (a0.f1.flatMap e95))])], [], []⟩ [c_ 29, c_ 15] aln nocal ?_
  by_cases c1 : x1 < 0
  · rw [if_pos c1] at h
    refine .cond' (.tmp 10) true [c_ 116, c_ 117, c_ 15] (bT (dT c1)) ?_
    refine .reg' [4] [] ⟨[(4, (I (-1)))], [(256, [(I a0.f0), (.sl true a0.f1.length 4 (a0.f1.flatMap e95))])], [], []⟩ [c_ 117, c_ 15] aln nocal ?_
    have h := Option.some.inj h
    subst h
    exact .fin0 [] (I (-1)) [] aln (.z .s)
  · rw [if_neg c1] at h
    refine .cond' (.tmp 10) false [c_ 30, c_ 31] (bF (dF c1)) ?_
    refine .reg' [4] [] ⟨[(4, (I x1))], [(256, [(I a0.f0), (.sl true a0.f1.length 4 (a0.f1.flatMap e95))])], [], []⟩ [c_ 31] aln nocal ?_
    have h := Option.some.inj h
    subst h
    exact .fin0 [] (I x1) [] aln (.z .s)
/-! laws_szCallS: function 71 -/
def laws_szCallS.f (a0 : (List S89)) (a1 : Int) : Option Int := (if (wrap64 (a1 - (a0.length : Int))) < 0 then (some (-1)) else (some (wrap64 (a1 - (a0.length : Int)))))
theorem laws_szCallS.J (a0 : (List S89)) (a1 : Int) (r : Int) (h : laws_szCallS.f a0 a1 = some r) : J prog (.call 71 [(.sl true a0.length 3 (a0.flatMap e89)), (I a1)] [] (I r) []) := by
  unfold laws_szCallS.f at h
  refine .call' [c_ 2, c_ 3] ?_
  refine .reg' [0, 1] [] ⟨[(0, (.sl true a0.length 3 (a0.flatMap e89))), (1, (I a1))], [], [], []⟩ [c_ 6, c_ 7] aln nocal ?_
  refine .reg' [1] [] ⟨[(1, (I (wrap64 (a1 - (a0.length : Int)))))], [], [], []⟩ [c_ 28, c_ 29, c_ 15] aln nocal ?_
  refine .reg' [1, 10] [] ⟨[(1, (I (wrap64 (a1 - (a0.length : Int))))), (10, (B (decide ((wrap64 (a1 - (a0.length : Int))) < 0))))], [], [], []⟩ [c_ 29, c_ 15] aln nocal ?_
  by_cases c1 : (wrap64 (a1 - (a0.length : Int))) < 0
  · rw [if_pos c1] at h
    refine .cond' (.tmp 10) true [c_ 116, c_ 117, c_ 15] (bT (dT c1)) ?_
    refine .reg' [4] [] ⟨[(4, (I (-1)))], [], [], []⟩ [c_ 117, c_ 15] aln nocal ?_
    have h := Option.some.inj h
    subst h
    exact .fin0 [] (I (-1)) [] aln (.z .s)
  · rw [if_neg c1] at h
    refine .cond' (.tmp 10) false [c_ 30, c_ 31] (bF (dF c1)) ?_
    refine .reg' [4] [] ⟨[(4, (I (wrap64 (a1 - (a0.length : Int)))))], [], [], []⟩ [c_ 31] aln nocal ?_
    have h := Option.some.inj h
    subst h
    exact .fin0 [] (I (wrap64 (a1 - (a0.length : Int)))) [] aln (.z .s)
/-! laws_szTrip: function 39 -/
def laws_szTrip.f (a0 : S61) (a1 : Int) : Option Int := (if (wrap64 (a1 - (a0.f0.size : Int))) < 0 then (some (-1)) else ((laws_szCallS.f a0.f1 (wrap64 (a1 - (a0.f0.size : Int)))).bind fun x1 => (if x1 < 0 then (some (-1)) else (some x1))))
theorem laws_szTrip.J (a0 : S61) (a1 : Int) (r : Int) (h : laws_szTrip.f a0 a1 = some r) : J prog (.call 39 [(.ag [(S a0.f0), (.sl true a0.f1.length 3 (a0.f1.flatMap e89))]), (I a1)] [] (I r) []) := by
  unfold laws_szTrip.f at h
  refine .call' [c_ 2, c_ 3] ?_
  refine .reg' [1, 2] [] ⟨[(1, (I a1)), (2, (.pt 256 0 2))], [(256, [(S a0.f0), (.sl true a0.f1.length 3 (a0.f1.flatMap e89))])], [], []⟩ [c_ 6, c_ 7] aln nocal ?_
  refine .reg' [1, 2] [] ⟨[(1, (I (wrap64 (a1 - (a0.f0.size : Int))))), (2, (.pt 256 0 2))], [(256, [(S a0.f0), (.sl true a0.f1.length 3 (a0.f1.flatMap e89))])], [2 = 2 ∧ 0 + 1 ≤ 2], []⟩ [c_ 28, c_ 29, c_ 15] (alc ⟨rfl, by decide⟩ aln) nocal ?_
  refine .reg' [1, 2, 11] [] ⟨[(1, (I (wrap64 (a1 - (a0.f0.size : Int))))), (2, (.pt 256 0 2)), (11, (B (decide ((wrap64 (a1 - (a0.f0.size : Int))) < 0))))], [(256, [(S a0.f0), (.sl true a0.f1.length 3 (a0.f1.flatMap e89))])], [], []⟩ [c_ 29, c_ 15] aln nocal ?_
  by_cases c1 : (wrap64 (a1 - (a0.f0.size : Int))) < 0
  · rw [if_pos c1] at h
    refine .cond' (.tmp 11) true [c_ 116, c_ 117, c_ 15] (bT (dT c1)) ?_
    refine .reg' [4] [] ⟨[(4, (I (-1)))], [(256, [(S a0.f0), (.sl true a0.f1.length 3 (a0.f1.flatMap e89))])], [], []⟩ [c_ 117, c_ 15] aln nocal ?_
    have h := Option.some.inj h
    subst h
    exact .fin0 [] (I (-1)) [] aln (.z .s)
  · rw [if_neg c1] at h
    refine .cond' (.tmp 11) false [c_ 30, c_ 31] (bF (dF c1)) ?_
    obtain ⟨x1, hx1, h⟩ := Option.bind_eq_some_iff.mp h
    refine .reg' [1] [.no, .no, .no, .c ⟨71, [(.sl true a0.f1.length 3 (a0.f1.flatMap e89)), (I (wrap64 (a1 - (a0.f0.size : Int))))], [], (I x1), [], [], [], [], (I x1), []⟩] ⟨[(1, (I x1))], [(256, [(S a0.f0), (.sl true a0.f1.length 3 (a0.f1.flatMap e89))])], [2 = 2 ∧ 1 + 1 ≤ 2, COK (hget [(256, [(S a0.f0), (.sl true a0.f1.length 3 (a0.f1.flatMap e89))])]) [(.sl true a0.f1.length 3 (a0.f1.flatMap e89)), (I (wrap64 (a1 - (a0.f0.size : Int))))] ⟨71, [(.sl true a0.f1.length 3 (a0.f1.flatMap e89)), (I (wrap64 (a1 - (a0.f0.size : Int))))], [], (I x1), [], [], [], [], (I x1), []⟩], [⟨71, [(.sl true a0.f1.length 3 (a0.f1.flatMap e89)), (I (wrap64 (a1 - (a0.f0.size : Int))))], [], (I x1), [], [], [], [], (I x1), []⟩]⟩ [c_ 124, c_ 125, c_ 63] (alc ⟨rfl, by decide⟩ (alc (cok0 false (a2c (.z (frz_sl e89_ok (fun h => h))) (a2c (.z .s) a2n)) (.z .s) (fun h => absurd h (by decide))) aln)) (acal (laws_szCallS.J a0.f1 (wrap64 (a1 - (a0.f0.size : Int))) _ hx1) nocal) ?_
    refine .reg' [1, 17] [] ⟨[(1, (I x1)), (17, (B (decide (x1 < 0))))], [(256, [(S a0.f0), (.sl true a0.f1.length 3 (a0.f1.flatMap e89))])], [], []⟩ [c_ 125, c_ 63] aln nocal ?_
    by_cases c2 : x1 < 0
    · rw [if_pos c2] at h
      refine .cond' (.tmp 17) true [c_ 500, c_ 501, c_ 63] (bT (dT c2)) ?_
      refine .reg' [4] [] ⟨[(4, (I (-1)))], [(256, [(S a0.f0), (.sl true a0.f1.length 3 (a0.f1.flatMap e89))])], [], []⟩ [c_ 501, c_ 63] aln nocal ?_
      have h := Option.some.inj h
      subst h
      exact .fin0 [] (I (-1)) [] aln (.z .s)
    · rw [if_neg c2] at h
      refine .cond' (.tmp 17) false [c_ 126, c_ 127] (bF (dF c2)) ?_
      refine .reg' [4] [] ⟨[(4, (I x1))], [(256, [(S a0.f0), (.sl true a0.f1.length 3 (a0.f1.flatMap e89))])], [], []⟩ [c_ 127] aln nocal ?_
      have h := Option.some.inj h
      subst h
      exact .fin0 [] (I x1) [] aln (.z .s)
/-! laws_szTripS: function 24 -/
def laws_szTripS.l0 : Nat → (List S61) → Int → Int → Option Int
 | 0, _, _, _ => none
 | k + 1, a0, x1, x2 => (if x2 < (a0.length : Int) then (if 0 ≤ x2 then ((laws_szTrip.f (at_ a0 x2) x1).bind fun x3 => (if x3 < 0 then (some (-1)) else (laws_szTripS.l0 k a0 x3 (wrap64 (x2 + 1))))) else none) else (some x1))
def laws_szTripS.f (k : Nat) (a0 : (List S61)) (a1 : Int) : Option Int := (if (wrap64 (a1 - (a0.length : Int))) < 0 then (some (-1)) else (laws_szTripS.l0 k a0 (wrap64 (a1 - (a0.length : Int))) 0))
theorem laws_szTripS.lab : ∀ k, (∀ (a0 : (List S61)) (x1 : Int) (x2 : Int) (r : Int), laws_szTripS.l0 k a0 x1 x2 = some r → J prog (.run 24 [] [l_ 122, b_ 0, c_ 31] [(0, (.sl true a0.length 2 (a0.flatMap (e61 true)))), (1, (I x1)), (5, (I x2))] [] (I r) []))
 | 0 => (by intro a0 x1 x2 r h; unfold laws_szTripS.l0 at h; cases h)
 | k + 1 => by
  have ih0 := laws_szTripS.lab k
  · intro a0 x1 x2 r h
    unfold laws_szTripS.l0 at h
    refine .loop' [c_ 976, c_ 977, c_ 489, l_ 122, b_ 0, c_ 31] ?_
    refine .reg' [0, 1, 5, 15] [] ⟨[(0, (.sl true a0.length 2 (a0.flatMap (e61 true)))), (1, (I x1)), (5, (I x2)), (15, (B (decide (x2 < (a0.length : Int)))))], [], [], []⟩ [c_ 977, c_ 489, l_ 122, b_ 0, c_ 31] aln nocal ?_
    by_cases c2 : x2 < (a0.length : Int)
    · rw [if_pos c2] at h
      refine .cond' (.tmp 15) true [c_ 3912, c_ 3913, b_ 1, c_ 979, l_ 122, b_ 0, c_ 31] (bT (dT c2)) ?_
      by_cases c3 : 0 ≤ x2
      · rw [if_pos c3] at h
        obtain ⟨x3, hx3, h⟩ := Option.bind_eq_some_iff.mp h
        refine .reg' [0, 1, 5] [.no, .no, .no, .v (.ag [(S (at_ a0 x2).f0), (.sl true (at_ a0 x2).f1.length 3 ((at_ a0 x2).f1.flatMap e89))]), .no, .c ⟨39, [(.ag [(S (at_ a0 x2).f0), (.sl true (at_ a0 x2).f1.length 3 ((at_ a0 x2).f1.flatMap e89))]), (I x1)], [], (I x3), [], [], [], [], (I x3), []⟩] ⟨[(0, (.sl true a0.length 2 (a0.flatMap (e61 true)))), (1, (I x3)), (5, (I x2))], [], [(0 : Int) ≤ x2 ∧ x2 < (a0.length : Int), rdC prog 62 ((a0.flatMap (e61 true)).drop (x2.toNat * 2)) = (.ag [(S (at_ a0 x2).f0), (.sl true (at_ a0 x2).f1.length 3 ((at_ a0 x2).f1.flatMap e89))]), 2 ≤ ((a0.flatMap (e61 true)).drop (x2.toNat * 2)).length, COK (hget []) [(.ag [(S (at_ a0 x2).f0), (.sl true (at_ a0 x2).f1.length 3 ((at_ a0 x2).f1.flatMap e89))]), (I x1)] ⟨39, [(.ag [(S (at_ a0 x2).f0), (.sl true (at_ a0 x2).f1.length 3 ((at_ a0 x2).f1.flatMap e89))]), (I x1)], [], (I x3), [], [], [], [], (I x3), []⟩], [⟨39, [(.ag [(S (at_ a0 x2).f0), (.sl true (at_ a0 x2).f1.length 3 ((at_ a0 x2).f1.flatMap e89))]), (I x1)], [], (I x3), [], [], [], [], (I x3), []⟩]⟩ [c_ 7826, c_ 7827, b_ 1, c_ 979, l_ 122, b_ 0, c_ 31] (alc ⟨c3, c2⟩ (alc (ldA (e61_ok true) rfl rfl c3 c2) (alc (okI (e61_ok true) c3 c2 (by decide)) (alc (cok0 false (a2c (.z (frz_ag (a2c .s (a2c (frz_sl e89_ok (fun h => h)) a2n)))) (a2c (.z .s) a2n)) (.z .s) (fun h => absurd h (by decide))) aln)))) (acal (laws_szTrip.J (at_ a0 x2) x1 _ hx3) nocal) ?_
        refine .reg' [0, 1, 5, 25] [] ⟨[(0, (.sl true a0.length 2 (a0.flatMap (e61 true)))), (1, (I x3)), (5, (I x2)), (25, (B (decide (x3 < 0))))], [], [], []⟩ [c_ 7827, b_ 1, c_ 979, l_ 122, b_ 0, c_ 31] aln nocal ?_
        by_cases c4 : x3 < 0
        · rw [if_pos c4] at h
          refine .cond' (.tmp 25) true [c_ 31308, c_ 31309, b_ 1, c_ 979, l_ 122, b_ 0, c_ 31] (bT (dT c4)) ?_
          refine .reg' [4] [] ⟨[(4, (I (-1)))], [], [], []⟩ [c_ 31309, b_ 1, c_ 979, l_ 122, b_ 0, c_ 31] aln nocal ?_
          have h := Option.some.inj h
          subst h
          exact .fin0 [] (I (-1)) [] aln (.z .s)
        · rw [if_neg c4] at h
          refine .cond' (.tmp 25) false [c_ 979, l_ 122, b_ 0, c_ 31] (bF (dF c4)) ?_
          refine .reg' [0, 1, 5] [] ⟨[(0, (.sl true a0.length 2 (a0.flatMap (e61 true)))), (1, (I x3)), (5, (I (wrap64 (x2 + 1))))], [], [], []⟩ [l_ 122, b_ 0, c_ 31] aln nocal ?_
          exact ih0 a0 x3 (wrap64 (x2 + 1)) _ h
      · rw [if_neg c3] at h
        cases h
    · rw [if_neg c2] at h
      refine .cond' (.tmp 15) false [c_ 62, c_ 63] (bF (dF c2)) ?_
      refine .reg' [4] [] ⟨[(4, (I x1))], [], [], []⟩ [c_ 63] aln nocal ?_
      have h := Option.some.inj h
      subst h
      exact .fin0 [] (I x1) [] aln (.z .s)
theorem laws_szTripS.J (k : Nat) (a0 : (List S61)) (a1 : Int) (r : Int) (h : laws_szTripS.f k a0 a1 = some r) : J prog (.call 24 [(.sl true a0.length 2 (a0.flatMap (e61 true))), (I a1)] [] (I r) []) := by
  unfold laws_szTripS.f at h
  have ih0 := laws_szTripS.lab k
  refine .call' [c_ 2, c_ 3] ?_
  refine .reg' [0, 1] [] ⟨[(0, (.sl true a0.length 2 (a0.flatMap (e61 true)))), (1, (I a1))], [], [], []⟩ [c_ 6, c_ 7] aln nocal ?_
  refine .reg' [0, 1] [] ⟨[(0, (.sl true a0.length 2 (a0.flatMap (e61 true)))), (1, (I (wrap64 (a1 - (a0.length : Int)))))], [], [], []⟩ [c_ 28, c_ 29, c_ 15] aln nocal ?_
  refine .reg' [0, 1, 11] [] ⟨[(0, (.sl true a0.length 2 (a0.flatMap (e61 true)))), (1, (I (wrap64 (a1 - (a0.length : Int))))), (11, (B (decide ((wrap64 (a1 - (a0.length : Int))) < 0))))], [], [], []⟩ [c_ 29, c_ 15] aln nocal ?_
  by_cases c1 : (wrap64 (a1 - (a0.length : Int))) < 0
  · rw [if_pos c1] at h
    refine .cond' (.tmp 11) true [c_ 116, c_ 117, c_ 15] (bT (dT c1)) ?_
    refine .reg' [4] [] ⟨[(4, (I (-1)))], [], [], []⟩ [c_ 117, c_ 15] aln nocal ?_
    have h := Option.some.inj h
    subst h
    exact .fin0 [] (I (-1)) [] aln (.z .s)
  · rw [if_neg c1] at h
    refine .cond' (.tmp 11) false [c_ 60, c_ 61, c_ 31] (bF (dF c1)) ?_
    refine .reg' [0, 1, 5] [] ⟨[(0, (.sl true a0.length 2 (a0.flatMap (e61 true)))), (1, (I (wrap64 (a1 - (a0.length : Int))))), (5, (I 0))], [], [], []⟩ [l_ 122, b_ 0, c_ 31] aln nocal ?_
    exact ih0 a0 (wrap64 (a1 - (a0.length : Int))) 0 _ h
/-! laws_toEdge: function 86 -/
def laws_toEdge.f (a0 : S95) : Option S95 := (some a0)
theorem laws_toEdge.J (a0 : S95) (r : S95) (h : laws_toEdge.f a0 = some r) : J prog (.call 86 [(.ag [(I a0.f0), (I a0.f1), (I a0.f2), (I a0.f3)])] [] (.ag [(I r.f0), (I r.f1), (I r.f2), (I r.f3)]) []) := by
  unfold laws_toEdge.f at h
  refine .call' [c_ 2, c_ 3] ?_
  refine .reg' [1, 2] [] ⟨[(1, (.pt 256 0 4)), (2, (.pt 257 0 4))], [(256, [(I a0.f0), (I a0.f1), (I a0.f2), (I a0.f3)]), (257, [(I 0), (I 0), (I 0), (I 0)])], [], []⟩ [c_ 6, c_ 7] aln nocal ?_
  refine .reg' [1, 2, 3] [] ⟨[(1, (.pt 256 0 4)), (2, (.pt 257 0 4)), (3, (.pt 512 0 4))], [(256, [(I a0.f0), (I a0.f1), (I a0.f2), (I a0.f3)]), (257, [(I 0), (I 0), (I 0), (I 0)]), (512, [(I 0), (I 0), (I 0), (I 0)])], [], []⟩ [c_ 14, c_ 15] aln nocal ?_
  refine .reg' [1, 2, 3] [] ⟨[(1, (.pt 256 0 4)), (2, (.pt 257 0 4)), (3, (.pt 512 0 4))], [(256, [(I a0.f0), (I a0.f1), (I a0.f2), (I a0.f3)]), (257, [(I 0), (I 0), (I 0), (I 0)]), (512, [(I a0.f0), (I 0), (I 0), (I 0)])], [4 = 4 ∧ 0 + 1 ≤ 4, 4 = 4 ∧ 0 + 1 ≤ 4], []⟩ [c_ 30, c_ 31] (alc ⟨rfl, by decide⟩ (alc ⟨rfl, by decide⟩ aln)) nocal ?_
  refine .reg' [1, 2, 3] [] ⟨[(1, (.pt 256 0 4)), (2, (.pt 257 0 4)), (3, (.pt 512 0 4))], [(256, [(I a0.f0), (I a0.f1), (I a0.f2), (I a0.f3)]), (257, [(I 0), (I 0), (I 0), (I 0)]), (512, [(I a0.f0), (I a0.f1), (I 0), (I 0)])], [4 = 4 ∧ 1 + 1 ≤ 4, 4 = 4 ∧ 1 + 1 ≤ 4], []⟩ [c_ 62, c_ 63] (alc ⟨rfl, by decide⟩ (alc ⟨rfl, by decide⟩ aln)) nocal ?_
  refine .reg' [1, 2, 3] [] ⟨[(1, (.pt 256 0 4)), (2, (.pt 257 0 4)), (3, (.pt 512 0 4))], [(256, [(I a0.f0), (I a0.f1), (I a0.f2), (I a0.f3)]), (257, [(I 0), (I 0), (I 0), (I 0)]), (512, [(I a0.f0), (I a0.f1), (I a0.f2), (I 0)])], [4 = 4 ∧ 2 + 1 ≤ 4, 4 = 4 ∧ 2 + 1 ≤ 4], []⟩ [c_ 126, c_ 127] (alc ⟨rfl, by decide⟩ (alc ⟨rfl, by decide⟩ aln)) nocal ?_
  refine .reg' [2, 3] [] ⟨[(2, (.pt 257 0 4)), (3, (.pt 512 0 4))], [(256, [(I a0.f0), (I a0.f1), (I a0.f2), (I a0.f3)]), (257, [(I 0), (I 0), (I 0), (I 0)]), (512, [(I a0.f0), (I a0.f1), (I a0.f2), (I a0.f3)])], [4 = 4 ∧ 3 + 1 ≤ 4, 4 = 4 ∧ 3 + 1 ≤ 4], []⟩ [c_ 254, c_ 255] (alc ⟨rfl, by decide⟩ (alc ⟨rfl, by decide⟩ aln)) nocal ?_
  refine .reg' [2] [] ⟨[(2, (.pt 257 0 4))], [(256, [(I a0.f0), (I a0.f1), (I a0.f2), (I a0.f3)]), (257, [(I a0.f0), (I a0.f1), (I a0.f2), (I a0.f3)]), (512, [(I a0.f0), (I a0.f1), (I a0.f2), (I a0.f3)])], [4 = 4 ∧ 0 + 4 ≤ 4, 4 = 4 ∧ 0 + 4 ≤ 4], []⟩ [c_ 255] (alc ⟨rfl, by decide⟩ (alc ⟨rfl, by decide⟩ aln)) nocal ?_
  have h := Option.some.inj h
  subst h
  exact .fin0 [] (.ag [(I a0.f0), (I a0.f1), (I a0.f2), (I a0.f3)]) [4 = 4 ∧ 0 + 4 ≤ 4] (alc ⟨rfl, by decide⟩ aln) (.z (frz_ag (a2c .s (a2c .s (a2c .s (a2c .s a2n))))))
/-! laws_toEdgeS: function 65 -/
def laws_toEdgeS.l0 : Nat → (List S95) → (List S95) → Int → Option (List S95)
 | 0, _, _, _ => none
 | k + 1, a0, x1, x2 => (if x2 < (a0.length : Int) then (if 0 ≤ x2 then ((laws_toEdge.f (at_ a0 x2)).bind fun x3 => (if x2 < (x1.length : Int) then (laws_toEdgeS.l0 k a0 (x1.set x2.toNat x3) (wrap64 (x2 + 1))) else none)) else none) else (some x1))
def laws_toEdgeS.f (k : Nat) (a0 : (List S95)) : Option (List S95) := (if 0 ≤ (a0.length : Int) then (if (a0.length : Int) * 32 ≤ 281474976710656 then (laws_toEdgeS.l0 k a0 (List.replicate (a0.length : Int).toNat (⟨0, 0, 0, 0⟩ : S95)) 0) else none) else none)
theorem laws_toEdgeS.lab : ∀ k, (∀ (a0 : (List S95)) (x1 : (List S95)) (x2 : Int) (r : (List S95)), laws_toEdgeS.l0 k a0 x1 x2 = some r → J prog (.run 65 [] [l_ 58, b_ 0, c_ 15] [(0, (.sl true a0.length 4 (a0.flatMap e95))), (3, (.rf 514 0 x1.length 4 (x1.length * 4))), (4, (I x2))] [(514, (x1.flatMap e95))] (.rf 514 0 r.length 4 (r.length * 4)) [(514, (r.flatMap e95))]))
 | 0 => (by intro a0 x1 x2 r h; unfold laws_toEdgeS.l0 at h; cases h)
 | k + 1 => by
  have ih0 := laws_toEdgeS.lab k
  · intro a0 x1 x2 r h
    unfold laws_toEdgeS.l0 at h
    refine .loop' [c_ 464, c_ 465, c_ 233, l_ 58, b_ 0, c_ 15] ?_
    refine .reg' [0, 3, 4, 11] [] ⟨[(0, (.sl true a0.length 4 (a0.flatMap e95))), (3, (.rf 514 0 x1.length 4 (x1.length * 4))), (4, (I x2)), (11, (B (decide (x2 < (a0.length : Int)))))], [(514, (x1.flatMap e95))], [], []⟩ [c_ 465, c_ 233, l_ 58, b_ 0, c_ 15] aln nocal ?_
    by_cases c3 : x2 < (a0.length : Int)
    · rw [if_pos c3] at h
      refine .cond' (.tmp 11) true [c_ 932, b_ 1, c_ 467, l_ 58, b_ 0, c_ 15] (bT (dT c3)) ?_
      by_cases c4 : 0 ≤ x2
      · rw [if_pos c4] at h
        obtain ⟨x3, hx3, h⟩ := Option.bind_eq_some_iff.mp h
        by_cases c5 : x2 < (x1.length : Int)
        · rw [if_pos c5] at h
          refine .reg' [0, 3, 4] [.no, .no, .no, .no, .no, .v (.ag [(I (at_ a0 x2).f0), (I (at_ a0 x2).f1), (I (at_ a0 x2).f2), (I (at_ a0 x2).f3)]), .c ⟨86, [(.ag [(I (at_ a0 x2).f0), (I (at_ a0 x2).f1), (I (at_ a0 x2).f2), (I (at_ a0 x2).f3)])], [], (.ag [(I x3.f0), (I x3.f1), (I x3.f2), (I x3.f3)]), [], [], [], [], (.ag [(I x3.f0), (I x3.f1), (I x3.f2), (I x3.f3)]), []⟩, .no, .w .un ((x1.set x2.toNat x3).flatMap e95)] ⟨[(0, (.sl true a0.length 4 (a0.flatMap e95))), (3, (.rf 514 0 x1.length 4 (x1.length * 4))), (4, (I x2))], [(514, ((x1.set x2.toNat x3).flatMap e95))], [(0 : Int) ≤ x2 ∧ x2 < (a0.length : Int), rdC prog 114 ((a0.flatMap e95).drop (x2.toNat * 4)) = (.ag [(I (at_ a0 x2).f0), (I (at_ a0 x2).f1), (I (at_ a0 x2).f2), (I (at_ a0 x2).f3)]), 4 ≤ ((a0.flatMap e95).drop (x2.toNat * 4)).length, COK (hget [(514, (x1.flatMap e95))]) [(.ag [(I (at_ a0 x2).f0), (I (at_ a0 x2).f1), (I (at_ a0 x2).f2), (I (at_ a0 x2).f3)])] ⟨86, [(.ag [(I (at_ a0 x2).f0), (I (at_ a0 x2).f1), (I (at_ a0 x2).f2), (I (at_ a0 x2).f3)])], [], (.ag [(I x3.f0), (I x3.f1), (I x3.f2), (I x3.f3)]), [], [], [], [], (.ag [(I x3.f0), (I x3.f1), (I x3.f2), (I x3.f3)]), []⟩, (0 : Int) ≤ x2 ∧ x2 < (x1.length : Int), V.un = V.un, spl (x1.flatMap e95) (0 + x2.toNat * 4) [(I x3.f0), (I x3.f1), (I x3.f2), (I x3.f3)] = ((x1.set x2.toNat x3).flatMap e95), x1.length * 4 = (x1.flatMap e95).length ∧ 0 + x2.toNat * 4 + 4 ≤ (x1.flatMap e95).length], [⟨86, [(.ag [(I (at_ a0 x2).f0), (I (at_ a0 x2).f1), (I (at_ a0 x2).f2), (I (at_ a0 x2).f3)])], [], (.ag [(I x3.f0), (I x3.f1), (I x3.f2), (I x3.f3)]), [], [], [], [], (.ag [(I x3.f0), (I x3.f1), (I x3.f2), (I x3.f3)]), []⟩]⟩ [c_ 467, l_ 58, b_ 0, c_ 15] (alc ⟨c4, c3⟩ (alc (ldA e95_ok rfl rfl c4 c3) (alc (okI e95_ok c4 c3 (by decide)) (alc (cok0 false (a2c (.z (frz_ag (a2c .s (a2c .s (a2c .s (a2c .s a2n)))))) a2n) (.z (cln_ag (alc1 .s (alc1 .s (alc1 .s (alc1 .s aln1)))))) (fun h => absurd h (by decide))) (alc ⟨c4, c5⟩ (alc rfl (alc (st_row e95_ok 0 c4 c5 (Nat.le_of_ble_eq_true rfl) rfl) (alc (okA0 e95_ok c4 c5 (by decide)) aln)))))))) (acal (laws_toEdge.J (at_ a0 x2) _ hx3) nocal) ?_
          refine .eqs (env2 := [(0, (.sl true a0.length 4 (a0.flatMap e95))), (3, (.rf 514 0 ((x1.set x2.toNat x3).length) 4 ((x1.set x2.toNat x3).length * 4))), (4, (I x2))]) (H2 := [(514, ((x1.set x2.toNat x3).flatMap e95))]) (by first | (simp only [List.length_set]; done) | simp) (by first | rfl | (simp only [List.length_set]; done) | simp) ?_
          refine .reg' [0, 3, 4] [] ⟨[(0, (.sl true a0.length 4 (a0.flatMap e95))), (3, (.rf 514 0 ((x1.set x2.toNat x3).length) 4 ((x1.set x2.toNat x3).length * 4))), (4, (I (wrap64 (x2 + 1))))], [(514, ((x1.set x2.toNat x3).flatMap e95))], [], []⟩ [l_ 58, b_ 0, c_ 15] aln nocal ?_
          exact ih0 a0 (x1.set x2.toNat x3) (wrap64 (x2 + 1)) _ h
        · rw [if_neg c5] at h
          cases h
      · rw [if_neg c4] at h
        cases h
    · rw [if_neg c3] at h
      refine .cond' (.tmp 11) false [c_ 30, c_ 31] (bF (dF c3)) ?_
      refine .reg' [2] [] ⟨[(2, (.rf 514 0 x1.length 4 (x1.length * 4)))], [(514, (x1.flatMap e95))], [], []⟩ [c_ 31] aln nocal ?_
      have h := Option.some.inj h
      subst h
      exact .fin' [] [(514, 514)] (.rf 514 0 x1.length 4 (x1.length * 4)) [] aln (shc 514 (rowF e95_ok _) shn) (.rf (memP_mem (p := (514, 514)) rfl))
theorem laws_toEdgeS.J (k : Nat) (a0 : (List S95)) (r : (List S95)) (h : laws_toEdgeS.f k a0 = some r) : J prog (.call 65 [(.sl true a0.length 4 (a0.flatMap e95))] [] (.rf 514 0 r.length 4 (r.length * 4)) [(514, (r.flatMap e95))]) := by
  unfold laws_toEdgeS.f at h
  have ih0 := laws_toEdgeS.lab k
  refine .call' [c_ 2, c_ 3] ?_
  refine .reg' [0] [] ⟨[(0, (.sl true a0.length 4 (a0.flatMap e95)))], [], [], []⟩ [c_ 6, c_ 7] aln nocal ?_
  by_cases c1 : 0 ≤ (a0.length : Int)
  · rw [if_pos c1] at h
    by_cases c2 : (a0.length : Int) * 32 ≤ 281474976710656
    · rw [if_pos c2] at h
      refine .reg' [0, 3] [.no, .no, .w (.rf 514 0 ((List.replicate (a0.length : Int).toNat (⟨0, 0, 0, 0⟩ : S95)).length) 4 ((List.replicate (a0.length : Int).toNat (⟨0, 0, 0, 0⟩ : S95)).length * 4)) ((List.replicate (a0.length : Int).toNat (⟨0, 0, 0, 0⟩ : S95)).flatMap e95)] ⟨[(0, (.sl true a0.length 4 (a0.flatMap e95))), (3, (.rf 514 0 ((List.replicate (a0.length : Int).toNat (⟨0, 0, 0, 0⟩ : S95)).length) 4 ((List.replicate (a0.length : Int).toNat (⟨0, 0, 0, 0⟩ : S95)).length * 4)))], [(514, ((List.replicate (a0.length : Int).toNat (⟨0, 0, 0, 0⟩ : S95)).flatMap e95))], [V.rf 514 0 (a0.length : Int).toNat 4 ((a0.length : Int).toNat * 4) = (.rf 514 0 ((List.replicate (a0.length : Int).toNat (⟨0, 0, 0, 0⟩ : S95)).length) 4 ((List.replicate (a0.length : Int).toNat (⟨0, 0, 0, 0⟩ : S95)).length * 4)), rept (a0.length : Int).toNat [(I 0), (I 0), (I 0), (I 0)] = (List.replicate (a0.length : Int).toNat (⟨0, 0, 0, 0⟩ : S95)).flatMap e95, (a0.length : Int) = (a0.length : Int) ∧ 0 ≤ (a0.length : Int) ∧ (a0.length : Int) * 32 ≤ 281474976710656 ∧ (a0.length : Int) ≤ 9223372036854775807], []⟩ [c_ 28, c_ 29, c_ 15] (alc mkV (alc (row_rept (enc := e95) (x := (⟨0, 0, 0, 0⟩ : S95)) (by decide) _) (alc ⟨rfl, c1, c2, by omega⟩ aln))) nocal ?_
      refine .reg' [0, 3, 4] [] ⟨[(0, (.sl true a0.length 4 (a0.flatMap e95))), (3, (.rf 514 0 ((List.replicate (a0.length : Int).toNat (⟨0, 0, 0, 0⟩ : S95)).length) 4 ((List.replicate (a0.length : Int).toNat (⟨0, 0, 0, 0⟩ : S95)).length * 4))), (4, (I 0))], [(514, ((List.replicate (a0.length : Int).toNat (⟨0, 0, 0, 0⟩ : S95)).flatMap e95))], [], []⟩ [l_ 58, b_ 0, c_ 15] aln nocal ?_
      exact ih0 a0 (List.replicate (a0.length : Int).toNat (⟨0, 0, 0, 0⟩ : S95)) 0 _ h
    · rw [if_neg c2] at h
      cases h
  · rw [if_neg c1] at h
    cases h
/-! laws_toNet: function 26 -/
def laws_toNet.f (k : Nat) (a0 : S39) : Option S46 := ((laws_toEdgeS.f k a0.f1).bind fun x1 => (some (⟨a0.f0, x1⟩ : S46)))
theorem laws_toNet.J (k : Nat) (a0 : S39) (r : S46) (h : laws_toNet.f k a0 = some r) : J prog (.call 26 [(.ag [(I a0.f0), (.sl true a0.f1.length 4 (a0.f1.flatMap e95))])] [] (.ag [(I r.f0), (.rf 1001026 0 r.f1.length 4 (r.f1.length * 4))]) [(1001026, (r.f1.flatMap e95))]) := by
  unfold laws_toNet.f at h
  refine .call' [c_ 2, c_ 3] ?_
  refine .reg' [1, 2] [] ⟨[(1, (.pt 256 0 2)), (2, (.pt 257 0 2))], [(256, [(I a0.f0), (.sl true a0.f1.length 4 (a0.f1.flatMap e95))]), (257, [(I 0), nilS])], [], []⟩ [c_ 6, c_ 7] aln nocal ?_
  refine .reg' [1, 2, 3] [] ⟨[(1, (.pt 256 0 2)), (2, (.pt 257 0 2)), (3, (.pt 512 0 2))], [(256, [(I a0.f0), (.sl true a0.f1.length 4 (a0.f1.flatMap e95))]), (257, [(I 0), nilS]), (512, [(I 0), nilS])], [], []⟩ [c_ 14, c_ 15] aln nocal ?_
  refine .reg' [1, 2, 3] [] ⟨[(1, (.pt 256 0 2)), (2, (.pt 257 0 2)), (3, (.pt 512 0 2))], [(256, [(I a0.f0), (.sl true a0.f1.length 4 (a0.f1.flatMap e95))]), (257, [(I 0), nilS]), (512, [(I a0.f0), nilS])], [2 = 2 ∧ 0 + 1 ≤ 2, 2 = 2 ∧ 0 + 1 ≤ 2], []⟩ [c_ 30, c_ 31] (alc ⟨rfl, by decide⟩ (alc ⟨rfl, by decide⟩ aln)) nocal ?_
  obtain ⟨x1, hx1, h⟩ := Option.bind_eq_some_iff.mp h
  refine .reg' [2, 3] [.no, .no, .c ⟨65, [(.sl true a0.f1.length 4 (a0.f1.flatMap e95))], [], (.rf 514 0 x1.length 4 (x1.length * 4)), [(514, (x1.flatMap e95))], [], [], [(1001026, 514)], (.rf 1001026 0 x1.length 4 (x1.length * 4)), [(1001026, (x1.flatMap e95))]⟩] ⟨[(2, (.pt 257 0 2)), (3, (.pt 512 0 2))], [(256, [(I a0.f0), (.sl true a0.f1.length 4 (a0.f1.flatMap e95))]), (257, [(I 0), nilS]), (512, [(I a0.f0), (.rf 1001026 0 x1.length 4 (x1.length * 4))]), (1001026, (x1.flatMap e95))], [2 = 2 ∧ 1 + 1 ≤ 2, COK (hget [(256, [(I a0.f0), (.sl true a0.f1.length 4 (a0.f1.flatMap e95))]), (257, [(I 0), nilS]), (512, [(I a0.f0), nilS])]) [(.sl true a0.f1.length 4 (a0.f1.flatMap e95))] ⟨65, [(.sl true a0.f1.length 4 (a0.f1.flatMap e95))], [], (.rf 514 0 x1.length 4 (x1.length * 4)), [(514, (x1.flatMap e95))], [], [], [(1001026, 514)], (.rf 1001026 0 x1.length 4 (x1.length * 4)), [(1001026, (x1.flatMap e95))]⟩, 2 = 2 ∧ 1 + 1 ≤ 2], [⟨65, [(.sl true a0.f1.length 4 (a0.f1.flatMap e95))], [], (.rf 514 0 x1.length 4 (x1.length * 4)), [(514, (x1.flatMap e95))], [], [], [(1001026, 514)], (.rf 1001026 0 x1.length 4 (x1.length * 4)), [(1001026, (x1.flatMap e95))]⟩]⟩ [c_ 62, c_ 63] (alc ⟨rfl, by decide⟩ (alc (cokW false (a2c (.z (frz_sl e95_ok (fun h => h))) a2n) akn (akc (.inr rfl) akn) (.rf (memP_mem (p := (1001026, 514)) rfl)) (akc ⟨_, _, rfl, rfl, rowB e95_c _⟩ akn) (fun h => absurd h (by decide))) (alc ⟨rfl, by decide⟩ aln))) (acal (laws_toEdgeS.J k a0.f1 _ hx1) nocal) ?_
  refine .reg' [2] [] ⟨[(2, (.pt 257 0 2))], [(256, [(I a0.f0), (.sl true a0.f1.length 4 (a0.f1.flatMap e95))]), (257, [(I a0.f0), (.rf 1001026 0 x1.length 4 (x1.length * 4))]), (512, [(I a0.f0), (.rf 1001026 0 x1.length 4 (x1.length * 4))]), (1001026, (x1.flatMap e95))], [2 = 2 ∧ 0 + 2 ≤ 2, 2 = 2 ∧ 0 + 2 ≤ 2], []⟩ [c_ 63] (alc ⟨rfl, by decide⟩ (alc ⟨rfl, by decide⟩ aln)) nocal ?_
  have h := Option.some.inj h
  subst h
  exact .fin' [] [(1001026, 1001026)] (.ag [(I a0.f0), (.rf 1001026 0 x1.length 4 (x1.length * 4))]) [2 = 2 ∧ 0 + 2 ≤ 2] (alc ⟨rfl, by decide⟩ aln) (shc 1001026 (rowF e95_ok _) shn) (cnv_ag (a2c (.z .s) (a2c (.rf (memP_mem (p := (1001026, 1001026)) rfl)) a2n)))
/-! laws_toCall: function 91 -/
def laws_toCall.f (a0 : S89) : Option S89 := (some a0)
theorem laws_toCall.J (a0 : S89) (r : S89) (h : laws_toCall.f a0 = some r) : J prog (.call 91 [(.ag [(I a0.f0), (I a0.f1), (I a0.f2)])] [] (.ag [(I r.f0), (I r.f1), (I r.f2)]) []) := by
  unfold laws_toCall.f at h
  refine .call' [c_ 2, c_ 3] ?_
  refine .reg' [1, 2] [] ⟨[(1, (.pt 256 0 3)), (2, (.pt 257 0 3))], [(256, [(I a0.f0), (I a0.f1), (I a0.f2)]), (257, [(I 0), (I 0), (I 0)])], [], []⟩ [c_ 6, c_ 7] aln nocal ?_
  refine .reg' [1, 2, 3] [] ⟨[(1, (.pt 256 0 3)), (2, (.pt 257 0 3)), (3, (.pt 512 0 3))], [(256, [(I a0.f0), (I a0.f1), (I a0.f2)]), (257, [(I 0), (I 0), (I 0)]), (512, [(I 0), (I 0), (I 0)])], [], []⟩ [c_ 14, c_ 15] aln nocal ?_
  refine .reg' [1, 2, 3] [] ⟨[(1, (.pt 256 0 3)), (2, (.pt 257 0 3)), (3, (.pt 512 0 3))], [(256, [(I a0.f0), (I a0.f1), (I a0.f2)]), (257, [(I 0), (I 0), (I 0)]), (512, [(I a0.f0), (I 0), (I 0)])], [3 = 3 ∧ 0 + 1 ≤ 3, 3 = 3 ∧ 0 + 1 ≤ 3], []⟩ [c_ 30, c_ 31] (alc ⟨rfl, by decide⟩ (alc ⟨rfl, by decide⟩ aln)) nocal ?_
  refine .reg' [1, 2, 3] [] ⟨[(1, (.pt 256 0 3)), (2, (.pt 257 0 3)), (3, (.pt 512 0 3))], [(256, [(I a0.f0), (I a0.f1), (I a0.f2)]), (257, [(I 0), (I 0), (I 0)]), (512, [(I a0.f0), (I a0.f1), (I 0)])], [3 = 3 ∧ 1 + 1 ≤ 3, 3 = 3 ∧ 1 + 1 ≤ 3], []⟩ [c_ 62, c_ 63] (alc ⟨rfl, by decide⟩ (alc ⟨rfl, by decide⟩ aln)) nocal ?_
  refine .reg' [2, 3] [] ⟨[(2, (.pt 257 0 3)), (3, (.pt 512 0 3))], [(256, [(I a0.f0), (I a0.f1), (I a0.f2)]), (257, [(I 0), (I 0), (I 0)]), (512, [(I a0.f0), (I a0.f1), (I a0.f2)])], [3 = 3 ∧ 2 + 1 ≤ 3, 3 = 3 ∧ 2 + 1 ≤ 3], []⟩ [c_ 126, c_ 127] (alc ⟨rfl, by decide⟩ (alc ⟨rfl, by decide⟩ aln)) nocal ?_
  refine .reg' [2] [] ⟨[(2, (.pt 257 0 3))], [(256, [(I a0.f0), (I a0.f1), (I a0.f2)]), (257, [(I a0.f0), (I a0.f1), (I a0.f2)]), (512, [(I a0.f0), (I a0.f1), (I a0.f2)])], [3 = 3 ∧ 0 + 3 ≤ 3, 3 = 3 ∧ 0 + 3 ≤ 3], []⟩ [c_ 127] (alc ⟨rfl, by decide⟩ (alc ⟨rfl, by decide⟩ aln)) nocal ?_
  have h := Option.some.inj h
  subst h
  exact .fin0 [] (.ag [(I a0.f0), (I a0.f1), (I a0.f2)]) [3 = 3 ∧ 0 + 3 ≤ 3] (alc ⟨rfl, by decide⟩ aln) (.z (frz_ag (a2c .s (a2c .s (a2c .s a2n)))))
/-! laws_toCallS: function 75 -/
def laws_toCallS.l0 : Nat → (List S89) → (List S89) → Int → Option (List S89)
 | 0, _, _, _ => none
 | k + 1, a0, x1, x2 => (if x2 < (a0.length : Int) then (if 0 ≤ x2 then ((laws_toCall.f (at_ a0 x2)).bind fun x3 => (if x2 < (x1.length : Int) then (laws_toCallS.l0 k a0 (x1.set x2.toNat x3) (wrap64 (x2 + 1))) else none)) else none) else (some x1))
def laws_toCallS.f (k : Nat) (a0 : (List S89)) : Option (List S89) := (if 0 ≤ (a0.length : Int) then (if (a0.length : Int) * 24 ≤ 281474976710656 then (laws_toCallS.l0 k a0 (List.replicate (a0.length : Int).toNat (⟨0, 0, 0⟩ : S89)) 0) else none) else none)
theorem laws_toCallS.lab : ∀ k, (∀ (a0 : (List S89)) (x1 : (List S89)) (x2 : Int) (r : (List S89)), laws_toCallS.l0 k a0 x1 x2 = some r → J prog (.run 75 [] [l_ 58, b_ 0, c_ 15] [(0, (.sl true a0.length 3 (a0.flatMap e89))), (3, (.rf 514 0 x1.length 3 (x1.length * 3))), (4, (I x2))] [(514, (x1.flatMap e89))] (.rf 514 0 r.length 3 (r.length * 3)) [(514, (r.flatMap e89))]))
 | 0 => (by intro a0 x1 x2 r h; unfold laws_toCallS.l0 at h; cases h)
 | k + 1 => by
  have ih0 := laws_toCallS.lab k
  · intro a0 x1 x2 r h
    unfold laws_toCallS.l0 at h
    refine .loop' [c_ 464, c_ 465, c_ 233, l_ 58, b_ 0, c_ 15] ?_
    refine .reg' [0, 3, 4, 11] [] ⟨[(0, (.sl true a0.length 3 (a0.flatMap e89))), (3, (.rf 514 0 x1.length 3 (x1.length * 3))), (4, (I x2)), (11, (B (decide (x2 < (a0.length : Int)))))], [(514, (x1.flatMap e89))], [], []⟩ [c_ 465, c_ 233, l_ 58, b_ 0, c_ 15] aln nocal ?_
    by_cases c3 : x2 < (a0.length : Int)
    · rw [if_pos c3] at h
      refine .cond' (.tmp 11) true [c_ 932, b_ 1, c_ 467, l_ 58, b_ 0, c_ 15] (bT (dT c3)) ?_
      by_cases c4 : 0 ≤ x2
      · rw [if_pos c4] at h
        obtain ⟨x3, hx3, h⟩ := Option.bind_eq_some_iff.mp h
        by_cases c5 : x2 < (x1.length : Int)
        · rw [if_pos c5] at h
          refine .reg' [0, 3, 4] [.no, .no, .no, .no, .no, .v (.ag [(I (at_ a0 x2).f0), (I (at_ a0 x2).f1), (I (at_ a0 x2).f2)]), .c ⟨91, [(.ag [(I (at_ a0 x2).f0), (I (at_ a0 x2).f1), (I (at_ a0 x2).f2)])], [], (.ag [(I x3.f0), (I x3.f1), (I x3.f2)]), [], [], [], [], (.ag [(I x3.f0), (I x3.f1), (I x3.f2)]), []⟩, .no, .w .un ((x1.set x2.toNat x3).flatMap e89)] ⟨[(0, (.sl true a0.length 3 (a0.flatMap e89))), (3, (.rf 514 0 x1.length 3 (x1.length * 3))), (4, (I x2))], [(514, ((x1.set x2.toNat x3).flatMap e89))], [(0 : Int) ≤ x2 ∧ x2 < (a0.length : Int), rdC prog 118 ((a0.flatMap e89).drop (x2.toNat * 3)) = (.ag [(I (at_ a0 x2).f0), (I (at_ a0 x2).f1), (I (at_ a0 x2).f2)]), 3 ≤ ((a0.flatMap e89).drop (x2.toNat * 3)).length, COK (hget [(514, (x1.flatMap e89))]) [(.ag [(I (at_ a0 x2).f0), (I (at_ a0 x2).f1), (I (at_ a0 x2).f2)])] ⟨91, [(.ag [(I (at_ a0 x2).f0), (I (at_ a0 x2).f1), (I (at_ a0 x2).f2)])], [], (.ag [(I x3.f0), (I x3.f1), (I x3.f2)]), [], [], [], [], (.ag [(I x3.f0), (I x3.f1), (I x3.f2)]), []⟩, (0 : Int) ≤ x2 ∧ x2 < (x1.length : Int), V.un = V.un, spl (x1.flatMap e89) (0 + x2.toNat * 3) [(I x3.f0), (I x3.f1), (I x3.f2)] = ((x1.set x2.toNat x3).flatMap e89), x1.length * 3 = (x1.flatMap e89).length ∧ 0 + x2.toNat * 3 + 3 ≤ (x1.flatMap e89).length], [⟨91, [(.ag [(I (at_ a0 x2).f0), (I (at_ a0 x2).f1), (I (at_ a0 x2).f2)])], [], (.ag [(I x3.f0), (I x3.f1), (I x3.f2)]), [], [], [], [], (.ag [(I x3.f0), (I x3.f1), (I x3.f2)]), []⟩]⟩ [c_ 467, l_ 58, b_ 0, c_ 15] (alc ⟨c4, c3⟩ (alc (ldA e89_ok rfl rfl c4 c3) (alc (okI e89_ok c4 c3 (by decide)) (alc (cok0 false (a2c (.z (frz_ag (a2c .s (a2c .s (a2c .s a2n))))) a2n) (.z (cln_ag (alc1 .s (alc1 .s (alc1 .s aln1))))) (fun h => absurd h (by decide))) (alc ⟨c4, c5⟩ (alc rfl (alc (st_row e89_ok 0 c4 c5 (Nat.le_of_ble_eq_true rfl) rfl) (alc (okA0 e89_ok c4 c5 (by decide)) aln)))))))) (acal (laws_toCall.J (at_ a0 x2) _ hx3) nocal) ?_
          refine .eqs (env2 := [(0, (.sl true a0.length 3 (a0.flatMap e89))), (3, (.rf 514 0 ((x1.set x2.toNat x3).length) 3 ((x1.set x2.toNat x3).length * 3))), (4, (I x2))]) (H2 := [(514, ((x1.set x2.toNat x3).flatMap e89))]) (by first | (simp only [List.length_set]; done) | simp) (by first | rfl | (simp only [List.length_set]; done) | simp) ?_
          refine .reg' [0, 3, 4] [] ⟨[(0, (.sl true a0.length 3 (a0.flatMap e89))), (3, (.rf 514 0 ((x1.set x2.toNat x3).length) 3 ((x1.set x2.toNat x3).length * 3))), (4, (I (wrap64 (x2 + 1))))], [(514, ((x1.set x2.toNat x3).flatMap e89))], [], []⟩ [l_ 58, b_ 0, c_ 15] aln nocal ?_
          exact ih0 a0 (x1.set x2.toNat x3) (wrap64 (x2 + 1)) _ h
        · rw [if_neg c5] at h
          cases h
      · rw [if_neg c4] at h
        cases h
    · rw [if_neg c3] at h
      refine .cond' (.tmp 11) false [c_ 30, c_ 31] (bF (dF c3)) ?_
      refine .reg' [2] [] ⟨[(2, (.rf 514 0 x1.length 3 (x1.length * 3)))], [(514, (x1.flatMap e89))], [], []⟩ [c_ 31] aln nocal ?_
      have h := Option.some.inj h
      subst h
      exact .fin' [] [(514, 514)] (.rf 514 0 x1.length 3 (x1.length * 3)) [] aln (shc 514 (rowF e89_ok _) shn) (.rf (memP_mem (p := (514, 514)) rfl))
theorem laws_toCallS.J (k : Nat) (a0 : (List S89)) (r : (List S89)) (h : laws_toCallS.f k a0 = some r) : J prog (.call 75 [(.sl true a0.length 3 (a0.flatMap e89))] [] (.rf 514 0 r.length 3 (r.length * 3)) [(514, (r.flatMap e89))]) := by
  unfold laws_toCallS.f at h
  have ih0 := laws_toCallS.lab k
  refine .call' [c_ 2, c_ 3] ?_
  refine .reg' [0] [] ⟨[(0, (.sl true a0.length 3 (a0.flatMap e89)))], [], [], []⟩ [c_ 6, c_ 7] aln nocal ?_
  by_cases c1 : 0 ≤ (a0.length : Int)
  · rw [if_pos c1] at h
    by_cases c2 : (a0.length : Int) * 24 ≤ 281474976710656
    · rw [if_pos c2] at h
      refine .reg' [0, 3] [.no, .no, .w (.rf 514 0 ((List.replicate (a0.length : Int).toNat (⟨0, 0, 0⟩ : S89)).length) 3 ((List.replicate (a0.length : Int).toNat (⟨0, 0, 0⟩ : S89)).length * 3)) ((List.replicate (a0.length : Int).toNat (⟨0, 0, 0⟩ : S89)).flatMap e89)] ⟨[(0, (.sl true a0.length 3 (a0.flatMap e89))), (3, (.rf 514 0 ((List.replicate (a0.length : Int).toNat (⟨0, 0, 0⟩ : S89)).length) 3 ((List.replicate (a0.length : Int).toNat (⟨0, 0, 0⟩ : S89)).length * 3)))], [(514, ((List.replicate (a0.length : Int).toNat (⟨0, 0, 0⟩ : S89)).flatMap e89))], [V.rf 514 0 (a0.length : Int).toNat 3 ((a0.length : Int).toNat * 3) = (.rf 514 0 ((List.replicate (a0.length : Int).toNat (⟨0, 0, 0⟩ : S89)).length) 3 ((List.replicate (a0.length : Int).toNat (⟨0, 0, 0⟩ : S89)).length * 3)), rept (a0.length : Int).toNat [(I 0), (I 0), (I 0)] = (List.replicate (a0.length : Int).toNat (⟨0, 0, 0⟩ : S89)).flatMap e89, (a0.length : Int) = (a0.length : Int) ∧ 0 ≤ (a0.length : Int) ∧ (a0.length : Int) * 24 ≤ 281474976710656 ∧ (a0.length : Int) ≤ 9223372036854775807], []⟩ [c_ 28, c_ 29, c_ 15] (alc mkV (alc (row_rept (enc := e89) (x := (⟨0, 0, 0⟩ : S89)) (by decide) _) (alc ⟨rfl, c1, c2, by omega⟩ aln))) nocal ?_
      refine .reg' [0, 3, 4] [] ⟨[(0, (.sl true a0.length 3 (a0.flatMap e89))), (3, (.rf 514 0 ((List.replicate (a0.length : Int).toNat (⟨0, 0, 0⟩ : S89)).length) 3 ((List.replicate (a0.length : Int).toNat (⟨0, 0, 0⟩ : S89)).length * 3))), (4, (I 0))], [(514, ((List.replicate (a0.length : Int).toNat (⟨0, 0, 0⟩ : S89)).flatMap e89))], [], []⟩ [l_ 58, b_ 0, c_ 15] aln nocal ?_
      exact ih0 a0 (List.replicate (a0.length : Int).toNat (⟨0, 0, 0⟩ : S89)) 0 _ h
    · rw [if_neg c2] at h
      cases h
  · rw [if_neg c1] at h
    cases h
/-! laws_toTrip: function 41 -/
def laws_toTrip.f (k : Nat) (a0 : S61) : Option S66 := ((laws_toCallS.f k a0.f1).bind fun x1 => (some (⟨a0.f0, x1⟩ : S66)))
theorem laws_toTrip.J (k : Nat) (a0 : S61) (r : S66) (h : laws_toTrip.f k a0 = some r) : J prog (.call 41 [(.ag [(S a0.f0), (.sl true a0.f1.length 3 (a0.f1.flatMap e89))])] [] (.ag [(S r.f0), (.rf 1001026 0 r.f1.length 3 (r.f1.length * 3))]) [(1001026, (r.f1.flatMap e89))]) := by
  unfold laws_toTrip.f at h
  refine .call' [c_ 2, c_ 3] ?_
  refine .reg' [1, 2] [] ⟨[(1, (.pt 256 0 2)), (2, (.pt 257 0 2))], [(256, [(S a0.f0), (.sl true a0.f1.length 3 (a0.f1.flatMap e89))]), (257, [(S ByteArray.empty), nilS])], [], []⟩ [c_ 6, c_ 7] aln nocal ?_
  refine .reg' [1, 2, 3] [] ⟨[(1, (.pt 256 0 2)), (2, (.pt 257 0 2)), (3, (.pt 512 0 2))], [(256, [(S a0.f0), (.sl true a0.f1.length 3 (a0.f1.flatMap e89))]), (257, [(S ByteArray.empty), nilS]), (512, [(S ByteArray.empty), nilS])], [], []⟩ [c_ 14, c_ 15] aln nocal ?_
  refine .reg' [1, 2, 3] [] ⟨[(1, (.pt 256 0 2)), (2, (.pt 257 0 2)), (3, (.pt 512 0 2))], [(256, [(S a0.f0), (.sl true a0.f1.length 3 (a0.f1.flatMap e89))]), (257, [(S ByteArray.empty), nilS]), (512, [(S a0.f0), nilS])], [2 = 2 ∧ 0 + 1 ≤ 2, 2 = 2 ∧ 0 + 1 ≤ 2], []⟩ [c_ 30, c_ 31] (alc ⟨rfl, by decide⟩ (alc ⟨rfl, by decide⟩ aln)) nocal ?_
  obtain ⟨x1, hx1, h⟩ := Option.bind_eq_some_iff.mp h
  refine .reg' [2, 3] [.no, .no, .c ⟨75, [(.sl true a0.f1.length 3 (a0.f1.flatMap e89))], [], (.rf 514 0 x1.length 3 (x1.length * 3)), [(514, (x1.flatMap e89))], [], [], [(1001026, 514)], (.rf 1001026 0 x1.length 3 (x1.length * 3)), [(1001026, (x1.flatMap e89))]⟩] ⟨[(2, (.pt 257 0 2)), (3, (.pt 512 0 2))], [(256, [(S a0.f0), (.sl true a0.f1.length 3 (a0.f1.flatMap e89))]), (257, [(S ByteArray.empty), nilS]), (512, [(S a0.f0), (.rf 1001026 0 x1.length 3 (x1.length * 3))]), (1001026, (x1.flatMap e89))], [2 = 2 ∧ 1 + 1 ≤ 2, COK (hget [(256, [(S a0.f0), (.sl true a0.f1.length 3 (a0.f1.flatMap e89))]), (257, [(S ByteArray.empty), nilS]), (512, [(S a0.f0), nilS])]) [(.sl true a0.f1.length 3 (a0.f1.flatMap e89))] ⟨75, [(.sl true a0.f1.length 3 (a0.f1.flatMap e89))], [], (.rf 514 0 x1.length 3 (x1.length * 3)), [(514, (x1.flatMap e89))], [], [], [(1001026, 514)], (.rf 1001026 0 x1.length 3 (x1.length * 3)), [(1001026, (x1.flatMap e89))]⟩, 2 = 2 ∧ 1 + 1 ≤ 2], [⟨75, [(.sl true a0.f1.length 3 (a0.f1.flatMap e89))], [], (.rf 514 0 x1.length 3 (x1.length * 3)), [(514, (x1.flatMap e89))], [], [], [(1001026, 514)], (.rf 1001026 0 x1.length 3 (x1.length * 3)), [(1001026, (x1.flatMap e89))]⟩]⟩ [c_ 62, c_ 63] (alc ⟨rfl, by decide⟩ (alc (cokW false (a2c (.z (frz_sl e89_ok (fun h => h))) a2n) akn (akc (.inr rfl) akn) (.rf (memP_mem (p := (1001026, 514)) rfl)) (akc ⟨_, _, rfl, rfl, rowB e89_c _⟩ akn) (fun h => absurd h (by decide))) (alc ⟨rfl, by decide⟩ aln))) (acal (laws_toCallS.J k a0.f1 _ hx1) nocal) ?_
  refine .reg' [2] [] ⟨[(2, (.pt 257 0 2))], [(256, [(S a0.f0), (.sl true a0.f1.length 3 (a0.f1.flatMap e89))]), (257, [(S a0.f0), (.rf 1001026 0 x1.length 3 (x1.length * 3))]), (512, [(S a0.f0), (.rf 1001026 0 x1.length 3 (x1.length * 3))]), (1001026, (x1.flatMap e89))], [2 = 2 ∧ 0 + 2 ≤ 2, 2 = 2 ∧ 0 + 2 ≤ 2], []⟩ [c_ 63] (alc ⟨rfl, by decide⟩ (alc ⟨rfl, by decide⟩ aln)) nocal ?_
  have h := Option.some.inj h
  subst h
  exact .fin' [] [(1001026, 1001026)] (.ag [(S a0.f0), (.rf 1001026 0 x1.length 3 (x1.length * 3))]) [2 = 2 ∧ 0 + 2 ≤ 2] (alc ⟨rfl, by decide⟩ aln) (shc 1001026 (rowF e89_ok _) shn) (cnv_ag (a2c (.z .s) (a2c (.rf (memP_mem (p := (1001026, 1001026)) rfl)) a2n)))
/-! laws_toTripS: function 27 -/
def laws_toTripS.l0 : Nat → (List S61) → (List S66) → Int → Option (List S66)
 | 0, _, _, _ => none
 | k + 1, a0, x1, x2 => (if x2 < (a0.length : Int) then (if 0 ≤ x2 then ((laws_toTrip.f k (at_ a0 x2)).bind fun x3 => (if x2 < (x1.length : Int) then (laws_toTripS.l0 k a0 (x1.set x2.toNat x3) (wrap64 (x2 + 1))) else none)) else none) else (some x1))
def laws_toTripS.f (k : Nat) (a0 : (List S61)) : Option (List S66) := (if 0 ≤ (a0.length : Int) then (if (a0.length : Int) * 40 ≤ 281474976710656 then (laws_toTripS.l0 k a0 (List.replicate (a0.length : Int).toNat (⟨ByteArray.empty, []⟩ : S66)) 0) else none) else none)
theorem laws_toTripS.lab : ∀ k, (∀ (a0 : (List S61)) (x1 : (List S66)) (x2 : Int) (r : (List S66)), laws_toTripS.l0 k a0 x1 x2 = some r → J prog (.run 27 [] [l_ 58, b_ 0, c_ 15] [(0, (.sl true a0.length 2 (a0.flatMap (e61 true)))), (3, (.rf 4000000514 0 x1.length 2 (x1.length * 2))), (4, (I x2))] [(4000000514, (x1.flatMap o66))] (.rf 4000000514 0 r.length 2 (r.length * 2)) [(4000000514, (r.flatMap o66))]))
 | 0 => (by intro a0 x1 x2 r h; unfold laws_toTripS.l0 at h; cases h)
 | k + 1 => by
  have ih0 := laws_toTripS.lab k
  · intro a0 x1 x2 r h
    unfold laws_toTripS.l0 at h
    refine .loop' [c_ 464, c_ 465, c_ 233, l_ 58, b_ 0, c_ 15] ?_
    refine .reg' [0, 3, 4, 11] [] ⟨[(0, (.sl true a0.length 2 (a0.flatMap (e61 true)))), (3, (.rf 4000000514 0 x1.length 2 (x1.length * 2))), (4, (I x2)), (11, (B (decide (x2 < (a0.length : Int)))))], [(4000000514, (x1.flatMap o66))], [], []⟩ [c_ 465, c_ 233, l_ 58, b_ 0, c_ 15] aln nocal ?_
    by_cases c3 : x2 < (a0.length : Int)
    · rw [if_pos c3] at h
      refine .cond' (.tmp 11) true [c_ 932, b_ 1, c_ 467, l_ 58, b_ 0, c_ 15] (bT (dT c3)) ?_
      by_cases c4 : 0 ≤ x2
      · rw [if_pos c4] at h
        obtain ⟨x3, hx3, h⟩ := Option.bind_eq_some_iff.mp h
        by_cases c5 : x2 < (x1.length : Int)
        · rw [if_pos c5] at h
          refine .reg' [0, 3, 4] [.no, .no, .no, .no, .no, .v (.ag [(S (at_ a0 x2).f0), (.sl true (at_ a0 x2).f1.length 3 ((at_ a0 x2).f1.flatMap e89))]), .c ⟨41, [(.ag [(S (at_ a0 x2).f0), (.sl true (at_ a0 x2).f1.length 3 ((at_ a0 x2).f1.flatMap e89))])], [], (.ag [(S x3.f0), (.rf 1001026 0 x3.f1.length 3 (x3.f1.length * 3))]), [(1001026, (x3.f1.flatMap e89))], [], [], [(1001542, 1001026)], (.ag [(S x3.f0), (.rf 1001542 0 x3.f1.length 3 (x3.f1.length * 3))]), [(1001542, (x3.f1.flatMap e89))]⟩, .no, .w .un (foc o66 x1 x2.toNat [(S x3.f0), (.rf 1001542 0 x3.f1.length 3 (x3.f1.length * 3))])] ⟨[(0, (.sl true a0.length 2 (a0.flatMap (e61 true)))), (3, (.rf 4000000514 0 x1.length 2 (x1.length * 2))), (4, (I x2))], [(4000000514, (foc o66 x1 x2.toNat [(S x3.f0), (.rf 1001542 0 x3.f1.length 3 (x3.f1.length * 3))])), (1001542, (x3.f1.flatMap e89))], [(0 : Int) ≤ x2 ∧ x2 < (a0.length : Int), rdC prog 62 ((a0.flatMap (e61 true)).drop (x2.toNat * 2)) = (.ag [(S (at_ a0 x2).f0), (.sl true (at_ a0 x2).f1.length 3 ((at_ a0 x2).f1.flatMap e89))]), 2 ≤ ((a0.flatMap (e61 true)).drop (x2.toNat * 2)).length, COK (hget [(4000000514, (x1.flatMap o66))]) [(.ag [(S (at_ a0 x2).f0), (.sl true (at_ a0 x2).f1.length 3 ((at_ a0 x2).f1.flatMap e89))])] ⟨41, [(.ag [(S (at_ a0 x2).f0), (.sl true (at_ a0 x2).f1.length 3 ((at_ a0 x2).f1.flatMap e89))])], [], (.ag [(S x3.f0), (.rf 1001026 0 x3.f1.length 3 (x3.f1.length * 3))]), [(1001026, (x3.f1.flatMap e89))], [], [], [(1001542, 1001026)], (.ag [(S x3.f0), (.rf 1001542 0 x3.f1.length 3 (x3.f1.length * 3))]), [(1001542, (x3.f1.flatMap e89))]⟩, (0 : Int) ≤ x2 ∧ x2 < (x1.length : Int), V.un = V.un, spl (x1.flatMap o66) (0 + x2.toNat * 2) [(S x3.f0), (.rf 1001542 0 x3.f1.length 3 (x3.f1.length * 3))] = (foc o66 x1 x2.toNat [(S x3.f0), (.rf 1001542 0 x3.f1.length 3 (x3.f1.length * 3))]), x1.length * 2 = (x1.flatMap o66).length ∧ 0 + x2.toNat * 2 + 2 ≤ (x1.flatMap o66).length], [⟨41, [(.ag [(S (at_ a0 x2).f0), (.sl true (at_ a0 x2).f1.length 3 ((at_ a0 x2).f1.flatMap e89))])], [], (.ag [(S x3.f0), (.rf 1001026 0 x3.f1.length 3 (x3.f1.length * 3))]), [(1001026, (x3.f1.flatMap e89))], [], [], [(1001542, 1001026)], (.ag [(S x3.f0), (.rf 1001542 0 x3.f1.length 3 (x3.f1.length * 3))]), [(1001542, (x3.f1.flatMap e89))]⟩]⟩ [c_ 467, l_ 58, b_ 0, c_ 15] (alc ⟨c4, c3⟩ (alc (ldA (e61_ok true) rfl rfl c4 c3) (alc (okI (e61_ok true) c4 c3 (by decide)) (alc (cokW false (a2c (.z (frz_ag (a2c .s (a2c (frz_sl e89_ok (fun h => h)) a2n)))) a2n) akn (akc (.inr rfl) akn) (bck_ag (a2c (.z .s) (a2c (.rf (memP_mem (p := (1001542, 1001026)) rfl)) a2n))) (akc ⟨_, _, rfl, rfl, rowB e89_c _⟩ akn) (fun h => absurd h (by decide))) (alc ⟨c4, c5⟩ (alc rfl (alc (foc_st0 o66_ok c4 c5 rfl) (alc (okA0 o66_ok c4 c5 (by decide)) aln)))))))) (acal (laws_toTrip.J k (at_ a0 x2) _ hx3) nocal) ?_
          refine .clX [1001542] 1001542 4000000514 (x2.toNat * 2 + 1) x3.f1.length 3 (cs' := ((x1.set x2.toNat x3).flatMap o66)) (ds := (x3.f1.flatMap e89)) (H2 := []) ((foc_get (vs := [(S x3.f0), (.rf 1001542 0 x3.f1.length 3 (x3.f1.length * 3))]) o66_ok c4 c5 rfl 1 (by decide)).trans rfl) ((foc_set (vs := [(S x3.f0), (.rf 1001542 0 x3.f1.length 3 (x3.f1.length * 3))]) o66_ok c4 c5 rfl 1 (by decide) _).trans (foc_end o66_ok c4 c5 x3)) (row_len e89_ok _) (rowS e89_s _) (rsc (rqE o66_ok _) rsn) ?_
          refine .reg' [0, 3, 4] [] ⟨[(0, (.sl true a0.length 2 (a0.flatMap (e61 true)))), (3, (.rf 4000000514 0 x1.length 2 (x1.length * 2))), (4, (I (wrap64 (x2 + 1))))], [(4000000514, ((x1.set x2.toNat x3).flatMap o66))], [], []⟩ [l_ 58, b_ 0, c_ 15] aln nocal ?_
          refine .eqs (env2 := [(0, (.sl true a0.length 2 (a0.flatMap (e61 true)))), (3, (.rf 4000000514 0 ((x1.set x2.toNat x3).length) 2 ((x1.set x2.toNat x3).length * 2))), (4, (I (wrap64 (x2 + 1))))]) (H2 := [(4000000514, ((x1.set x2.toNat x3).flatMap o66))]) (by first | (simp only [List.length_set]; done) | simp) (by first | rfl | (simp only [List.length_set]; done) | simp) ?_
          exact ih0 a0 (x1.set x2.toNat x3) (wrap64 (x2 + 1)) _ h
        · rw [if_neg c5] at h
          cases h
      · rw [if_neg c4] at h
        cases h
    · rw [if_neg c3] at h
      refine .cond' (.tmp 11) false [c_ 30, c_ 31] (bF (dF c3)) ?_
      refine .reg' [2] [] ⟨[(2, (.rf 4000000514 0 x1.length 2 (x1.length * 2)))], [(4000000514, (x1.flatMap o66))], [], []⟩ [c_ 31] aln nocal ?_
      have h := Option.some.inj h
      subst h
      exact .fin' [] [(4000000514, 4000000514)] (.rf 4000000514 0 x1.length 2 (x1.length * 2)) [] aln (shc 4000000514 (rowF o66_ok _) shn) (.rf (memP_mem (p := (4000000514, 4000000514)) rfl))
theorem laws_toTripS.J (k : Nat) (a0 : (List S61)) (r : (List S66)) (h : laws_toTripS.f k a0 = some r) : J prog (.call 27 [(.sl true a0.length 2 (a0.flatMap (e61 true)))] [] (.rf 4000000514 0 r.length 2 (r.length * 2)) [(4000000514, (r.flatMap o66))]) := by
  unfold laws_toTripS.f at h
  have ih0 := laws_toTripS.lab k
  refine .call' [c_ 2, c_ 3] ?_
  refine .reg' [0] [] ⟨[(0, (.sl true a0.length 2 (a0.flatMap (e61 true))))], [], [], []⟩ [c_ 6, c_ 7] aln nocal ?_
  by_cases c1 : 0 ≤ (a0.length : Int)
  · rw [if_pos c1] at h
    by_cases c2 : (a0.length : Int) * 40 ≤ 281474976710656
    · rw [if_pos c2] at h
      refine .reg' [0, 3] [.no, .no, .v (.rf 514 0 ((List.replicate (a0.length : Int).toNat (⟨ByteArray.empty, []⟩ : S66)).length) 2 ((List.replicate (a0.length : Int).toNat (⟨ByteArray.empty, []⟩ : S66)).length * 2))] ⟨[(0, (.sl true a0.length 2 (a0.flatMap (e61 true)))), (3, (.rf 514 0 ((List.replicate (a0.length : Int).toNat (⟨ByteArray.empty, []⟩ : S66)).length) 2 ((List.replicate (a0.length : Int).toNat (⟨ByteArray.empty, []⟩ : S66)).length * 2)))], [(514, (rept (a0.length : Int).toNat [(S ByteArray.empty), nilS]))], [V.rf 514 0 (a0.length : Int).toNat 2 ((a0.length : Int).toNat * 2) = (.rf 514 0 ((List.replicate (a0.length : Int).toNat (⟨ByteArray.empty, []⟩ : S66)).length) 2 ((List.replicate (a0.length : Int).toNat (⟨ByteArray.empty, []⟩ : S66)).length * 2)), (a0.length : Int) = (a0.length : Int) ∧ 0 ≤ (a0.length : Int) ∧ (a0.length : Int) * 40 ≤ 281474976710656 ∧ (a0.length : Int) ≤ 9223372036854775807], []⟩ [c_ 28, c_ 29, c_ 15] (alc mkV (alc ⟨rfl, c1, c2, by omega⟩ aln)) nocal ?_
      refine .wk' [] [(514, 4000000514)] [(0, (.sl true a0.length 2 (a0.flatMap (e61 true)))), (3, (.rf 4000000514 0 ((List.replicate (a0.length : Int).toNat (⟨ByteArray.empty, []⟩ : S66)).length) 2 ((List.replicate (a0.length : Int).toNat (⟨ByteArray.empty, []⟩ : S66)).length * 2)))] [(4000000514, ((List.replicate (a0.length : Int).toNat (⟨ByteArray.empty, []⟩ : S66)).flatMap o66))] (shcA 514 (a2reptO (enc := o66) (x := (⟨ByteArray.empty, []⟩ : S66)) (a2c (.inl (.z .s)) (a2c cnvN a2n)) _) (.inr (rept_no rfl _)) shn) (enc_ (.z (frz_sl (e61_ok true) (fun h => h))) (enc_ (.rf (memP_mem (p := (514, 4000000514)) rfl)) enn)) ?_
      refine .reg' [0, 3, 4] [] ⟨[(0, (.sl true a0.length 2 (a0.flatMap (e61 true)))), (3, (.rf 4000000514 0 ((List.replicate (a0.length : Int).toNat (⟨ByteArray.empty, []⟩ : S66)).length) 2 ((List.replicate (a0.length : Int).toNat (⟨ByteArray.empty, []⟩ : S66)).length * 2))), (4, (I 0))], [(4000000514, ((List.replicate (a0.length : Int).toNat (⟨ByteArray.empty, []⟩ : S66)).flatMap o66))], [], []⟩ [l_ 58, b_ 0, c_ 15] aln nocal ?_
      exact ih0 a0 (List.replicate (a0.length : Int).toNat (⟨ByteArray.empty, []⟩ : S66)) 0 _ h
    · rw [if_neg c2] at h
      cases h
  · rw [if_neg c1] at h
    cases h
/-! spec_l01In: function 57 -/
def spec_l01In.f (a0 : Int) (a1 : Int) (a2 : Int) : Option Bool := (if a1 ≤ a0 then (some (decide (a0 ≤ a2))) else (some false))
theorem spec_l01In.J (a0 : Int) (a1 : Int) (a2 : Int) (r : Bool) (h : spec_l01In.f a0 a1 a2 = some r) : J prog (.call 57 [(I a0), (I a1), (I a2)] [] (B r) []) := by
  unfold spec_l01In.f at h
  refine .call' [c_ 2, c_ 3] ?_
  refine .reg' [0, 1, 2] [] ⟨[(0, (I a0)), (1, (I a1)), (2, (I a2))], [], [], []⟩ [c_ 6, c_ 7] aln nocal ?_
  by_cases c1 : a1 ≤ a0
  · rw [if_pos c1] at h
    refine .reg' [6] [.no, .no, .no, .v (B true)] ⟨[(6, (B (decide (a0 ≤ a2))))], [], [(B (decide (a1 ≤ a0)) : V) = B true], []⟩ [c_ 7] (alc (bT (dT c1)) aln) nocal ?_
    have h := Option.some.inj h
    subst h
    exact .fin0 [] (B (decide (a0 ≤ a2))) [] aln (.z .s)
  · rw [if_neg c1] at h
    refine .reg' [6] [.no, .no, .no, .v (B false)] ⟨[(6, (B false))], [], [(B (decide (a1 ≤ a0)) : V) = B false], []⟩ [c_ 7] (alc (bF (dF c1)) aln) nocal ?_
    have h := Option.some.inj h
    subst h
    exact .fin0 [] (B false) [] aln (.z .s)
/-! spec_NetOk: function 62 -/
def spec_NetOk.l0 : Nat → S46 → Int → Option Bool
 | 0, _, _ => none
 | k + 1, a0, x2 => (if x2 < (a0.f1.length : Int) then (if 0 ≤ x2 then ((spec_l01In.f ((at_ a0.f1 x2).f0) 0 (wrap64 (a0.f0 - 1))).bind fun x3 => (if x3 = true then ((spec_l01In.f ((at_ a0.f1 x2).f1) 0 (wrap64 (a0.f0 - 1))).bind fun x4 => (if x4 = true then (if (at_ a0.f1 x2).f0 = (at_ a0.f1 x2).f1 then (some false) else ((spec_l01In.f ((at_ a0.f1 x2).f2) 1 100000).bind fun x5 => (if x5 = true then ((spec_l01In.f ((at_ a0.f1 x2).f3) 1 90).bind fun x6 => (if x6 = true then (spec_NetOk.l0 k a0 (wrap64 (x2 + 1))) else (some false))) else (some false)))) else (some false))) else (some false))) else none) else (some true))
def spec_NetOk.f (k : Nat) (a0 : S46) : Option Bool := ((spec_l01In.f a0.f0 1 30).bind fun x1 => (if x1 = true then (if (a0.f1.length : Int) > 60 then (some false) else (spec_NetOk.l0 k a0 0)) else (some false)))
theorem spec_NetOk.lab : ∀ k, (∀ (a0 : S46) (x2 : Int) (r : Bool), spec_NetOk.l0 k a0 x2 = some r → J prog (.run 62 [] [l_ 58, b_ 0, c_ 15] [(1, (.pt 256 0 2)), (3, (I x2))] [(256, [(I a0.f0), (.sl true a0.f1.length 4 (a0.f1.flatMap e95))])] (B r) []))
 | 0 => (by intro a0 x2 r h; unfold spec_NetOk.l0 at h; cases h)
 | k + 1 => by
  have ih0 := spec_NetOk.lab k
  · intro a0 x2 r h
    unfold spec_NetOk.l0 at h
    refine .loop' [c_ 464, c_ 465, c_ 233, l_ 58, b_ 0, c_ 15] ?_
    refine .reg' [1, 3, 19] [] ⟨[(1, (.pt 256 0 2)), (3, (I x2)), (19, (B (decide (x2 < (a0.f1.length : Int)))))], [(256, [(I a0.f0), (.sl true a0.f1.length 4 (a0.f1.flatMap e95))])], [2 = 2 ∧ 1 + 1 ≤ 2], []⟩ [c_ 465, c_ 233, l_ 58, b_ 0, c_ 15] (alc ⟨rfl, by decide⟩ aln) nocal ?_
    by_cases c3 : x2 < (a0.f1.length : Int)
    · rw [if_pos c3] at h
      refine .cond' (.tmp 19) true [c_ 1864, c_ 1865, b_ 1, c_ 467, l_ 58, b_ 0, c_ 15] (bT (dT c3)) ?_
      by_cases c4 : 0 ≤ x2
      · rw [if_pos c4] at h
        refine .reg' [1, 3, 4] [.no, .no, .no, .no, .v (.ag [(I (at_ a0.f1 x2).f0), (I (at_ a0.f1 x2).f1), (I (at_ a0.f1 x2).f2), (I (at_ a0.f1 x2).f3)])] ⟨[(1, (.pt 256 0 2)), (3, (I x2)), (4, (.pt 1797 0 4))], [(256, [(I a0.f0), (.sl true a0.f1.length 4 (a0.f1.flatMap e95))]), (1797, [(I (at_ a0.f1 x2).f0), (I (at_ a0.f1 x2).f1), (I (at_ a0.f1 x2).f2), (I (at_ a0.f1 x2).f3)])], [2 = 2 ∧ 1 + 1 ≤ 2, (0 : Int) ≤ x2 ∧ x2 < (a0.f1.length : Int), rdC prog 96 ((a0.f1.flatMap e95).drop (x2.toNat * 4)) = (.ag [(I (at_ a0.f1 x2).f0), (I (at_ a0.f1 x2).f1), (I (at_ a0.f1 x2).f2), (I (at_ a0.f1 x2).f3)]), 4 ≤ ((a0.f1.flatMap e95).drop (x2.toNat * 4)).length, 4 = 4 ∧ 0 + 4 ≤ 4], []⟩ [c_ 3730, c_ 3731, b_ 1, c_ 467, l_ 58, b_ 0, c_ 15] (alc ⟨rfl, by decide⟩ (alc ⟨c4, c3⟩ (alc (ldA e95_ok rfl rfl c4 c3) (alc (okI e95_ok c4 c3 (by decide)) (alc ⟨rfl, by decide⟩ aln))))) nocal ?_
        obtain ⟨x3, hx3, h⟩ := Option.bind_eq_some_iff.mp h
        by_cases c5 : x3 = true
        · rw [if_pos c5] at h
          obtain ⟨x4, hx4, h⟩ := Option.bind_eq_some_iff.mp h
          by_cases c6 : x4 = true
          · rw [if_pos c6] at h
            by_cases c7 : (at_ a0.f1 x2).f0 = (at_ a0.f1 x2).f1
            · rw [if_pos c7] at h
              refine .reg' [1, 3, 61] [.no, .no, .no, .no, .no, .c ⟨57, [(I (at_ a0.f1 x2).f0), (I 0), (I (wrap64 (a0.f0 - 1)))], [], (B x3), [], [], [], [], (B x3), []⟩, .no, .v (B false), .no, .no, .no, .no, .no, .c ⟨57, [(I (at_ a0.f1 x2).f1), (I 0), (I (wrap64 (a0.f0 - 1)))], [], (B x4), [], [], [], [], (B x4), []⟩, .no, .no, .v (B false), .no, .no, .no, .no, .no, .no, .v (B true)] ⟨[(1, (.pt 256 0 2)), (3, (I x2)), (61, (B true))], [(256, [(I a0.f0), (.sl true a0.f1.length 4 (a0.f1.flatMap e95))]), (1797, [(I (at_ a0.f1 x2).f0), (I (at_ a0.f1 x2).f1), (I (at_ a0.f1 x2).f2), (I (at_ a0.f1 x2).f3)])], [4 = 4 ∧ 0 + 1 ≤ 4, 2 = 2 ∧ 0 + 1 ≤ 2, COK (hget [(256, [(I a0.f0), (.sl true a0.f1.length 4 (a0.f1.flatMap e95))]), (1797, [(I (at_ a0.f1 x2).f0), (I (at_ a0.f1 x2).f1), (I (at_ a0.f1 x2).f2), (I (at_ a0.f1 x2).f3)])]) [(I (at_ a0.f1 x2).f0), (I 0), (I (wrap64 (a0.f0 - 1)))] ⟨57, [(I (at_ a0.f1 x2).f0), (I 0), (I (wrap64 (a0.f0 - 1)))], [], (B x3), [], [], [], [], (B x3), []⟩, (B (!x3) : V) = B false, 4 = 4 ∧ 1 + 1 ≤ 4, 2 = 2 ∧ 0 + 1 ≤ 2, COK (hget [(256, [(I a0.f0), (.sl true a0.f1.length 4 (a0.f1.flatMap e95))]), (1797, [(I (at_ a0.f1 x2).f0), (I (at_ a0.f1 x2).f1), (I (at_ a0.f1 x2).f2), (I (at_ a0.f1 x2).f3)])]) [(I (at_ a0.f1 x2).f1), (I 0), (I (wrap64 (a0.f0 - 1)))] ⟨57, [(I (at_ a0.f1 x2).f1), (I 0), (I (wrap64 (a0.f0 - 1)))], [], (B x4), [], [], [], [], (B x4), []⟩, (B (!x4) : V) = B false, 4 = 4 ∧ 0 + 1 ≤ 4, 4 = 4 ∧ 1 + 1 ≤ 4, (B ((at_ a0.f1 x2).f0 == (at_ a0.f1 x2).f1) : V) = B true], [⟨57, [(I (at_ a0.f1 x2).f0), (I 0), (I (wrap64 (a0.f0 - 1)))], [], (B x3), [], [], [], [], (B x3), []⟩, ⟨57, [(I (at_ a0.f1 x2).f1), (I 0), (I (wrap64 (a0.f0 - 1)))], [], (B x4), [], [], [], [], (B x4), []⟩]⟩ [c_ 3731, b_ 1, c_ 467, l_ 58, b_ 0, c_ 15] (alc ⟨rfl, by decide⟩ (alc ⟨rfl, by decide⟩ (alc (cok0 false (a2c (.z .s) (a2c (.z .s) (a2c (.z .s) a2n))) (.z .s) (fun h => absurd h (by decide))) (alc (bF (nF c5)) (alc ⟨rfl, by decide⟩ (alc ⟨rfl, by decide⟩ (alc (cok0 false (a2c (.z .s) (a2c (.z .s) (a2c (.z .s) a2n))) (.z .s) (fun h => absurd h (by decide))) (alc (bF (nF c6)) (alc ⟨rfl, by decide⟩ (alc ⟨rfl, by decide⟩ (alc (bT (qT c7)) aln))))))))))) (acal (spec_l01In.J ((at_ a0.f1 x2).f0) 0 (wrap64 (a0.f0 - 1)) _ hx3) (acal (spec_l01In.J ((at_ a0.f1 x2).f1) 0 (wrap64 (a0.f0 - 1)) _ hx4) nocal)) ?_
              refine .cond' (.tmp 61) true [c_ 14924, c_ 14925, b_ 1, c_ 467, l_ 58, b_ 0, c_ 15] (rfl) ?_
              refine .reg' [2] [] ⟨[(2, (B false))], [(256, [(I a0.f0), (.sl true a0.f1.length 4 (a0.f1.flatMap e95))]), (1797, [(I (at_ a0.f1 x2).f0), (I (at_ a0.f1 x2).f1), (I (at_ a0.f1 x2).f2), (I (at_ a0.f1 x2).f3)])], [], []⟩ [c_ 14925, b_ 1, c_ 467, l_ 58, b_ 0, c_ 15] aln nocal ?_
              have h := Option.some.inj h
              subst h
              exact .fin0 [] (B false) [] aln (.z .s)
            · rw [if_neg c7] at h
              obtain ⟨x5, hx5, h⟩ := Option.bind_eq_some_iff.mp h
              by_cases c8 : x5 = true
              · rw [if_pos c8] at h
                obtain ⟨x6, hx6, h⟩ := Option.bind_eq_some_iff.mp h
                refine .reg' [1, 3, 61] [.no, .no, .no, .no, .no, .c ⟨57, [(I (at_ a0.f1 x2).f0), (I 0), (I (wrap64 (a0.f0 - 1)))], [], (B x3), [], [], [], [], (B x3), []⟩, .no, .v (B false), .no, .no, .no, .no, .no, .c ⟨57, [(I (at_ a0.f1 x2).f1), (I 0), (I (wrap64 (a0.f0 - 1)))], [], (B x4), [], [], [], [], (B x4), []⟩, .no, .no, .v (B false), .no, .no, .no, .no, .no, .no, .v (B false), .no, .no, .c ⟨57, [(I (at_ a0.f1 x2).f2), (I 1), (I 100000)], [], (B x5), [], [], [], [], (B x5), []⟩, .no, .no, .v (B false), .no, .no, .c ⟨57, [(I (at_ a0.f1 x2).f3), (I 1), (I 90)], [], (B x6), [], [], [], [], (B x6), []⟩] ⟨[(1, (.pt 256 0 2)), (3, (I x2)), (61, (B (!x6)))], [(256, [(I a0.f0), (.sl true a0.f1.length 4 (a0.f1.flatMap e95))]), (1797, [(I (at_ a0.f1 x2).f0), (I (at_ a0.f1 x2).f1), (I (at_ a0.f1 x2).f2), (I (at_ a0.f1 x2).f3)])], [4 = 4 ∧ 0 + 1 ≤ 4, 2 = 2 ∧ 0 + 1 ≤ 2, COK (hget [(256, [(I a0.f0), (.sl true a0.f1.length 4 (a0.f1.flatMap e95))]), (1797, [(I (at_ a0.f1 x2).f0), (I (at_ a0.f1 x2).f1), (I (at_ a0.f1 x2).f2), (I (at_ a0.f1 x2).f3)])]) [(I (at_ a0.f1 x2).f0), (I 0), (I (wrap64 (a0.f0 - 1)))] ⟨57, [(I (at_ a0.f1 x2).f0), (I 0), (I (wrap64 (a0.f0 - 1)))], [], (B x3), [], [], [], [], (B x3), []⟩, (B (!x3) : V) = B false, 4 = 4 ∧ 1 + 1 ≤ 4, 2 = 2 ∧ 0 + 1 ≤ 2, COK (hget [(256, [(I a0.f0), (.sl true a0.f1.length 4 (a0.f1.flatMap e95))]), (1797, [(I (at_ a0.f1 x2).f0), (I (at_ a0.f1 x2).f1), (I (at_ a0.f1 x2).f2), (I (at_ a0.f1 x2).f3)])]) [(I (at_ a0.f1 x2).f1), (I 0), (I (wrap64 (a0.f0 - 1)))] ⟨57, [(I (at_ a0.f1 x2).f1), (I 0), (I (wrap64 (a0.f0 - 1)))], [], (B x4), [], [], [], [], (B x4), []⟩, (B (!x4) : V) = B false, 4 = 4 ∧ 0 + 1 ≤ 4, 4 = 4 ∧ 1 + 1 ≤ 4, (B ((at_ a0.f1 x2).f0 == (at_ a0.f1 x2).f1) : V) = B false, 4 = 4 ∧ 2 + 1 ≤ 4, COK (hget [(256, [(I a0.f0), (.sl true a0.f1.length 4 (a0.f1.flatMap e95))]), (1797, [(I (at_ a0.f1 x2).f0), (I (at_ a0.f1 x2).f1), (I (at_ a0.f1 x2).f2), (I (at_ a0.f1 x2).f3)])]) [(I (at_ a0.f1 x2).f2), (I 1), (I 100000)] ⟨57, [(I (at_ a0.f1 x2).f2), (I 1), (I 100000)], [], (B x5), [], [], [], [], (B x5), []⟩, (B (!x5) : V) = B false, 4 = 4 ∧ 3 + 1 ≤ 4, COK (hget [(256, [(I a0.f0), (.sl true a0.f1.length 4 (a0.f1.flatMap e95))]), (1797, [(I (at_ a0.f1 x2).f0), (I (at_ a0.f1 x2).f1), (I (at_ a0.f1 x2).f2), (I (at_ a0.f1 x2).f3)])]) [(I (at_ a0.f1 x2).f3), (I 1), (I 90)] ⟨57, [(I (at_ a0.f1 x2).f3), (I 1), (I 90)], [], (B x6), [], [], [], [], (B x6), []⟩], [⟨57, [(I (at_ a0.f1 x2).f0), (I 0), (I (wrap64 (a0.f0 - 1)))], [], (B x3), [], [], [], [], (B x3), []⟩, ⟨57, [(I (at_ a0.f1 x2).f1), (I 0), (I (wrap64 (a0.f0 - 1)))], [], (B x4), [], [], [], [], (B x4), []⟩, ⟨57, [(I (at_ a0.f1 x2).f2), (I 1), (I 100000)], [], (B x5), [], [], [], [], (B x5), []⟩, ⟨57, [(I (at_ a0.f1 x2).f3), (I 1), (I 90)], [], (B x6), [], [], [], [], (B x6), []⟩]⟩ [c_ 3731, b_ 1, c_ 467, l_ 58, b_ 0, c_ 15] (alc ⟨rfl, by decide⟩ (alc ⟨rfl, by decide⟩ (alc (cok0 false (a2c (.z .s) (a2c (.z .s) (a2c (.z .s) a2n))) (.z .s) (fun h => absurd h (by decide))) (alc (bF (nF c5)) (alc ⟨rfl, by decide⟩ (alc ⟨rfl, by decide⟩ (alc (cok0 false (a2c (.z .s) (a2c (.z .s) (a2c (.z .s) a2n))) (.z .s) (fun h => absurd h (by decide))) (alc (bF (nF c6)) (alc ⟨rfl, by decide⟩ (alc ⟨rfl, by decide⟩ (alc (bF (qF c7)) (alc ⟨rfl, by decide⟩ (alc (cok0 false (a2c (.z .s) (a2c (.z .s) (a2c (.z .s) a2n))) (.z .s) (fun h => absurd h (by decide))) (alc (bF (nF c8)) (alc ⟨rfl, by decide⟩ (alc (cok0 false (a2c (.z .s) (a2c (.z .s) (a2c (.z .s) a2n))) (.z .s) (fun h => absurd h (by decide))) aln)))))))))))))))) (acal (spec_l01In.J ((at_ a0.f1 x2).f0) 0 (wrap64 (a0.f0 - 1)) _ hx3) (acal (spec_l01In.J ((at_ a0.f1 x2).f1) 0 (wrap64 (a0.f0 - 1)) _ hx4) (acal (spec_l01In.J ((at_ a0.f1 x2).f2) 1 100000 _ hx5) (acal (spec_l01In.J ((at_ a0.f1 x2).f3) 1 90 _ hx6) nocal)))) ?_
                by_cases c9 : x6 = true
                · rw [if_pos c9] at h
                  refine .cond' (.tmp 61) false [c_ 467, l_ 58, b_ 0, c_ 15] (bF (nF c9)) ?_
                  refine .reg' [1, 3] [] ⟨[(1, (.pt 256 0 2)), (3, (I (wrap64 (x2 + 1))))], [(256, [(I a0.f0), (.sl true a0.f1.length 4 (a0.f1.flatMap e95))]), (1797, [(I (at_ a0.f1 x2).f0), (I (at_ a0.f1 x2).f1), (I (at_ a0.f1 x2).f2), (I (at_ a0.f1 x2).f3)])], [], []⟩ [l_ 58, b_ 0, c_ 15] aln nocal ?_
                  refine .wk' [] [(256, 256)] [(1, (.pt 256 0 2)), (3, (I (wrap64 (x2 + 1))))] [(256, [(I a0.f0), (.sl true a0.f1.length 4 (a0.f1.flatMap e95))])] (shc 256 (a2c (.z .s) (a2c (.z (frz_sl e95_ok (fun h => h))) a2n)) shn) (enc_ (.pt (memP_mem (p := (256, 256)) rfl)) (enc_ (.z .s) enn)) ?_
                  exact ih0 a0 (wrap64 (x2 + 1)) _ h
                · rw [if_neg c9] at h
                  refine .cond' (.tmp 61) true [c_ 14924, c_ 14925, b_ 1, c_ 467, l_ 58, b_ 0, c_ 15] (bT (nT (vF c9))) ?_
                  refine .reg' [2] [] ⟨[(2, (B false))], [(256, [(I a0.f0), (.sl true a0.f1.length 4 (a0.f1.flatMap e95))]), (1797, [(I (at_ a0.f1 x2).f0), (I (at_ a0.f1 x2).f1), (I (at_ a0.f1 x2).f2), (I (at_ a0.f1 x2).f3)])], [], []⟩ [c_ 14925, b_ 1, c_ 467, l_ 58, b_ 0, c_ 15] aln nocal ?_
                  have h := Option.some.inj h
                  subst h
                  exact .fin0 [] (B false) [] aln (.z .s)
              · rw [if_neg c8] at h
                refine .reg' [1, 3, 61] [.no, .no, .no, .no, .no, .c ⟨57, [(I (at_ a0.f1 x2).f0), (I 0), (I (wrap64 (a0.f0 - 1)))], [], (B x3), [], [], [], [], (B x3), []⟩, .no, .v (B false), .no, .no, .no, .no, .no, .c ⟨57, [(I (at_ a0.f1 x2).f1), (I 0), (I (wrap64 (a0.f0 - 1)))], [], (B x4), [], [], [], [], (B x4), []⟩, .no, .no, .v (B false), .no, .no, .no, .no, .no, .no, .v (B false), .no, .no, .c ⟨57, [(I (at_ a0.f1 x2).f2), (I 1), (I 100000)], [], (B x5), [], [], [], [], (B x5), []⟩, .no, .no, .v (B true)] ⟨[(1, (.pt 256 0 2)), (3, (I x2)), (61, (B true))], [(256, [(I a0.f0), (.sl true a0.f1.length 4 (a0.f1.flatMap e95))]), (1797, [(I (at_ a0.f1 x2).f0), (I (at_ a0.f1 x2).f1), (I (at_ a0.f1 x2).f2), (I (at_ a0.f1 x2).f3)])], [4 = 4 ∧ 0 + 1 ≤ 4, 2 = 2 ∧ 0 + 1 ≤ 2, COK (hget [(256, [(I a0.f0), (.sl true a0.f1.length 4 (a0.f1.flatMap e95))]), (1797, [(I (at_ a0.f1 x2).f0), (I (at_ a0.f1 x2).f1), (I (at_ a0.f1 x2).f2), (I (at_ a0.f1 x2).f3)])]) [(I (at_ a0.f1 x2).f0), (I 0), (I (wrap64 (a0.f0 - 1)))] ⟨57, [(I (at_ a0.f1 x2).f0), (I 0), (I (wrap64 (a0.f0 - 1)))], [], (B x3), [], [], [], [], (B x3), []⟩, (B (!x3) : V) = B false, 4 = 4 ∧ 1 + 1 ≤ 4, 2 = 2 ∧ 0 + 1 ≤ 2, COK (hget [(256, [(I a0.f0), (.sl true a0.f1.length 4 (a0.f1.flatMap e95))]), (1797, [(I (at_ a0.f1 x2).f0), (I (at_ a0.f1 x2).f1), (I (at_ a0.f1 x2).f2), (I (at_ a0.f1 x2).f3)])]) [(I (at_ a0.f1 x2).f1), (I 0), (I (wrap64 (a0.f0 - 1)))] ⟨57, [(I (at_ a0.f1 x2).f1), (I 0), (I (wrap64 (a0.f0 - 1)))], [], (B x4), [], [], [], [], (B x4), []⟩, (B (!x4) : V) = B false, 4 = 4 ∧ 0 + 1 ≤ 4, 4 = 4 ∧ 1 + 1 ≤ 4, (B ((at_ a0.f1 x2).f0 == (at_ a0.f1 x2).f1) : V) = B false, 4 = 4 ∧ 2 + 1 ≤ 4, COK (hget [(256, [(I a0.f0), (.sl true a0.f1.length 4 (a0.f1.flatMap e95))]), (1797, [(I (at_ a0.f1 x2).f0), (I (at_ a0.f1 x2).f1), (I (at_ a0.f1 x2).f2), (I (at_ a0.f1 x2).f3)])]) [(I (at_ a0.f1 x2).f2), (I 1), (I 100000)] ⟨57, [(I (at_ a0.f1 x2).f2), (I 1), (I 100000)], [], (B x5), [], [], [], [], (B x5), []⟩, (B (!x5) : V) = B true], [⟨57, [(I (at_ a0.f1 x2).f0), (I 0), (I (wrap64 (a0.f0 - 1)))], [], (B x3), [], [], [], [], (B x3), []⟩, ⟨57, [(I (at_ a0.f1 x2).f1), (I 0), (I (wrap64 (a0.f0 - 1)))], [], (B x4), [], [], [], [], (B x4), []⟩, ⟨57, [(I (at_ a0.f1 x2).f2), (I 1), (I 100000)], [], (B x5), [], [], [], [], (B x5), []⟩]⟩ [c_ 3731, b_ 1, c_ 467, l_ 58, b_ 0, c_ 15] (alc ⟨rfl, by decide⟩ (alc ⟨rfl, by decide⟩ (alc (cok0 false (a2c (.z .s) (a2c (.z .s) (a2c (.z .s) a2n))) (.z .s) (fun h => absurd h (by decide))) (alc (bF (nF c5)) (alc ⟨rfl, by decide⟩ (alc ⟨rfl, by decide⟩ (alc (cok0 false (a2c (.z .s) (a2c (.z .s) (a2c (.z .s) a2n))) (.z .s) (fun h => absurd h (by decide))) (alc (bF (nF c6)) (alc ⟨rfl, by decide⟩ (alc ⟨rfl, by decide⟩ (alc (bF (qF c7)) (alc ⟨rfl, by decide⟩ (alc (cok0 false (a2c (.z .s) (a2c (.z .s) (a2c (.z .s) a2n))) (.z .s) (fun h => absurd h (by decide))) (alc (bT (nT (vF c8))) aln)))))))))))))) (acal (spec_l01In.J ((at_ a0.f1 x2).f0) 0 (wrap64 (a0.f0 - 1)) _ hx3) (acal (spec_l01In.J ((at_ a0.f1 x2).f1) 0 (wrap64 (a0.f0 - 1)) _ hx4) (acal (spec_l01In.J ((at_ a0.f1 x2).f2) 1 100000 _ hx5) nocal))) ?_
                refine .cond' (.tmp 61) true [c_ 14924, c_ 14925, b_ 1, c_ 467, l_ 58, b_ 0, c_ 15] (rfl) ?_
                refine .reg' [2] [] ⟨[(2, (B false))], [(256, [(I a0.f0), (.sl true a0.f1.length 4 (a0.f1.flatMap e95))]), (1797, [(I (at_ a0.f1 x2).f0), (I (at_ a0.f1 x2).f1), (I (at_ a0.f1 x2).f2), (I (at_ a0.f1 x2).f3)])], [], []⟩ [c_ 14925, b_ 1, c_ 467, l_ 58, b_ 0, c_ 15] aln nocal ?_
                have h := Option.some.inj h
                subst h
                exact .fin0 [] (B false) [] aln (.z .s)
          · rw [if_neg c6] at h
            refine .reg' [1, 3, 61] [.no, .no, .no, .no, .no, .c ⟨57, [(I (at_ a0.f1 x2).f0), (I 0), (I (wrap64 (a0.f0 - 1)))], [], (B x3), [], [], [], [], (B x3), []⟩, .no, .v (B false), .no, .no, .no, .no, .no, .c ⟨57, [(I (at_ a0.f1 x2).f1), (I 0), (I (wrap64 (a0.f0 - 1)))], [], (B x4), [], [], [], [], (B x4), []⟩, .no, .no, .v (B true)] ⟨[(1, (.pt 256 0 2)), (3, (I x2)), (61, (B true))], [(256, [(I a0.f0), (.sl true a0.f1.length 4 (a0.f1.flatMap e95))]), (1797, [(I (at_ a0.f1 x2).f0), (I (at_ a0.f1 x2).f1), (I (at_ a0.f1 x2).f2), (I (at_ a0.f1 x2).f3)])], [4 = 4 ∧ 0 + 1 ≤ 4, 2 = 2 ∧ 0 + 1 ≤ 2, COK (hget [(256, [(I a0.f0), (.sl true a0.f1.length 4 (a0.f1.flatMap e95))]), (1797, [(I (at_ a0.f1 x2).f0), (I (at_ a0.f1 x2).f1), (I (at_ a0.f1 x2).f2), (I (at_ a0.f1 x2).f3)])]) [(I (at_ a0.f1 x2).f0), (I 0), (I (wrap64 (a0.f0 - 1)))] ⟨57, [(I (at_ a0.f1 x2).f0), (I 0), (I (wrap64 (a0.f0 - 1)))], [], (B x3), [], [], [], [], (B x3), []⟩, (B (!x3) : V) = B false, 4 = 4 ∧ 1 + 1 ≤ 4, 2 = 2 ∧ 0 + 1 ≤ 2, COK (hget [(256, [(I a0.f0), (.sl true a0.f1.length 4 (a0.f1.flatMap e95))]), (1797, [(I (at_ a0.f1 x2).f0), (I (at_ a0.f1 x2).f1), (I (at_ a0.f1 x2).f2), (I (at_ a0.f1 x2).f3)])]) [(I (at_ a0.f1 x2).f1), (I 0), (I (wrap64 (a0.f0 - 1)))] ⟨57, [(I (at_ a0.f1 x2).f1), (I 0), (I (wrap64 (a0.f0 - 1)))], [], (B x4), [], [], [], [], (B x4), []⟩, (B (!x4) : V) = B true], [⟨57, [(I (at_ a0.f1 x2).f0), (I 0), (I (wrap64 (a0.f0 - 1)))], [], (B x3), [], [], [], [], (B x3), []⟩, ⟨57, [(I (at_ a0.f1 x2).f1), (I 0), (I (wrap64 (a0.f0 - 1)))], [], (B x4), [], [], [], [], (B x4), []⟩]⟩ [c_ 3731, b_ 1, c_ 467, l_ 58, b_ 0, c_ 15] (alc ⟨rfl, by decide⟩ (alc ⟨rfl, by decide⟩ (alc (cok0 false (a2c (.z .s) (a2c (.z .s) (a2c (.z .s) a2n))) (.z .s) (fun h => absurd h (by decide))) (alc (bF (nF c5)) (alc ⟨rfl, by decide⟩ (alc ⟨rfl, by decide⟩ (alc (cok0 false (a2c (.z .s) (a2c (.z .s) (a2c (.z .s) a2n))) (.z .s) (fun h => absurd h (by decide))) (alc (bT (nT (vF c6))) aln)))))))) (acal (spec_l01In.J ((at_ a0.f1 x2).f0) 0 (wrap64 (a0.f0 - 1)) _ hx3) (acal (spec_l01In.J ((at_ a0.f1 x2).f1) 0 (wrap64 (a0.f0 - 1)) _ hx4) nocal)) ?_
            refine .cond' (.tmp 61) true [c_ 14924, c_ 14925, b_ 1, c_ 467, l_ 58, b_ 0, c_ 15] (rfl) ?_
            refine .reg' [2] [] ⟨[(2, (B false))], [(256, [(I a0.f0), (.sl true a0.f1.length 4 (a0.f1.flatMap e95))]), (1797, [(I (at_ a0.f1 x2).f0), (I (at_ a0.f1 x2).f1), (I (at_ a0.f1 x2).f2), (I (at_ a0.f1 x2).f3)])], [], []⟩ [c_ 14925, b_ 1, c_ 467, l_ 58, b_ 0, c_ 15] aln nocal ?_
            have h := Option.some.inj h
            subst h
            exact .fin0 [] (B false) [] aln (.z .s)
        · rw [if_neg c5] at h
          refine .reg' [1, 3, 61] [.no, .no, .no, .no, .no, .c ⟨57, [(I (at_ a0.f1 x2).f0), (I 0), (I (wrap64 (a0.f0 - 1)))], [], (B x3), [], [], [], [], (B x3), []⟩, .no, .v (B true)] ⟨[(1, (.pt 256 0 2)), (3, (I x2)), (61, (B true))], [(256, [(I a0.f0), (.sl true a0.f1.length 4 (a0.f1.flatMap e95))]), (1797, [(I (at_ a0.f1 x2).f0), (I (at_ a0.f1 x2).f1), (I (at_ a0.f1 x2).f2), (I (at_ a0.f1 x2).f3)])], [4 = 4 ∧ 0 + 1 ≤ 4, 2 = 2 ∧ 0 + 1 ≤ 2, COK (hget [(256, [(I a0.f0), (.sl true a0.f1.length 4 (a0.f1.flatMap e95))]), (1797, [(I (at_ a0.f1 x2).f0), (I (at_ a0.f1 x2).f1), (I (at_ a0.f1 x2).f2), (I (at_ a0.f1 x2).f3)])]) [(I (at_ a0.f1 x2).f0), (I 0), (I (wrap64 (a0.f0 - 1)))] ⟨57, [(I (at_ a0.f1 x2).f0), (I 0), (I (wrap64 (a0.f0 - 1)))], [], (B x3), [], [], [], [], (B x3), []⟩, (B (!x3) : V) = B true], [⟨57, [(I (at_ a0.f1 x2).f0), (I 0), (I (wrap64 (a0.f0 - 1)))], [], (B x3), [], [], [], [], (B x3), []⟩]⟩ [c_ 3731, b_ 1, c_ 467, l_ 58, b_ 0, c_ 15] (alc ⟨rfl, by decide⟩ (alc ⟨rfl, by decide⟩ (alc (cok0 false (a2c (.z .s) (a2c (.z .s) (a2c (.z .s) a2n))) (.z .s) (fun h => absurd h (by decide))) (alc (bT (nT (vF c5))) aln)))) (acal (spec_l01In.J ((at_ a0.f1 x2).f0) 0 (wrap64 (a0.f0 - 1)) _ hx3) nocal) ?_
          refine .cond' (.tmp 61) true [c_ 14924, c_ 14925, b_ 1, c_ 467, l_ 58, b_ 0, c_ 15] (rfl) ?_
          refine .reg' [2] [] ⟨[(2, (B false))], [(256, [(I a0.f0), (.sl true a0.f1.length 4 (a0.f1.flatMap e95))]), (1797, [(I (at_ a0.f1 x2).f0), (I (at_ a0.f1 x2).f1), (I (at_ a0.f1 x2).f2), (I (at_ a0.f1 x2).f3)])], [], []⟩ [c_ 14925, b_ 1, c_ 467, l_ 58, b_ 0, c_ 15] aln nocal ?_
          have h := Option.some.inj h
          subst h
          exact .fin0 [] (B false) [] aln (.z .s)
      · rw [if_neg c4] at h
        cases h
    · rw [if_neg c3] at h
      refine .cond' (.tmp 19) false [c_ 30, c_ 31] (bF (dF c3)) ?_
      refine .reg' [2] [] ⟨[(2, (B true))], [(256, [(I a0.f0), (.sl true a0.f1.length 4 (a0.f1.flatMap e95))])], [], []⟩ [c_ 31] aln nocal ?_
      have h := Option.some.inj h
      subst h
      exact .fin0 [] (B true) [] aln (.z .s)
theorem spec_NetOk.J (k : Nat) (a0 : S46) (r : Bool) (h : spec_NetOk.f k a0 = some r) : J prog (.call 62 [(.ag [(I a0.f0), (.sl true a0.f1.length 4 (a0.f1.flatMap e95))])] [] (B r) []) := by
  unfold spec_NetOk.f at h
  have ih0 := spec_NetOk.lab k
  refine .call' [c_ 2, c_ 3] ?_
  refine .reg' [1] [] ⟨[(1, (.pt 256 0 2))], [(256, [(I a0.f0), (.sl true a0.f1.length 4 (a0.f1.flatMap e95))])], [], []⟩ [c_ 12, c_ 13, c_ 7] aln nocal ?_
  obtain ⟨x1, hx1, h⟩ := Option.bind_eq_some_iff.mp h
  by_cases c1 : x1 = true
  · rw [if_pos c1] at h
    refine .reg' [1, 14] [.no, .no, .c ⟨57, [(I a0.f0), (I 1), (I 30)], [], (B x1), [], [], [], [], (B x1), []⟩, .no, .v (B false)] ⟨[(1, (.pt 256 0 2)), (14, (B (decide ((a0.f1.length : Int) > 60))))], [(256, [(I a0.f0), (.sl true a0.f1.length 4 (a0.f1.flatMap e95))])], [2 = 2 ∧ 0 + 1 ≤ 2, COK (hget [(256, [(I a0.f0), (.sl true a0.f1.length 4 (a0.f1.flatMap e95))])]) [(I a0.f0), (I 1), (I 30)] ⟨57, [(I a0.f0), (I 1), (I 30)], [], (B x1), [], [], [], [], (B x1), []⟩, (B (!x1) : V) = B false, 2 = 2 ∧ 1 + 1 ≤ 2], [⟨57, [(I a0.f0), (I 1), (I 30)], [], (B x1), [], [], [], [], (B x1), []⟩]⟩ [c_ 13, c_ 7] (alc ⟨rfl, by decide⟩ (alc (cok0 false (a2c (.z .s) (a2c (.z .s) (a2c (.z .s) a2n))) (.z .s) (fun h => absurd h (by decide))) (alc (bF (nF c1)) (alc ⟨rfl, by decide⟩ aln)))) (acal (spec_l01In.J a0.f0 1 30 _ hx1) nocal) ?_
    by_cases c2 : (a0.f1.length : Int) > 60
    · rw [if_pos c2] at h
      refine .cond' (.tmp 14) true [c_ 52, c_ 53, c_ 7] (bT (dT c2)) ?_
      refine .reg' [2] [] ⟨[(2, (B false))], [(256, [(I a0.f0), (.sl true a0.f1.length 4 (a0.f1.flatMap e95))])], [], []⟩ [c_ 53, c_ 7] aln nocal ?_
      have h := Option.some.inj h
      subst h
      exact .fin0 [] (B false) [] aln (.z .s)
    · rw [if_neg c2] at h
      refine .cond' (.tmp 14) false [c_ 28, c_ 29, c_ 15] (bF (dF c2)) ?_
      refine .reg' [1, 3] [] ⟨[(1, (.pt 256 0 2)), (3, (I 0))], [(256, [(I a0.f0), (.sl true a0.f1.length 4 (a0.f1.flatMap e95))])], [], []⟩ [l_ 58, b_ 0, c_ 15] aln nocal ?_
      exact ih0 a0 0 _ h
  · rw [if_neg c1] at h
    refine .reg' [1, 14] [.no, .no, .c ⟨57, [(I a0.f0), (I 1), (I 30)], [], (B x1), [], [], [], [], (B x1), []⟩, .no, .v (B true)] ⟨[(1, (.pt 256 0 2)), (14, (B true))], [(256, [(I a0.f0), (.sl true a0.f1.length 4 (a0.f1.flatMap e95))])], [2 = 2 ∧ 0 + 1 ≤ 2, COK (hget [(256, [(I a0.f0), (.sl true a0.f1.length 4 (a0.f1.flatMap e95))])]) [(I a0.f0), (I 1), (I 30)] ⟨57, [(I a0.f0), (I 1), (I 30)], [], (B x1), [], [], [], [], (B x1), []⟩, (B (!x1) : V) = B true], [⟨57, [(I a0.f0), (I 1), (I 30)], [], (B x1), [], [], [], [], (B x1), []⟩]⟩ [c_ 13, c_ 7] (alc ⟨rfl, by decide⟩ (alc (cok0 false (a2c (.z .s) (a2c (.z .s) (a2c (.z .s) a2n))) (.z .s) (fun h => absurd h (by decide))) (alc (bT (nT (vF c1))) aln))) (acal (spec_l01In.J a0.f0 1 30 _ hx1) nocal) ?_
    refine .cond' (.tmp 14) true [c_ 52, c_ 53, c_ 7] (rfl) ?_
    refine .reg' [2] [] ⟨[(2, (B false))], [(256, [(I a0.f0), (.sl true a0.f1.length 4 (a0.f1.flatMap e95))])], [], []⟩ [c_ 53, c_ 7] aln nocal ?_
    have h := Option.some.inj h
    subst h
    exact .fin0 [] (B false) [] aln (.z .s)
/-! spec_l01Name: function 90 -/
def spec_l01Name.l0 : Nat → ByteArray → Int → Option Bool
 | 0, _, _ => none
 | k + 1, a0, x1 => (if x1 < (a0.size : Int) then (if 0 ≤ x1 then (if (bt a0 x1) ≥ 97 then (if (bt a0 x1) ≤ 122 then (spec_l01Name.l0 k a0 (wrap64 (x1 + 1))) else (if (bt a0 x1) ≥ 48 then (if (bt a0 x1) ≤ 57 then (spec_l01Name.l0 k a0 (wrap64 (x1 + 1))) else (some false)) else (some false))) else (if (bt a0 x1) ≥ 48 then (if (bt a0 x1) ≤ 57 then (spec_l01Name.l0 k a0 (wrap64 (x1 + 1))) else (some false)) else (some false))) else none) else ((spec_l01In.f (a0.size : Int) 1 12).bind fun x2 => (some x2)))
def spec_l01Name.f (k : Nat) (a0 : ByteArray) : Option Bool := (spec_l01Name.l0 k a0 0)
end Go.Proofs.Ytebgaiokpncacaa.Fns
