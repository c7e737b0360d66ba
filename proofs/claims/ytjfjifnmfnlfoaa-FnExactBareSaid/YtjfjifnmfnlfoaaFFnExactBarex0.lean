/- The functions that the law FnExactBare reaches, by the engine. Printed by a program of this seat. -/
import Derived.Test.YtjfjifnmfnlfoaaE5
import Derived.Test.YtjfjifnmfnlfoaaProg
namespace Go.Proofs.Ytjfjifnmfnlfoaa.Fns
open Go.Proofs.Try Go.Proofs.Ytjfjifnmfnlfoaa.Eng Go.RowKit
set_option maxRecDepth 100000
set_option linter.unusedVariables false
set_option linter.unusedSimpArgs false
structure S93 where
  f0 : Int
  f1 : Int
  deriving Inhabited
def e93 (x : S93) : List V := [I x.f0, I x.f1]
theorem e93_ok : Enc (e93) 2 where
  len := fun _ => rfl
  self := fun x v h H tb bor => by
    simp only [e93, List.mem_cons, List.not_mem_nil, or_false] at h
    rcases h with h | h
    · subst h; exact .s
    · subst h; exact .s
  cln := fun x v h => by
    simp only [e93, List.mem_cons, List.not_mem_nil, or_false] at h
    rcases h with h | h
    · subst h; exact .s
    · subst h; exact .s
theorem e93_c {b : Bool} : EncC b e93 := by
  intro x v h
  simp only [e93, List.mem_cons, List.not_mem_nil, or_false] at h
  rcases h with h | h
  · subst h; exact .s
  · subst h; exact .s
theorem e93_s : EncS e93 := by
  intro x v h
  simp only [e93, List.mem_cons, List.not_mem_nil, or_false] at h
  rcases h with h | h
  · subst h; exact ⟨_, rfl⟩
  · subst h; exact ⟨_, rfl⟩
structure S142 where
  f0 : (List S93)
  f1 : (List Int)
  deriving Inhabited
def e142 (t : Bool) (x : S142) : List V := [.sl t x.f0.length 2 (x.f0.flatMap e93), .sl t x.f1.length 1 (x.f1.flatMap encI)]
theorem e142_ok (t : Bool) : Enc (e142 t) 2 where
  len := fun _ => rfl
  self := fun x v h H tb bor => by
    simp only [e142, List.mem_cons, List.not_mem_nil, or_false] at h
    rcases h with h | h
    · subst h; exact frz_sl e93_ok id
    · subst h; exact frz_sl encI_ok id
  cln := fun x v h => by
    simp only [e142, List.mem_cons, List.not_mem_nil, or_false] at h
    rcases h with h | h
    · subst h; exact cln_sl e93_ok
    · subst h; exact cln_sl encI_ok
theorem e142_to (x : S142) {H : Nat → Option (List V)} {tb : Bool} {bor : List Nat} : All2 (Frz H tb bor) (e142 false x) (e142 true x) := (a2c (frz_sl e93_ok (fun h => absurd h (by decide))) (a2c (frz_sl encI_ok (fun h => absurd h (by decide))) a2n))
theorem e142_c1 : EncC true (e142 true) := by
  intro x v h
  simp only [e142, List.mem_cons, List.not_mem_nil, or_false] at h
  rcases h with h | h
  · subst h; exact clnS e93_c (fun h => rfl)
  · subst h; exact clnS encI_c (fun h => rfl)
theorem e142_c0 {b : Bool} : EncC b (e142 false) := by
  intro x v h
  simp only [e142, List.mem_cons, List.not_mem_nil, or_false] at h
  rcases h with h | h
  · subst h; exact clnS e93_c (fun h => absurd h (by decide))
  · subst h; exact clnS encI_c (fun h => absurd h (by decide))
structure S24 where
  f0 : (List Int)
  f1 : Int
  f2 : (List S142)
  deriving Inhabited
def e24 (t : Bool) (x : S24) : List V := [.sl t x.f0.length 1 (x.f0.flatMap encI), I x.f1, .sl t x.f2.length 2 (x.f2.flatMap (e142 t))]
theorem e24_ok (t : Bool) : Enc (e24 t) 3 where
  len := fun _ => rfl
  self := fun x v h H tb bor => by
    simp only [e24, List.mem_cons, List.not_mem_nil, or_false] at h
    rcases h with h | h | h
    · subst h; exact frz_sl encI_ok id
    · subst h; exact .s
    · subst h; exact frz_sl (e142_ok t) id
  cln := fun x v h => by
    simp only [e24, List.mem_cons, List.not_mem_nil, or_false] at h
    rcases h with h | h | h
    · subst h; exact cln_sl encI_ok
    · subst h; exact .s
    · subst h; exact cln_sl (e142_ok t)
theorem e24_to (x : S24) {H : Nat → Option (List V)} {tb : Bool} {bor : List Nat} : All2 (Frz H tb bor) (e24 false x) (e24 true x) := (a2c (frz_sl encI_ok (fun h => absurd h (by decide))) (a2c .s (a2c (frz_slT (fun x => e142_to x) (fun h => absurd h (by decide))) a2n)))
theorem e24_c1 : EncC true (e24 true) := by
  intro x v h
  simp only [e24, List.mem_cons, List.not_mem_nil, or_false] at h
  rcases h with h | h | h
  · subst h; exact clnS encI_c (fun h => rfl)
  · subst h; exact .s
  · subst h; exact clnS e142_c1 (fun h => rfl)
theorem e24_c0 {b : Bool} : EncC b (e24 false) := by
  intro x v h
  simp only [e24, List.mem_cons, List.not_mem_nil, or_false] at h
  rcases h with h | h | h
  · subst h; exact clnS encI_c (fun h => absurd h (by decide))
  · subst h; exact .s
  · subst h; exact clnS e142_c0 (fun h => absurd h (by decide))
structure S83 where
  f0 : (List S93)
  f1 : (List Int)
  deriving Inhabited
def e83 (t : Bool) (x : S83) : List V := [.sl t x.f0.length 2 (x.f0.flatMap e93), .sl t x.f1.length 1 (x.f1.flatMap encI)]
theorem e83_ok (t : Bool) : Enc (e83 t) 2 where
  len := fun _ => rfl
  self := fun x v h H tb bor => by
    simp only [e83, List.mem_cons, List.not_mem_nil, or_false] at h
    rcases h with h | h
    · subst h; exact frz_sl e93_ok id
    · subst h; exact frz_sl encI_ok id
  cln := fun x v h => by
    simp only [e83, List.mem_cons, List.not_mem_nil, or_false] at h
    rcases h with h | h
    · subst h; exact cln_sl e93_ok
    · subst h; exact cln_sl encI_ok
theorem e83_to (x : S83) {H : Nat → Option (List V)} {tb : Bool} {bor : List Nat} : All2 (Frz H tb bor) (e83 false x) (e83 true x) := (a2c (frz_sl e93_ok (fun h => absurd h (by decide))) (a2c (frz_sl encI_ok (fun h => absurd h (by decide))) a2n))
theorem e83_c1 : EncC true (e83 true) := by
  intro x v h
  simp only [e83, List.mem_cons, List.not_mem_nil, or_false] at h
  rcases h with h | h
  · subst h; exact clnS e93_c (fun h => rfl)
  · subst h; exact clnS encI_c (fun h => rfl)
theorem e83_c0 {b : Bool} : EncC b (e83 false) := by
  intro x v h
  simp only [e83, List.mem_cons, List.not_mem_nil, or_false] at h
  rcases h with h | h
  · subst h; exact clnS e93_c (fun h => absurd h (by decide))
  · subst h; exact clnS encI_c (fun h => absurd h (by decide))
def o83 (x : S83) : List V := [.on x.f0.length 2 (x.f0.flatMap e93), .on x.f1.length 1 (x.f1.flatMap encI)]
theorem o83_ok : Enc o83 2 where
  len := fun _ => rfl
  self := fun x v h H tb bor => by
    simp only [o83, List.mem_cons, List.not_mem_nil, or_false] at h
    rcases h with h | h
    · subst h; exact .on
    · subst h; exact .on
  cln := fun x v h => by
    simp only [o83, List.mem_cons, List.not_mem_nil, or_false] at h
    rcases h with h | h
    · subst h; exact .on
    · subst h; exact .on
theorem o83_c {b : Bool} : EncC b o83 := by
  intro x v h
  simp only [o83, List.mem_cons, List.not_mem_nil, or_false] at h
  rcases h with h | h
  · subst h; exact .on
  · subst h; exact .on
theorem o83_l (x : S83) {H : Nat → Option (List V)} {bor : List Nat} : All2 (fun v v2 => (isOn v = false → Frz H true bor v v2) ∧ ∀ m z ds, v = .on m z ds → v2 = .sl true m z ds) (o83 x) (e83 true x) := (a2c ⟨fun h => (by cases h), fun m z ds h => (by cases h; rfl)⟩ (a2c ⟨fun h => (by cases h), fun m z ds h => (by cases h; rfl)⟩ a2n))
structure S29 where
  f0 : (List Int)
  f1 : Int
  f2 : (List S83)
  deriving Inhabited
def e29 (t : Bool) (x : S29) : List V := [.sl t x.f0.length 1 (x.f0.flatMap encI), I x.f1, .sl t x.f2.length 2 (x.f2.flatMap (e83 t))]
theorem e29_ok (t : Bool) : Enc (e29 t) 3 where
  len := fun _ => rfl
  self := fun x v h H tb bor => by
    simp only [e29, List.mem_cons, List.not_mem_nil, or_false] at h
    rcases h with h | h | h
    · subst h; exact frz_sl encI_ok id
    · subst h; exact .s
    · subst h; exact frz_sl (e83_ok t) id
  cln := fun x v h => by
    simp only [e29, List.mem_cons, List.not_mem_nil, or_false] at h
    rcases h with h | h | h
    · subst h; exact cln_sl encI_ok
    · subst h; exact .s
    · subst h; exact cln_sl (e83_ok t)
theorem e29_to (x : S29) {H : Nat → Option (List V)} {tb : Bool} {bor : List Nat} : All2 (Frz H tb bor) (e29 false x) (e29 true x) := (a2c (frz_sl encI_ok (fun h => absurd h (by decide))) (a2c .s (a2c (frz_slT (fun x => e83_to x) (fun h => absurd h (by decide))) a2n)))
theorem e29_c1 : EncC true (e29 true) := by
  intro x v h
  simp only [e29, List.mem_cons, List.not_mem_nil, or_false] at h
  rcases h with h | h | h
  · subst h; exact clnS encI_c (fun h => rfl)
  · subst h; exact .s
  · subst h; exact clnS e83_c1 (fun h => rfl)
theorem e29_c0 {b : Bool} : EncC b (e29 false) := by
  intro x v h
  simp only [e29, List.mem_cons, List.not_mem_nil, or_false] at h
  rcases h with h | h | h
  · subst h; exact clnS encI_c (fun h => absurd h (by decide))
  · subst h; exact .s
  · subst h; exact clnS e83_c0 (fun h => absurd h (by decide))
structure S37 where
  f0 : (List Int)
  f1 : (List Bool)
  f2 : (List Bool)
  deriving Inhabited
def e37 (t : Bool) (x : S37) : List V := [.sl t x.f0.length 1 (x.f0.flatMap encI), .sl t x.f1.length 1 (x.f1.flatMap encB), .sl t x.f2.length 1 (x.f2.flatMap encB)]
theorem e37_ok (t : Bool) : Enc (e37 t) 3 where
  len := fun _ => rfl
  self := fun x v h H tb bor => by
    simp only [e37, List.mem_cons, List.not_mem_nil, or_false] at h
    rcases h with h | h | h
    · subst h; exact frz_sl encI_ok id
    · subst h; exact frz_sl encB_ok id
    · subst h; exact frz_sl encB_ok id
  cln := fun x v h => by
    simp only [e37, List.mem_cons, List.not_mem_nil, or_false] at h
    rcases h with h | h | h
    · subst h; exact cln_sl encI_ok
    · subst h; exact cln_sl encB_ok
    · subst h; exact cln_sl encB_ok
theorem e37_to (x : S37) {H : Nat → Option (List V)} {tb : Bool} {bor : List Nat} : All2 (Frz H tb bor) (e37 false x) (e37 true x) := (a2c (frz_sl encI_ok (fun h => absurd h (by decide))) (a2c (frz_sl encB_ok (fun h => absurd h (by decide))) (a2c (frz_sl encB_ok (fun h => absurd h (by decide))) a2n)))
theorem e37_c1 : EncC true (e37 true) := by
  intro x v h
  simp only [e37, List.mem_cons, List.not_mem_nil, or_false] at h
  rcases h with h | h | h
  · subst h; exact clnS encI_c (fun h => rfl)
  · subst h; exact clnS encB_c (fun h => rfl)
  · subst h; exact clnS encB_c (fun h => rfl)
theorem e37_c0 {b : Bool} : EncC b (e37 false) := by
  intro x v h
  simp only [e37, List.mem_cons, List.not_mem_nil, or_false] at h
  rcases h with h | h | h
  · subst h; exact clnS encI_c (fun h => absurd h (by decide))
  · subst h; exact clnS encB_c (fun h => absurd h (by decide))
  · subst h; exact clnS encB_c (fun h => absurd h (by decide))
/-! laws_szIntS: function 52 -/
def laws_szIntS.f (a0 : (List Int)) (a1 : Int) : Option Int := (if (wrap64 (a1 - (a0.length : Int))) < 0 then (some (-1)) else (some (wrap64 (a1 - (a0.length : Int)))))
theorem laws_szIntS.J (a0 : (List Int)) (a1 : Int) (r : Int) (h : laws_szIntS.f a0 a1 = some r) : J prog (.call 52 [(.sl true a0.length 1 (a0.flatMap encI)), (I a1)] [] (I r) []) := by
  unfold laws_szIntS.f at h
  refine .call' [c_ 2, c_ 3] ?_
  refine .reg' [0, 1] [] ⟨[(0, (.sl true a0.length 1 (a0.flatMap encI))), (1, (I a1))], [], [], []⟩ [c_ 6, c_ 7] aln nocal ?_
  refine .reg' [1] [] ⟨[(1, (I (wrap64 (a1 - (a0.length : Int)))))], [], [], []⟩ [c_ 28, c_ 29, c_ 15] aln nocal ?_
  refine .reg' [1, 10] [] ⟨[(1, (I (wrap64 (a1 - (a0.length : Int))))), (10, (B (decide ((wrap64 (a1 - (a0.length : Int))) < 0))))], [], [], []⟩ [c_ 29, c_ 15] aln nocal ?_
  by_cases c1 : (wrap64 (a1 - (a0.length : Int))) < 0
  · rw [if_pos c1] at h
    refine .cond' (.tmp 10) true [c_ 116, c_ 117, c_ 15] (bT (dT c1)) ?_
    refine .reg' [4] [] ⟨[(4, (I (-1)))], [], [], []⟩ [c_ 117, c_ 15] aln nocal ?_
    have h := Option.some.inj h
    subst h
    exact .fin0 [] (I (-1)) [] aln (.z .s)
  · rw [if_neg c1] at h
    refine .cond' (.tmp 10) false [c_ 30, c_ 31] (bF (dF c1)) ?_
    refine .reg' [4] [] ⟨[(4, (I (wrap64 (a1 - (a0.length : Int)))))], [], [], []⟩ [c_ 31] aln nocal ?_
    have h := Option.some.inj h
    subst h
    exact .fin0 [] (I (wrap64 (a1 - (a0.length : Int)))) [] aln (.z .s)
/-! laws_szNeedS: function 116 -/
def laws_szNeedS.f (a0 : (List S93)) (a1 : Int) : Option Int := (if (wrap64 (a1 - (a0.length : Int))) < 0 then (some (-1)) else (some (wrap64 (a1 - (a0.length : Int)))))
theorem laws_szNeedS.J (a0 : (List S93)) (a1 : Int) (r : Int) (h : laws_szNeedS.f a0 a1 = some r) : J prog (.call 116 [(.sl true a0.length 2 (a0.flatMap e93)), (I a1)] [] (I r) []) := by
  unfold laws_szNeedS.f at h
  refine .call' [c_ 2, c_ 3] ?_
  refine .reg' [0, 1] [] ⟨[(0, (.sl true a0.length 2 (a0.flatMap e93))), (1, (I a1))], [], [], []⟩ [c_ 6, c_ 7] aln nocal ?_
  refine .reg' [1] [] ⟨[(1, (I (wrap64 (a1 - (a0.length : Int)))))], [], [], []⟩ [c_ 28, c_ 29, c_ 15] aln nocal ?_
  refine .reg' [1, 10] [] ⟨[(1, (I (wrap64 (a1 - (a0.length : Int))))), (10, (B (decide ((wrap64 (a1 - (a0.length : Int))) < 0))))], [], [], []⟩ [c_ 29, c_ 15] aln nocal ?_
  by_cases c1 : (wrap64 (a1 - (a0.length : Int))) < 0
  · rw [if_pos c1] at h
    refine .cond' (.tmp 10) true [c_ 116, c_ 117, c_ 15] (bT (dT c1)) ?_
    refine .reg' [4] [] ⟨[(4, (I (-1)))], [], [], []⟩ [c_ 117, c_ 15] aln nocal ?_
    have h := Option.some.inj h
    subst h
    exact .fin0 [] (I (-1)) [] aln (.z .s)
  · rw [if_neg c1] at h
    refine .cond' (.tmp 10) false [c_ 30, c_ 31] (bF (dF c1)) ?_
    refine .reg' [4] [] ⟨[(4, (I (wrap64 (a1 - (a0.length : Int)))))], [], [], []⟩ [c_ 31] aln nocal ?_
    have h := Option.some.inj h
    subst h
    exact .fin0 [] (I (wrap64 (a1 - (a0.length : Int)))) [] aln (.z .s)
/-! laws_szRoute: function 97 -/
def laws_szRoute.f (a0 : S142) (a1 : Int) : Option Int := ((laws_szNeedS.f a0.f0 a1).bind fun x1 => (if x1 < 0 then (some (-1)) else ((laws_szIntS.f a0.f1 x1).bind fun x2 => (if x2 < 0 then (some (-1)) else (some x2)))))
theorem laws_szRoute.J (a0 : S142) (a1 : Int) (r : Int) (h : laws_szRoute.f a0 a1 = some r) : J prog (.call 97 [(.ag [(.sl true a0.f0.length 2 (a0.f0.flatMap e93)), (.sl true a0.f1.length 1 (a0.f1.flatMap encI))]), (I a1)] [] (I r) []) := by
  unfold laws_szRoute.f at h
  refine .call' [c_ 2, c_ 3] ?_
  refine .reg' [1, 2] [] ⟨[(1, (I a1)), (2, (.pt 256 0 2))], [(256, [(.sl true a0.f0.length 2 (a0.f0.flatMap e93)), (.sl true a0.f1.length 1 (a0.f1.flatMap encI))])], [], []⟩ [c_ 6, c_ 7] aln nocal ?_
  obtain ⟨x1, hx1, h⟩ := Option.bind_eq_some_iff.mp h
  refine .reg' [1, 2] [.no, .no, .no, .c ⟨116, [(.sl true a0.f0.length 2 (a0.f0.flatMap e93)), (I a1)], [], (I x1), [], [], [], [], (I x1), []⟩] ⟨[(1, (I x1)), (2, (.pt 256 0 2))], [(256, [(.sl true a0.f0.length 2 (a0.f0.flatMap e93)), (.sl true a0.f1.length 1 (a0.f1.flatMap encI))])], [2 = 2 ∧ 0 + 1 ≤ 2, COK (hget [(256, [(.sl true a0.f0.length 2 (a0.f0.flatMap e93)), (.sl true a0.f1.length 1 (a0.f1.flatMap encI))])]) [(.sl true a0.f0.length 2 (a0.f0.flatMap e93)), (I a1)] ⟨116, [(.sl true a0.f0.length 2 (a0.f0.flatMap e93)), (I a1)], [], (I x1), [], [], [], [], (I x1), []⟩], [⟨116, [(.sl true a0.f0.length 2 (a0.f0.flatMap e93)), (I a1)], [], (I x1), [], [], [], [], (I x1), []⟩]⟩ [c_ 28, c_ 29, c_ 15] (alc ⟨rfl, by decide⟩ (alc (cok0 false (a2c (.z (frz_sl e93_ok (fun h => h))) (a2c (.z .s) a2n)) (.z .s) (fun h => absurd h (by decide))) aln)) (acal (laws_szNeedS.J a0.f0 a1 _ hx1) nocal) ?_
  refine .reg' [1, 2, 10] [] ⟨[(1, (I x1)), (2, (.pt 256 0 2)), (10, (B (decide (x1 < 0))))], [(256, [(.sl true a0.f0.length 2 (a0.f0.flatMap e93)), (.sl true a0.f1.length 1 (a0.f1.flatMap encI))])], [], []⟩ [c_ 29, c_ 15] aln nocal ?_
  by_cases c1 : x1 < 0
  · rw [if_pos c1] at h
    refine .cond' (.tmp 10) true [c_ 116, c_ 117, c_ 15] (bT (dT c1)) ?_
    refine .reg' [4] [] ⟨[(4, (I (-1)))], [(256, [(.sl true a0.f0.length 2 (a0.f0.flatMap e93)), (.sl true a0.f1.length 1 (a0.f1.flatMap encI))])], [], []⟩ [c_ 117, c_ 15] aln nocal ?_
    have h := Option.some.inj h
    subst h
    exact .fin0 [] (I (-1)) [] aln (.z .s)
  · rw [if_neg c1] at h
    refine .cond' (.tmp 10) false [c_ 30, c_ 31] (bF (dF c1)) ?_
    obtain ⟨x2, hx2, h⟩ := Option.bind_eq_some_iff.mp h
    refine .reg' [1] [.no, .no, .no, .c ⟨52, [(.sl true a0.f1.length 1 (a0.f1.flatMap encI)), (I x1)], [], (I x2), [], [], [], [], (I x2), []⟩] ⟨[(1, (I x2))], [(256, [(.sl true a0.f0.length 2 (a0.f0.flatMap e93)), (.sl true a0.f1.length 1 (a0.f1.flatMap encI))])], [2 = 2 ∧ 1 + 1 ≤ 2, COK (hget [(256, [(.sl true a0.f0.length 2 (a0.f0.flatMap e93)), (.sl true a0.f1.length 1 (a0.f1.flatMap encI))])]) [(.sl true a0.f1.length 1 (a0.f1.flatMap encI)), (I x1)] ⟨52, [(.sl true a0.f1.length 1 (a0.f1.flatMap encI)), (I x1)], [], (I x2), [], [], [], [], (I x2), []⟩], [⟨52, [(.sl true a0.f1.length 1 (a0.f1.flatMap encI)), (I x1)], [], (I x2), [], [], [], [], (I x2), []⟩]⟩ [c_ 124, c_ 125, c_ 63] (alc ⟨rfl, by decide⟩ (alc (cok0 false (a2c (.z (frz_sl encI_ok (fun h => h))) (a2c (.z .s) a2n)) (.z .s) (fun h => absurd h (by decide))) aln)) (acal (laws_szIntS.J a0.f1 x1 _ hx2) nocal) ?_
    refine .reg' [1, 16] [] ⟨[(1, (I x2)), (16, (B (decide (x2 < 0))))], [(256, [(.sl true a0.f0.length 2 (a0.f0.flatMap e93)), (.sl true a0.f1.length 1 (a0.f1.flatMap encI))])], [], []⟩ [c_ 125, c_ 63] aln nocal ?_
    by_cases c2 : x2 < 0
    · rw [if_pos c2] at h
      refine .cond' (.tmp 16) true [c_ 500, c_ 501, c_ 63] (bT (dT c2)) ?_
      refine .reg' [4] [] ⟨[(4, (I (-1)))], [(256, [(.sl true a0.f0.length 2 (a0.f0.flatMap e93)), (.sl true a0.f1.length 1 (a0.f1.flatMap encI))])], [], []⟩ [c_ 501, c_ 63] aln nocal ?_
      have h := Option.some.inj h
      subst h
      exact .fin0 [] (I (-1)) [] aln (.z .s)
    · rw [if_neg c2] at h
      refine .cond' (.tmp 16) false [c_ 126, c_ 127] (bF (dF c2)) ?_
      refine .reg' [4] [] ⟨[(4, (I x2))], [(256, [(.sl true a0.f0.length 2 (a0.f0.flatMap e93)), (.sl true a0.f1.length 1 (a0.f1.flatMap encI))])], [], []⟩ [c_ 127] aln nocal ?_
      have h := Option.some.inj h
      subst h
      exact .fin0 [] (I x2) [] aln (.z .s)
/-! laws_szRouteS: function 53 -/
def laws_szRouteS.l0 : Nat → (List S142) → Int → Int → Option Int
 | 0, _, _, _ => none
 | k + 1, a0, x1, x2 => (if x2 < (a0.length : Int) then (if 0 ≤ x2 then ((laws_szRoute.f (at_ a0 x2) x1).bind fun x3 => (if x3 < 0 then (some (-1)) else (laws_szRouteS.l0 k a0 x3 (wrap64 (x2 + 1))))) else none) else (some x1))
def laws_szRouteS.f (k : Nat) (a0 : (List S142)) (a1 : Int) : Option Int := (if (wrap64 (a1 - (a0.length : Int))) < 0 then (some (-1)) else (laws_szRouteS.l0 k a0 (wrap64 (a1 - (a0.length : Int))) 0))
theorem laws_szRouteS.lab : ∀ k, (∀ (a0 : (List S142)) (x1 : Int) (x2 : Int) (r : Int), laws_szRouteS.l0 k a0 x1 x2 = some r → J prog (.run 53 [] [l_ 122, b_ 0, c_ 31] [(0, (.sl true a0.length 2 (a0.flatMap (e142 true)))), (1, (I x1)), (5, (I x2))] [] (I r) []))
 | 0 => (by intro a0 x1 x2 r h; unfold laws_szRouteS.l0 at h; cases h)
 | k + 1 => by
  have ih0 := laws_szRouteS.lab k
  · intro a0 x1 x2 r h
    unfold laws_szRouteS.l0 at h
    refine .loop' [c_ 976, c_ 977, c_ 489, l_ 122, b_ 0, c_ 31] ?_
    refine .reg' [0, 1, 5, 15] [] ⟨[(0, (.sl true a0.length 2 (a0.flatMap (e142 true)))), (1, (I x1)), (5, (I x2)), (15, (B (decide (x2 < (a0.length : Int)))))], [], [], []⟩ [c_ 977, c_ 489, l_ 122, b_ 0, c_ 31] aln nocal ?_
    by_cases c2 : x2 < (a0.length : Int)
    · rw [if_pos c2] at h
      refine .cond' (.tmp 15) true [c_ 3912, c_ 3913, b_ 1, c_ 979, l_ 122, b_ 0, c_ 31] (bT (dT c2)) ?_
      by_cases c3 : 0 ≤ x2
      · rw [if_pos c3] at h
        obtain ⟨x3, hx3, h⟩ := Option.bind_eq_some_iff.mp h
        refine .reg' [0, 1, 5] [.no, .no, .no, .v (.ag [(.sl true (at_ a0 x2).f0.length 2 ((at_ a0 x2).f0.flatMap e93)), (.sl true (at_ a0 x2).f1.length 1 ((at_ a0 x2).f1.flatMap encI))]), .no, .c ⟨97, [(.ag [(.sl true (at_ a0 x2).f0.length 2 ((at_ a0 x2).f0.flatMap e93)), (.sl true (at_ a0 x2).f1.length 1 ((at_ a0 x2).f1.flatMap encI))]), (I x1)], [], (I x3), [], [], [], [], (I x3), []⟩] ⟨[(0, (.sl true a0.length 2 (a0.flatMap (e142 true)))), (1, (I x3)), (5, (I x2))], [], [(0 : Int) ≤ x2 ∧ x2 < (a0.length : Int), rdC prog 143 ((a0.flatMap (e142 true)).drop (x2.toNat * 2)) = (.ag [(.sl true (at_ a0 x2).f0.length 2 ((at_ a0 x2).f0.flatMap e93)), (.sl true (at_ a0 x2).f1.length 1 ((at_ a0 x2).f1.flatMap encI))]), 2 ≤ ((a0.flatMap (e142 true)).drop (x2.toNat * 2)).length, COK (hget []) [(.ag [(.sl true (at_ a0 x2).f0.length 2 ((at_ a0 x2).f0.flatMap e93)), (.sl true (at_ a0 x2).f1.length 1 ((at_ a0 x2).f1.flatMap encI))]), (I x1)] ⟨97, [(.ag [(.sl true (at_ a0 x2).f0.length 2 ((at_ a0 x2).f0.flatMap e93)), (.sl true (at_ a0 x2).f1.length 1 ((at_ a0 x2).f1.flatMap encI))]), (I x1)], [], (I x3), [], [], [], [], (I x3), []⟩], [⟨97, [(.ag [(.sl true (at_ a0 x2).f0.length 2 ((at_ a0 x2).f0.flatMap e93)), (.sl true (at_ a0 x2).f1.length 1 ((at_ a0 x2).f1.flatMap encI))]), (I x1)], [], (I x3), [], [], [], [], (I x3), []⟩]⟩ [c_ 7826, c_ 7827, b_ 1, c_ 979, l_ 122, b_ 0, c_ 31] (alc ⟨c3, c2⟩ (alc (ldA (e142_ok true) rfl rfl c3 c2) (alc (okI (e142_ok true) c3 c2 (by decide)) (alc (cok0 false (a2c (.z (frz_ag (a2c (frz_sl e93_ok (fun h => h)) (a2c (frz_sl encI_ok (fun h => h)) a2n)))) (a2c (.z .s) a2n)) (.z .s) (fun h => absurd h (by decide))) aln)))) (acal (laws_szRoute.J (at_ a0 x2) x1 _ hx3) nocal) ?_
        refine .reg' [0, 1, 5, 25] [] ⟨[(0, (.sl true a0.length 2 (a0.flatMap (e142 true)))), (1, (I x3)), (5, (I x2)), (25, (B (decide (x3 < 0))))], [], [], []⟩ [c_ 7827, b_ 1, c_ 979, l_ 122, b_ 0, c_ 31] aln nocal ?_
        by_cases c4 : x3 < 0
        · rw [if_pos c4] at h
          refine .cond' (.tmp 25) true [c_ 31308, c_ 31309, b_ 1, c_ 979, l_ 122, b_ 0, c_ 31] (bT (dT c4)) ?_
          refine .reg' [4] [] ⟨[(4, (I (-1)))], [], [], []⟩ [c_ 31309, b_ 1, c_ 979, l_ 122, b_ 0, c_ 31] aln nocal ?_
          have h := Option.some.inj h
          subst h
          exact .fin0 [] (I (-1)) [] aln (.z .s)
        · rw [if_neg c4] at h
          refine .cond' (.tmp 25) false [c_ 979, l_ 122, b_ 0, c_ 31] (bF (dF c4)) ?_
          refine .reg' [0, 1, 5] [] ⟨[(0, (.sl true a0.length 2 (a0.flatMap (e142 true)))), (1, (I x3)), (5, (I (wrap64 (x2 + 1))))], [], [], []⟩ [l_ 122, b_ 0, c_ 31] aln nocal ?_
          exact ih0 a0 x3 (wrap64 (x2 + 1)) _ h
      · rw [if_neg c3] at h
        cases h
    · rw [if_neg c2] at h
      refine .cond' (.tmp 15) false [c_ 62, c_ 63] (bF (dF c2)) ?_
      refine .reg' [4] [] ⟨[(4, (I x1))], [], [], []⟩ [c_ 63] aln nocal ?_
      have h := Option.some.inj h
      subst h
      exact .fin0 [] (I x1) [] aln (.z .s)
theorem laws_szRouteS.J (k : Nat) (a0 : (List S142)) (a1 : Int) (r : Int) (h : laws_szRouteS.f k a0 a1 = some r) : J prog (.call 53 [(.sl true a0.length 2 (a0.flatMap (e142 true))), (I a1)] [] (I r) []) := by
  unfold laws_szRouteS.f at h
  have ih0 := laws_szRouteS.lab k
  refine .call' [c_ 2, c_ 3] ?_
  refine .reg' [0, 1] [] ⟨[(0, (.sl true a0.length 2 (a0.flatMap (e142 true)))), (1, (I a1))], [], [], []⟩ [c_ 6, c_ 7] aln nocal ?_
  refine .reg' [0, 1] [] ⟨[(0, (.sl true a0.length 2 (a0.flatMap (e142 true)))), (1, (I (wrap64 (a1 - (a0.length : Int)))))], [], [], []⟩ [c_ 28, c_ 29, c_ 15] aln nocal ?_
  refine .reg' [0, 1, 11] [] ⟨[(0, (.sl true a0.length 2 (a0.flatMap (e142 true)))), (1, (I (wrap64 (a1 - (a0.length : Int))))), (11, (B (decide ((wrap64 (a1 - (a0.length : Int))) < 0))))], [], [], []⟩ [c_ 29, c_ 15] aln nocal ?_
  by_cases c1 : (wrap64 (a1 - (a0.length : Int))) < 0
  · rw [if_pos c1] at h
    refine .cond' (.tmp 11) true [c_ 116, c_ 117, c_ 15] (bT (dT c1)) ?_
    refine .reg' [4] [] ⟨[(4, (I (-1)))], [], [], []⟩ [c_ 117, c_ 15] aln nocal ?_
    have h := Option.some.inj h
    subst h
    exact .fin0 [] (I (-1)) [] aln (.z .s)
  · rw [if_neg c1] at h
    refine .cond' (.tmp 11) false [c_ 60, c_ 61, c_ 31] (bF (dF c1)) ?_
    refine .reg' [0, 1, 5] [] ⟨[(0, (.sl true a0.length 2 (a0.flatMap (e142 true)))), (1, (I (wrap64 (a1 - (a0.length : Int))))), (5, (I 0))], [], [], []⟩ [l_ 122, b_ 0, c_ 31] aln nocal ?_
    exact ih0 a0 (wrap64 (a1 - (a0.length : Int))) 0 _ h
/-! laws_szPlant: function 10 -/
def laws_szPlant.f (k : Nat) (a0 : S24) (a1 : Int) : Option Int := ((laws_szIntS.f a0.f0 a1).bind fun x1 => (if x1 < 0 then (some (-1)) else ((laws_szRouteS.f k a0.f2 x1).bind fun x2 => (if x2 < 0 then (some (-1)) else (some x2)))))
theorem laws_szPlant.J (k : Nat) (a0 : S24) (a1 : Int) (r : Int) (h : laws_szPlant.f k a0 a1 = some r) : J prog (.call 10 [(.ag [(.sl true a0.f0.length 1 (a0.f0.flatMap encI)), (I a0.f1), (.sl true a0.f2.length 2 (a0.f2.flatMap (e142 true)))]), (I a1)] [] (I r) []) := by
  unfold laws_szPlant.f at h
  refine .call' [c_ 2, c_ 3] ?_
  refine .reg' [1, 2] [] ⟨[(1, (I a1)), (2, (.pt 256 0 3))], [(256, [(.sl true a0.f0.length 1 (a0.f0.flatMap encI)), (I a0.f1), (.sl true a0.f2.length 2 (a0.f2.flatMap (e142 true)))])], [], []⟩ [c_ 6, c_ 7] aln nocal ?_
  obtain ⟨x1, hx1, h⟩ := Option.bind_eq_some_iff.mp h
  refine .reg' [1, 2] [.no, .no, .no, .c ⟨52, [(.sl true a0.f0.length 1 (a0.f0.flatMap encI)), (I a1)], [], (I x1), [], [], [], [], (I x1), []⟩] ⟨[(1, (I x1)), (2, (.pt 256 0 3))], [(256, [(.sl true a0.f0.length 1 (a0.f0.flatMap encI)), (I a0.f1), (.sl true a0.f2.length 2 (a0.f2.flatMap (e142 true)))])], [3 = 3 ∧ 0 + 1 ≤ 3, COK (hget [(256, [(.sl true a0.f0.length 1 (a0.f0.flatMap encI)), (I a0.f1), (.sl true a0.f2.length 2 (a0.f2.flatMap (e142 true)))])]) [(.sl true a0.f0.length 1 (a0.f0.flatMap encI)), (I a1)] ⟨52, [(.sl true a0.f0.length 1 (a0.f0.flatMap encI)), (I a1)], [], (I x1), [], [], [], [], (I x1), []⟩], [⟨52, [(.sl true a0.f0.length 1 (a0.f0.flatMap encI)), (I a1)], [], (I x1), [], [], [], [], (I x1), []⟩]⟩ [c_ 28, c_ 29, c_ 15] (alc ⟨rfl, by decide⟩ (alc (cok0 false (a2c (.z (frz_sl encI_ok (fun h => h))) (a2c (.z .s) a2n)) (.z .s) (fun h => absurd h (by decide))) aln)) (acal (laws_szIntS.J a0.f0 a1 _ hx1) nocal) ?_
  refine .reg' [1, 2, 10] [] ⟨[(1, (I x1)), (2, (.pt 256 0 3)), (10, (B (decide (x1 < 0))))], [(256, [(.sl true a0.f0.length 1 (a0.f0.flatMap encI)), (I a0.f1), (.sl true a0.f2.length 2 (a0.f2.flatMap (e142 true)))])], [], []⟩ [c_ 29, c_ 15] aln nocal ?_
  by_cases c1 : x1 < 0
  · rw [if_pos c1] at h
    refine .cond' (.tmp 10) true [c_ 116, c_ 117, c_ 15] (bT (dT c1)) ?_
    refine .reg' [4] [] ⟨[(4, (I (-1)))], [(256, [(.sl true a0.f0.length 1 (a0.f0.flatMap encI)), (I a0.f1), (.sl true a0.f2.length 2 (a0.f2.flatMap (e142 true)))])], [], []⟩ [c_ 117, c_ 15] aln nocal ?_
    have h := Option.some.inj h
    subst h
    exact .fin0 [] (I (-1)) [] aln (.z .s)
  · rw [if_neg c1] at h
    refine .cond' (.tmp 10) false [c_ 30, c_ 31] (bF (dF c1)) ?_
    obtain ⟨x2, hx2, h⟩ := Option.bind_eq_some_iff.mp h
    refine .reg' [1] [.no, .no, .no, .c ⟨53, [(.sl true a0.f2.length 2 (a0.f2.flatMap (e142 true))), (I x1)], [], (I x2), [], [], [], [], (I x2), []⟩] ⟨[(1, (I x2))], [(256, [(.sl true a0.f0.length 1 (a0.f0.flatMap encI)), (I a0.f1), (.sl true a0.f2.length 2 (a0.f2.flatMap (e142 true)))])], [3 = 3 ∧ 2 + 1 ≤ 3, COK (hget [(256, [(.sl true a0.f0.length 1 (a0.f0.flatMap encI)), (I a0.f1), (.sl true a0.f2.length 2 (a0.f2.flatMap (e142 true)))])]) [(.sl true a0.f2.length 2 (a0.f2.flatMap (e142 true))), (I x1)] ⟨53, [(.sl true a0.f2.length 2 (a0.f2.flatMap (e142 true))), (I x1)], [], (I x2), [], [], [], [], (I x2), []⟩], [⟨53, [(.sl true a0.f2.length 2 (a0.f2.flatMap (e142 true))), (I x1)], [], (I x2), [], [], [], [], (I x2), []⟩]⟩ [c_ 124, c_ 125, c_ 63] (alc ⟨rfl, by decide⟩ (alc (cok0 false (a2c (.z (frz_sl (e142_ok true) (fun h => h))) (a2c (.z .s) a2n)) (.z .s) (fun h => absurd h (by decide))) aln)) (acal (laws_szRouteS.J k a0.f2 x1 _ hx2) nocal) ?_
    refine .reg' [1, 16] [] ⟨[(1, (I x2)), (16, (B (decide (x2 < 0))))], [(256, [(.sl true a0.f0.length 1 (a0.f0.flatMap encI)), (I a0.f1), (.sl true a0.f2.length 2 (a0.f2.flatMap (e142 true)))])], [], []⟩ [c_ 125, c_ 63] aln nocal ?_
    by_cases c2 : x2 < 0
    · rw [if_pos c2] at h
      refine .cond' (.tmp 16) true [c_ 500, c_ 501, c_ 63] (bT (dT c2)) ?_
      refine .reg' [4] [] ⟨[(4, (I (-1)))], [(256, [(.sl true a0.f0.length 1 (a0.f0.flatMap encI)), (I a0.f1), (.sl true a0.f2.length 2 (a0.f2.flatMap (e142 true)))])], [], []⟩ [c_ 501, c_ 63] aln nocal ?_
      have h := Option.some.inj h
      subst h
      exact .fin0 [] (I (-1)) [] aln (.z .s)
    · rw [if_neg c2] at h
      refine .cond' (.tmp 16) false [c_ 126, c_ 127] (bF (dF c2)) ?_
      refine .reg' [4] [] ⟨[(4, (I x2))], [(256, [(.sl true a0.f0.length 1 (a0.f0.flatMap encI)), (I a0.f1), (.sl true a0.f2.length 2 (a0.f2.flatMap (e142 true)))])], [], []⟩ [c_ 127] aln nocal ?_
      have h := Option.some.inj h
      subst h
      exact .fin0 [] (I x2) [] aln (.z .s)
/-! laws_toIntS: function 38 -/
def laws_toIntS.l0 : Nat → (List Int) → (List Int) → Int → Option (List Int)
 | 0, _, _, _ => none
 | k + 1, a0, x1, x2 => (if x2 < (a0.length : Int) then (if 0 ≤ x2 then (if x2 < (x1.length : Int) then (laws_toIntS.l0 k a0 (x1.set x2.toNat (at_ a0 x2)) (wrap64 (x2 + 1))) else none) else none) else (some x1))
def laws_toIntS.f (k : Nat) (a0 : (List Int)) : Option (List Int) := (if 0 ≤ (a0.length : Int) then (if (a0.length : Int) * 8 ≤ 281474976710656 then (laws_toIntS.l0 k a0 (List.replicate (a0.length : Int).toNat (0 : Int)) 0) else none) else none)
theorem laws_toIntS.lab : ∀ k, (∀ (a0 : (List Int)) (x1 : (List Int)) (x2 : Int) (r : (List Int)), laws_toIntS.l0 k a0 x1 x2 = some r → J prog (.run 38 [] [l_ 58, b_ 0, c_ 15] [(0, (.sl true a0.length 1 (a0.flatMap encI))), (3, (.rf 514 0 x1.length 1 (x1.length * 1))), (4, (I x2))] [(514, (x1.flatMap encI))] (.rf 514 0 r.length 1 (r.length * 1)) [(514, (r.flatMap encI))]))
 | 0 => (by intro a0 x1 x2 r h; unfold laws_toIntS.l0 at h; cases h)
 | k + 1 => by
  have ih0 := laws_toIntS.lab k
  · intro a0 x1 x2 r h
    unfold laws_toIntS.l0 at h
    refine .loop' [c_ 464, c_ 465, c_ 233, l_ 58, b_ 0, c_ 15] ?_
    refine .reg' [0, 3, 4, 11] [] ⟨[(0, (.sl true a0.length 1 (a0.flatMap encI))), (3, (.rf 514 0 x1.length 1 (x1.length * 1))), (4, (I x2)), (11, (B (decide (x2 < (a0.length : Int)))))], [(514, (x1.flatMap encI))], [], []⟩ [c_ 465, c_ 233, l_ 58, b_ 0, c_ 15] aln nocal ?_
    by_cases c3 : x2 < (a0.length : Int)
    · rw [if_pos c3] at h
      refine .cond' (.tmp 11) true [c_ 932, b_ 1, c_ 467, l_ 58, b_ 0, c_ 15] (bT (dT c3)) ?_
      by_cases c4 : 0 ≤ x2
      · rw [if_pos c4] at h
        by_cases c5 : x2 < (x1.length : Int)
        · rw [if_pos c5] at h
          refine .reg' [0, 3, 4] [.no, .no, .no, .no, .no, .v (I (at_ a0 x2)), .no, .w .un ((x1.set x2.toNat (at_ a0 x2)).flatMap encI)] ⟨[(0, (.sl true a0.length 1 (a0.flatMap encI))), (3, (.rf 514 0 x1.length 1 (x1.length * 1))), (4, (I x2))], [(514, ((x1.set x2.toNat (at_ a0 x2)).flatMap encI))], [(0 : Int) ≤ x2 ∧ x2 < (a0.length : Int), rdC prog 3 ((a0.flatMap encI).drop (x2.toNat * 1)) = (I (at_ a0 x2)), 1 ≤ ((a0.flatMap encI).drop (x2.toNat * 1)).length, (0 : Int) ≤ x2 ∧ x2 < (x1.length : Int), V.un = V.un, spl (x1.flatMap encI) (0 + x2.toNat * 1) [(I (at_ a0 x2))] = ((x1.set x2.toNat (at_ a0 x2)).flatMap encI), x1.length * 1 = (x1.flatMap encI).length ∧ 0 + x2.toNat * 1 + 1 ≤ (x1.flatMap encI).length], []⟩ [c_ 467, l_ 58, b_ 0, c_ 15] (alc ⟨c4, c3⟩ (alc (ldC1 encI_ok rfl c4 c3) (alc (okI encI_ok c4 c3 (by decide)) (alc ⟨c4, c5⟩ (alc rfl (alc (st_row1 encI_ok c4 c5 (I (at_ a0 x2)) rfl) (alc (okA0 encI_ok c4 c5 (by decide)) aln))))))) nocal ?_
          refine .eqs (env2 := [(0, (.sl true a0.length 1 (a0.flatMap encI))), (3, (.rf 514 0 ((x1.set x2.toNat (at_ a0 x2)).length) 1 ((x1.set x2.toNat (at_ a0 x2)).length * 1))), (4, (I x2))]) (H2 := [(514, ((x1.set x2.toNat (at_ a0 x2)).flatMap encI))]) (by first | (simp only [List.length_set]; done) | simp) (by first | rfl | (simp only [List.length_set]; done) | simp) ?_
          refine .reg' [0, 3, 4] [] ⟨[(0, (.sl true a0.length 1 (a0.flatMap encI))), (3, (.rf 514 0 ((x1.set x2.toNat (at_ a0 x2)).length) 1 ((x1.set x2.toNat (at_ a0 x2)).length * 1))), (4, (I (wrap64 (x2 + 1))))], [(514, ((x1.set x2.toNat (at_ a0 x2)).flatMap encI))], [], []⟩ [l_ 58, b_ 0, c_ 15] aln nocal ?_
          exact ih0 a0 (x1.set x2.toNat (at_ a0 x2)) (wrap64 (x2 + 1)) _ h
        · rw [if_neg c5] at h
          cases h
      · rw [if_neg c4] at h
        cases h
    · rw [if_neg c3] at h
      refine .cond' (.tmp 11) false [c_ 30, c_ 31] (bF (dF c3)) ?_
      refine .reg' [2] [] ⟨[(2, (.rf 514 0 x1.length 1 (x1.length * 1)))], [(514, (x1.flatMap encI))], [], []⟩ [c_ 31] aln nocal ?_
      have h := Option.some.inj h
      subst h
      exact .fin' [] [(514, 514)] (.rf 514 0 x1.length 1 (x1.length * 1)) [] aln (shc 514 (rowF encI_ok _) shn) (.rf (memP_mem (p := (514, 514)) rfl))
theorem laws_toIntS.J (k : Nat) (a0 : (List Int)) (r : (List Int)) (h : laws_toIntS.f k a0 = some r) : J prog (.call 38 [(.sl true a0.length 1 (a0.flatMap encI))] [] (.rf 514 0 r.length 1 (r.length * 1)) [(514, (r.flatMap encI))]) := by
  unfold laws_toIntS.f at h
  have ih0 := laws_toIntS.lab k
  refine .call' [c_ 2, c_ 3] ?_
  refine .reg' [0] [] ⟨[(0, (.sl true a0.length 1 (a0.flatMap encI)))], [], [], []⟩ [c_ 6, c_ 7] aln nocal ?_
  by_cases c1 : 0 ≤ (a0.length : Int)
  · rw [if_pos c1] at h
    by_cases c2 : (a0.length : Int) * 8 ≤ 281474976710656
    · rw [if_pos c2] at h
      refine .reg' [0, 3] [.no, .no, .w (.rf 514 0 ((List.replicate (a0.length : Int).toNat (0 : Int)).length) 1 ((List.replicate (a0.length : Int).toNat (0 : Int)).length * 1)) ((List.replicate (a0.length : Int).toNat (0 : Int)).flatMap encI)] ⟨[(0, (.sl true a0.length 1 (a0.flatMap encI))), (3, (.rf 514 0 ((List.replicate (a0.length : Int).toNat (0 : Int)).length) 1 ((List.replicate (a0.length : Int).toNat (0 : Int)).length * 1)))], [(514, ((List.replicate (a0.length : Int).toNat (0 : Int)).flatMap encI))], [V.rf 514 0 (a0.length : Int).toNat 1 ((a0.length : Int).toNat * 1) = (.rf 514 0 ((List.replicate (a0.length : Int).toNat (0 : Int)).length) 1 ((List.replicate (a0.length : Int).toNat (0 : Int)).length * 1)), rept (a0.length : Int).toNat [(I 0)] = (List.replicate (a0.length : Int).toNat (0 : Int)).flatMap encI, (a0.length : Int) = (a0.length : Int) ∧ 0 ≤ (a0.length : Int) ∧ (a0.length : Int) * 8 ≤ 281474976710656 ∧ (a0.length : Int) ≤ 9223372036854775807], []⟩ [c_ 28, c_ 29, c_ 15] (alc mkV (alc (row_rept1 (enc := encI) (x := 0) (v := (I 0)) rfl _) (alc ⟨rfl, c1, c2, by omega⟩ aln))) nocal ?_
      refine .reg' [0, 3, 4] [] ⟨[(0, (.sl true a0.length 1 (a0.flatMap encI))), (3, (.rf 514 0 ((List.replicate (a0.length : Int).toNat (0 : Int)).length) 1 ((List.replicate (a0.length : Int).toNat (0 : Int)).length * 1))), (4, (I 0))], [(514, ((List.replicate (a0.length : Int).toNat (0 : Int)).flatMap encI))], [], []⟩ [l_ 58, b_ 0, c_ 15] aln nocal ?_
      exact ih0 a0 (List.replicate (a0.length : Int).toNat (0 : Int)) 0 _ h
    · rw [if_neg c2] at h
      cases h
  · rw [if_neg c1] at h
    cases h
/-! laws_toNeed: function 129 -/
def laws_toNeed.f (a0 : S93) : Option S93 := (some a0)
theorem laws_toNeed.J (a0 : S93) (r : S93) (h : laws_toNeed.f a0 = some r) : J prog (.call 129 [(.ag [(I a0.f0), (I a0.f1)])] [] (.ag [(I r.f0), (I r.f1)]) []) := by
  unfold laws_toNeed.f at h
  refine .call' [c_ 2, c_ 3] ?_
  refine .reg' [1, 2] [] ⟨[(1, (.pt 256 0 2)), (2, (.pt 257 0 2))], [(256, [(I a0.f0), (I a0.f1)]), (257, [(I 0), (I 0)])], [], []⟩ [c_ 6, c_ 7] aln nocal ?_
  refine .reg' [1, 2, 3] [] ⟨[(1, (.pt 256 0 2)), (2, (.pt 257 0 2)), (3, (.pt 512 0 2))], [(256, [(I a0.f0), (I a0.f1)]), (257, [(I 0), (I 0)]), (512, [(I 0), (I 0)])], [], []⟩ [c_ 14, c_ 15] aln nocal ?_
  refine .reg' [1, 2, 3] [] ⟨[(1, (.pt 256 0 2)), (2, (.pt 257 0 2)), (3, (.pt 512 0 2))], [(256, [(I a0.f0), (I a0.f1)]), (257, [(I 0), (I 0)]), (512, [(I a0.f0), (I 0)])], [2 = 2 ∧ 0 + 1 ≤ 2, 2 = 2 ∧ 0 + 1 ≤ 2], []⟩ [c_ 30, c_ 31] (alc ⟨rfl, by decide⟩ (alc ⟨rfl, by decide⟩ aln)) nocal ?_
  refine .reg' [2, 3] [] ⟨[(2, (.pt 257 0 2)), (3, (.pt 512 0 2))], [(256, [(I a0.f0), (I a0.f1)]), (257, [(I 0), (I 0)]), (512, [(I a0.f0), (I a0.f1)])], [2 = 2 ∧ 1 + 1 ≤ 2, 2 = 2 ∧ 1 + 1 ≤ 2], []⟩ [c_ 62, c_ 63] (alc ⟨rfl, by decide⟩ (alc ⟨rfl, by decide⟩ aln)) nocal ?_
  refine .reg' [2] [] ⟨[(2, (.pt 257 0 2))], [(256, [(I a0.f0), (I a0.f1)]), (257, [(I a0.f0), (I a0.f1)]), (512, [(I a0.f0), (I a0.f1)])], [2 = 2 ∧ 0 + 2 ≤ 2, 2 = 2 ∧ 0 + 2 ≤ 2], []⟩ [c_ 63] (alc ⟨rfl, by decide⟩ (alc ⟨rfl, by decide⟩ aln)) nocal ?_
  have h := Option.some.inj h
  subst h
  exact .fin0 [] (.ag [(I a0.f0), (I a0.f1)]) [2 = 2 ∧ 0 + 2 ≤ 2] (alc ⟨rfl, by decide⟩ aln) (.z (frz_ag (a2c .s (a2c .s a2n))))
/-! laws_toNeedS: function 117 -/
def laws_toNeedS.l0 : Nat → (List S93) → (List S93) → Int → Option (List S93)
 | 0, _, _, _ => none
 | k + 1, a0, x1, x2 => (if x2 < (a0.length : Int) then (if 0 ≤ x2 then ((laws_toNeed.f (at_ a0 x2)).bind fun x3 => (if x2 < (x1.length : Int) then (laws_toNeedS.l0 k a0 (x1.set x2.toNat x3) (wrap64 (x2 + 1))) else none)) else none) else (some x1))
def laws_toNeedS.f (k : Nat) (a0 : (List S93)) : Option (List S93) := (if 0 ≤ (a0.length : Int) then (if (a0.length : Int) * 16 ≤ 281474976710656 then (laws_toNeedS.l0 k a0 (List.replicate (a0.length : Int).toNat (⟨0, 0⟩ : S93)) 0) else none) else none)
theorem laws_toNeedS.lab : ∀ k, (∀ (a0 : (List S93)) (x1 : (List S93)) (x2 : Int) (r : (List S93)), laws_toNeedS.l0 k a0 x1 x2 = some r → J prog (.run 117 [] [l_ 58, b_ 0, c_ 15] [(0, (.sl true a0.length 2 (a0.flatMap e93))), (3, (.rf 514 0 x1.length 2 (x1.length * 2))), (4, (I x2))] [(514, (x1.flatMap e93))] (.rf 514 0 r.length 2 (r.length * 2)) [(514, (r.flatMap e93))]))
 | 0 => (by intro a0 x1 x2 r h; unfold laws_toNeedS.l0 at h; cases h)
 | k + 1 => by
  have ih0 := laws_toNeedS.lab k
  · intro a0 x1 x2 r h
    unfold laws_toNeedS.l0 at h
    refine .loop' [c_ 464, c_ 465, c_ 233, l_ 58, b_ 0, c_ 15] ?_
    refine .reg' [0, 3, 4, 11] [] ⟨[(0, (.sl true a0.length 2 (a0.flatMap e93))), (3, (.rf 514 0 x1.length 2 (x1.length * 2))), (4, (I x2)), (11, (B (decide (x2 < (a0.length : Int)))))], [(514, (x1.flatMap e93))], [], []⟩ [c_ 465, c_ 233, l_ 58, b_ 0, c_ 15] aln nocal ?_
    by_cases c3 : x2 < (a0.length : Int)
    · rw [if_pos c3] at h
      refine .cond' (.tmp 11) true [c_ 932, b_ 1, c_ 467, l_ 58, b_ 0, c_ 15] (bT (dT c3)) ?_
      by_cases c4 : 0 ≤ x2
      · rw [if_pos c4] at h
        obtain ⟨x3, hx3, h⟩ := Option.bind_eq_some_iff.mp h
        by_cases c5 : x2 < (x1.length : Int)
        · rw [if_pos c5] at h
          refine .reg' [0, 3, 4] [.no, .no, .no, .no, .no, .v (.ag [(I (at_ a0 x2).f0), (I (at_ a0 x2).f1)]), .c ⟨129, [(.ag [(I (at_ a0 x2).f0), (I (at_ a0 x2).f1)])], [], (.ag [(I x3.f0), (I x3.f1)]), [], [], [], [], (.ag [(I x3.f0), (I x3.f1)]), []⟩, .no, .w .un ((x1.set x2.toNat x3).flatMap e93)] ⟨[(0, (.sl true a0.length 2 (a0.flatMap e93))), (3, (.rf 514 0 x1.length 2 (x1.length * 2))), (4, (I x2))], [(514, ((x1.set x2.toNat x3).flatMap e93))], [(0 : Int) ≤ x2 ∧ x2 < (a0.length : Int), rdC prog 173 ((a0.flatMap e93).drop (x2.toNat * 2)) = (.ag [(I (at_ a0 x2).f0), (I (at_ a0 x2).f1)]), 2 ≤ ((a0.flatMap e93).drop (x2.toNat * 2)).length, COK (hget [(514, (x1.flatMap e93))]) [(.ag [(I (at_ a0 x2).f0), (I (at_ a0 x2).f1)])] ⟨129, [(.ag [(I (at_ a0 x2).f0), (I (at_ a0 x2).f1)])], [], (.ag [(I x3.f0), (I x3.f1)]), [], [], [], [], (.ag [(I x3.f0), (I x3.f1)]), []⟩, (0 : Int) ≤ x2 ∧ x2 < (x1.length : Int), V.un = V.un, spl (x1.flatMap e93) (0 + x2.toNat * 2) [(I x3.f0), (I x3.f1)] = ((x1.set x2.toNat x3).flatMap e93), x1.length * 2 = (x1.flatMap e93).length ∧ 0 + x2.toNat * 2 + 2 ≤ (x1.flatMap e93).length], [⟨129, [(.ag [(I (at_ a0 x2).f0), (I (at_ a0 x2).f1)])], [], (.ag [(I x3.f0), (I x3.f1)]), [], [], [], [], (.ag [(I x3.f0), (I x3.f1)]), []⟩]⟩ [c_ 467, l_ 58, b_ 0, c_ 15] (alc ⟨c4, c3⟩ (alc (ldA e93_ok rfl rfl c4 c3) (alc (okI e93_ok c4 c3 (by decide)) (alc (cok0 false (a2c (.z (frz_ag (a2c .s (a2c .s a2n)))) a2n) (.z (cln_ag (alc1 .s (alc1 .s aln1)))) (fun h => absurd h (by decide))) (alc ⟨c4, c5⟩ (alc rfl (alc (st_row e93_ok 0 c4 c5 (Nat.le_of_ble_eq_true rfl) rfl) (alc (okA0 e93_ok c4 c5 (by decide)) aln)))))))) (acal (laws_toNeed.J (at_ a0 x2) _ hx3) nocal) ?_
          refine .eqs (env2 := [(0, (.sl true a0.length 2 (a0.flatMap e93))), (3, (.rf 514 0 ((x1.set x2.toNat x3).length) 2 ((x1.set x2.toNat x3).length * 2))), (4, (I x2))]) (H2 := [(514, ((x1.set x2.toNat x3).flatMap e93))]) (by first | (simp only [List.length_set]; done) | simp) (by first | rfl | (simp only [List.length_set]; done) | simp) ?_
          refine .reg' [0, 3, 4] [] ⟨[(0, (.sl true a0.length 2 (a0.flatMap e93))), (3, (.rf 514 0 ((x1.set x2.toNat x3).length) 2 ((x1.set x2.toNat x3).length * 2))), (4, (I (wrap64 (x2 + 1))))], [(514, ((x1.set x2.toNat x3).flatMap e93))], [], []⟩ [l_ 58, b_ 0, c_ 15] aln nocal ?_
          exact ih0 a0 (x1.set x2.toNat x3) (wrap64 (x2 + 1)) _ h
        · rw [if_neg c5] at h
          cases h
      · rw [if_neg c4] at h
        cases h
    · rw [if_neg c3] at h
      refine .cond' (.tmp 11) false [c_ 30, c_ 31] (bF (dF c3)) ?_
      refine .reg' [2] [] ⟨[(2, (.rf 514 0 x1.length 2 (x1.length * 2)))], [(514, (x1.flatMap e93))], [], []⟩ [c_ 31] aln nocal ?_
      have h := Option.some.inj h
      subst h
      exact .fin' [] [(514, 514)] (.rf 514 0 x1.length 2 (x1.length * 2)) [] aln (shc 514 (rowF e93_ok _) shn) (.rf (memP_mem (p := (514, 514)) rfl))
theorem laws_toNeedS.J (k : Nat) (a0 : (List S93)) (r : (List S93)) (h : laws_toNeedS.f k a0 = some r) : J prog (.call 117 [(.sl true a0.length 2 (a0.flatMap e93))] [] (.rf 514 0 r.length 2 (r.length * 2)) [(514, (r.flatMap e93))]) := by
  unfold laws_toNeedS.f at h
  have ih0 := laws_toNeedS.lab k
  refine .call' [c_ 2, c_ 3] ?_
  refine .reg' [0] [] ⟨[(0, (.sl true a0.length 2 (a0.flatMap e93)))], [], [], []⟩ [c_ 6, c_ 7] aln nocal ?_
  by_cases c1 : 0 ≤ (a0.length : Int)
  · rw [if_pos c1] at h
    by_cases c2 : (a0.length : Int) * 16 ≤ 281474976710656
    · rw [if_pos c2] at h
      refine .reg' [0, 3] [.no, .no, .w (.rf 514 0 ((List.replicate (a0.length : Int).toNat (⟨0, 0⟩ : S93)).length) 2 ((List.replicate (a0.length : Int).toNat (⟨0, 0⟩ : S93)).length * 2)) ((List.replicate (a0.length : Int).toNat (⟨0, 0⟩ : S93)).flatMap e93)] ⟨[(0, (.sl true a0.length 2 (a0.flatMap e93))), (3, (.rf 514 0 ((List.replicate (a0.length : Int).toNat (⟨0, 0⟩ : S93)).length) 2 ((List.replicate (a0.length : Int).toNat (⟨0, 0⟩ : S93)).length * 2)))], [(514, ((List.replicate (a0.length : Int).toNat (⟨0, 0⟩ : S93)).flatMap e93))], [V.rf 514 0 (a0.length : Int).toNat 2 ((a0.length : Int).toNat * 2) = (.rf 514 0 ((List.replicate (a0.length : Int).toNat (⟨0, 0⟩ : S93)).length) 2 ((List.replicate (a0.length : Int).toNat (⟨0, 0⟩ : S93)).length * 2)), rept (a0.length : Int).toNat [(I 0), (I 0)] = (List.replicate (a0.length : Int).toNat (⟨0, 0⟩ : S93)).flatMap e93, (a0.length : Int) = (a0.length : Int) ∧ 0 ≤ (a0.length : Int) ∧ (a0.length : Int) * 16 ≤ 281474976710656 ∧ (a0.length : Int) ≤ 9223372036854775807], []⟩ [c_ 28, c_ 29, c_ 15] (alc mkV (alc (row_rept (enc := e93) (x := (⟨0, 0⟩ : S93)) (by decide) _) (alc ⟨rfl, c1, c2, by omega⟩ aln))) nocal ?_
      refine .reg' [0, 3, 4] [] ⟨[(0, (.sl true a0.length 2 (a0.flatMap e93))), (3, (.rf 514 0 ((List.replicate (a0.length : Int).toNat (⟨0, 0⟩ : S93)).length) 2 ((List.replicate (a0.length : Int).toNat (⟨0, 0⟩ : S93)).length * 2))), (4, (I 0))], [(514, ((List.replicate (a0.length : Int).toNat (⟨0, 0⟩ : S93)).flatMap e93))], [], []⟩ [l_ 58, b_ 0, c_ 15] aln nocal ?_
      exact ih0 a0 (List.replicate (a0.length : Int).toNat (⟨0, 0⟩ : S93)) 0 _ h
    · rw [if_neg c2] at h
      cases h
  · rw [if_neg c1] at h
    cases h
/-! laws_toRoute: function 99 -/
def laws_toRoute.f (k : Nat) (a0 : S142) : Option S83 := ((laws_toNeedS.f k a0.f0).bind fun x1 => ((laws_toIntS.f k a0.f1).bind fun x2 => (some (⟨x1, x2⟩ : S83))))
theorem laws_toRoute.J (k : Nat) (a0 : S142) (r : S83) (h : laws_toRoute.f k a0 = some r) : J prog (.call 99 [(.ag [(.sl true a0.f0.length 2 (a0.f0.flatMap e93)), (.sl true a0.f1.length 1 (a0.f1.flatMap encI))])] [] (.ag [(.rf 1000770 0 r.f0.length 2 (r.f0.length * 2)), (.rf 1001026 0 r.f1.length 1 (r.f1.length * 1))]) [(1000770, (r.f0.flatMap e93)), (1001026, (r.f1.flatMap encI))]) := by
  unfold laws_toRoute.f at h
  refine .call' [c_ 2, c_ 3] ?_
  refine .reg' [1, 2] [] ⟨[(1, (.pt 256 0 2)), (2, (.pt 257 0 2))], [(256, [(.sl true a0.f0.length 2 (a0.f0.flatMap e93)), (.sl true a0.f1.length 1 (a0.f1.flatMap encI))]), (257, [nilS, nilS])], [], []⟩ [c_ 6, c_ 7] aln nocal ?_
  refine .reg' [1, 2, 3] [] ⟨[(1, (.pt 256 0 2)), (2, (.pt 257 0 2)), (3, (.pt 512 0 2))], [(256, [(.sl true a0.f0.length 2 (a0.f0.flatMap e93)), (.sl true a0.f1.length 1 (a0.f1.flatMap encI))]), (257, [nilS, nilS]), (512, [nilS, nilS])], [], []⟩ [c_ 14, c_ 15] aln nocal ?_
  obtain ⟨x1, hx1, h⟩ := Option.bind_eq_some_iff.mp h
  refine .reg' [1, 2, 3] [.no, .no, .c ⟨117, [(.sl true a0.f0.length 2 (a0.f0.flatMap e93))], [], (.rf 514 0 x1.length 2 (x1.length * 2)), [(514, (x1.flatMap e93))], [], [], [(1000770, 514)], (.rf 1000770 0 x1.length 2 (x1.length * 2)), [(1000770, (x1.flatMap e93))]⟩] ⟨[(1, (.pt 256 0 2)), (2, (.pt 257 0 2)), (3, (.pt 512 0 2))], [(256, [(.sl true a0.f0.length 2 (a0.f0.flatMap e93)), (.sl true a0.f1.length 1 (a0.f1.flatMap encI))]), (257, [nilS, nilS]), (512, [(.rf 1000770 0 x1.length 2 (x1.length * 2)), nilS]), (1000770, (x1.flatMap e93))], [2 = 2 ∧ 0 + 1 ≤ 2, COK (hget [(256, [(.sl true a0.f0.length 2 (a0.f0.flatMap e93)), (.sl true a0.f1.length 1 (a0.f1.flatMap encI))]), (257, [nilS, nilS]), (512, [nilS, nilS])]) [(.sl true a0.f0.length 2 (a0.f0.flatMap e93))] ⟨117, [(.sl true a0.f0.length 2 (a0.f0.flatMap e93))], [], (.rf 514 0 x1.length 2 (x1.length * 2)), [(514, (x1.flatMap e93))], [], [], [(1000770, 514)], (.rf 1000770 0 x1.length 2 (x1.length * 2)), [(1000770, (x1.flatMap e93))]⟩, 2 = 2 ∧ 0 + 1 ≤ 2], [⟨117, [(.sl true a0.f0.length 2 (a0.f0.flatMap e93))], [], (.rf 514 0 x1.length 2 (x1.length * 2)), [(514, (x1.flatMap e93))], [], [], [(1000770, 514)], (.rf 1000770 0 x1.length 2 (x1.length * 2)), [(1000770, (x1.flatMap e93))]⟩]⟩ [c_ 30, c_ 31] (alc ⟨rfl, by decide⟩ (alc (cokW false (a2c (.z (frz_sl e93_ok (fun h => h))) a2n) akn (akc (.inr rfl) akn) (.rf (memP_mem (p := (1000770, 514)) rfl)) (akc ⟨_, _, rfl, rfl, rowB e93_c _⟩ akn) (fun h => absurd h (by decide))) (alc ⟨rfl, by decide⟩ aln))) (acal (laws_toNeedS.J k a0.f0 _ hx1) nocal) ?_
  obtain ⟨x2, hx2, h⟩ := Option.bind_eq_some_iff.mp h
  refine .reg' [2, 3] [.no, .no, .c ⟨38, [(.sl true a0.f1.length 1 (a0.f1.flatMap encI))], [], (.rf 514 0 x2.length 1 (x2.length * 1)), [(514, (x2.flatMap encI))], [], [], [(1001026, 514)], (.rf 1001026 0 x2.length 1 (x2.length * 1)), [(1001026, (x2.flatMap encI))]⟩] ⟨[(2, (.pt 257 0 2)), (3, (.pt 512 0 2))], [(256, [(.sl true a0.f0.length 2 (a0.f0.flatMap e93)), (.sl true a0.f1.length 1 (a0.f1.flatMap encI))]), (257, [nilS, nilS]), (512, [(.rf 1000770 0 x1.length 2 (x1.length * 2)), (.rf 1001026 0 x2.length 1 (x2.length * 1))]), (1000770, (x1.flatMap e93)), (1001026, (x2.flatMap encI))], [2 = 2 ∧ 1 + 1 ≤ 2, COK (hget [(256, [(.sl true a0.f0.length 2 (a0.f0.flatMap e93)), (.sl true a0.f1.length 1 (a0.f1.flatMap encI))]), (257, [nilS, nilS]), (512, [(.rf 1000770 0 x1.length 2 (x1.length * 2)), nilS]), (1000770, (x1.flatMap e93))]) [(.sl true a0.f1.length 1 (a0.f1.flatMap encI))] ⟨38, [(.sl true a0.f1.length 1 (a0.f1.flatMap encI))], [], (.rf 514 0 x2.length 1 (x2.length * 1)), [(514, (x2.flatMap encI))], [], [], [(1001026, 514)], (.rf 1001026 0 x2.length 1 (x2.length * 1)), [(1001026, (x2.flatMap encI))]⟩, 2 = 2 ∧ 1 + 1 ≤ 2], [⟨38, [(.sl true a0.f1.length 1 (a0.f1.flatMap encI))], [], (.rf 514 0 x2.length 1 (x2.length * 1)), [(514, (x2.flatMap encI))], [], [], [(1001026, 514)], (.rf 1001026 0 x2.length 1 (x2.length * 1)), [(1001026, (x2.flatMap encI))]⟩]⟩ [c_ 62, c_ 63] (alc ⟨rfl, by decide⟩ (alc (cokW false (a2c (.z (frz_sl encI_ok (fun h => h))) a2n) akn (akc (.inr rfl) akn) (.rf (memP_mem (p := (1001026, 514)) rfl)) (akc ⟨_, _, rfl, rfl, rowB encI_c _⟩ akn) (fun h => absurd h (by decide))) (alc ⟨rfl, by decide⟩ aln))) (acal (laws_toIntS.J k a0.f1 _ hx2) nocal) ?_
  refine .reg' [2] [] ⟨[(2, (.pt 257 0 2))], [(256, [(.sl true a0.f0.length 2 (a0.f0.flatMap e93)), (.sl true a0.f1.length 1 (a0.f1.flatMap encI))]), (257, [(.rf 1000770 0 x1.length 2 (x1.length * 2)), (.rf 1001026 0 x2.length 1 (x2.length * 1))]), (512, [(.rf 1000770 0 x1.length 2 (x1.length * 2)), (.rf 1001026 0 x2.length 1 (x2.length * 1))]), (1000770, (x1.flatMap e93)), (1001026, (x2.flatMap encI))], [2 = 2 ∧ 0 + 2 ≤ 2, 2 = 2 ∧ 0 + 2 ≤ 2], []⟩ [c_ 63] (alc ⟨rfl, by decide⟩ (alc ⟨rfl, by decide⟩ aln)) nocal ?_
  have h := Option.some.inj h
  subst h
  exact .fin' [] [(1000770, 1000770), (1001026, 1001026)] (.ag [(.rf 1000770 0 x1.length 2 (x1.length * 2)), (.rf 1001026 0 x2.length 1 (x2.length * 1))]) [2 = 2 ∧ 0 + 2 ≤ 2] (alc ⟨rfl, by decide⟩ aln) (shc 1000770 (rowF e93_ok _) (shc 1001026 (rowF encI_ok _) shn)) (cnv_ag (a2c (.rf (memP_mem (p := (1000770, 1000770)) rfl)) (a2c (.rf (memP_mem (p := (1001026, 1001026)) rfl)) a2n)))
/-! laws_toRouteS: function 56 -/
def laws_toRouteS.l0 : Nat → (List S142) → (List S83) → Int → Option (List S83)
 | 0, _, _, _ => none
 | k + 1, a0, x1, x2 => (if x2 < (a0.length : Int) then (if 0 ≤ x2 then ((laws_toRoute.f k (at_ a0 x2)).bind fun x3 => (if x2 < (x1.length : Int) then (laws_toRouteS.l0 k a0 (x1.set x2.toNat x3) (wrap64 (x2 + 1))) else none)) else none) else (some x1))
def laws_toRouteS.f (k : Nat) (a0 : (List S142)) : Option (List S83) := (if 0 ≤ (a0.length : Int) then (if (a0.length : Int) * 48 ≤ 281474976710656 then (laws_toRouteS.l0 k a0 (List.replicate (a0.length : Int).toNat (⟨[], []⟩ : S83)) 0) else none) else none)
theorem laws_toRouteS.lab : ∀ k, (∀ (a0 : (List S142)) (x1 : (List S83)) (x2 : Int) (r : (List S83)), laws_toRouteS.l0 k a0 x1 x2 = some r → J prog (.run 56 [] [l_ 58, b_ 0, c_ 15] [(0, (.sl true a0.length 2 (a0.flatMap (e142 true)))), (3, (.rf 4000000514 0 x1.length 2 (x1.length * 2))), (4, (I x2))] [(4000000514, (x1.flatMap o83))] (.rf 4000000514 0 r.length 2 (r.length * 2)) [(4000000514, (r.flatMap o83))]))
 | 0 => (by intro a0 x1 x2 r h; unfold laws_toRouteS.l0 at h; cases h)
 | k + 1 => by
  have ih0 := laws_toRouteS.lab k
  · intro a0 x1 x2 r h
    unfold laws_toRouteS.l0 at h
    refine .loop' [c_ 464, c_ 465, c_ 233, l_ 58, b_ 0, c_ 15] ?_
    refine .reg' [0, 3, 4, 11] [] ⟨[(0, (.sl true a0.length 2 (a0.flatMap (e142 true)))), (3, (.rf 4000000514 0 x1.length 2 (x1.length * 2))), (4, (I x2)), (11, (B (decide (x2 < (a0.length : Int)))))], [(4000000514, (x1.flatMap o83))], [], []⟩ [c_ 465, c_ 233, l_ 58, b_ 0, c_ 15] aln nocal ?_
    by_cases c3 : x2 < (a0.length : Int)
    · rw [if_pos c3] at h
      refine .cond' (.tmp 11) true [c_ 932, b_ 1, c_ 467, l_ 58, b_ 0, c_ 15] (bT (dT c3)) ?_
      by_cases c4 : 0 ≤ x2
      · rw [if_pos c4] at h
        obtain ⟨x3, hx3, h⟩ := Option.bind_eq_some_iff.mp h
        by_cases c5 : x2 < (x1.length : Int)
        · rw [if_pos c5] at h
          refine .reg' [0, 3, 4] [.no, .no, .no, .no, .no, .v (.ag [(.sl true (at_ a0 x2).f0.length 2 ((at_ a0 x2).f0.flatMap e93)), (.sl true (at_ a0 x2).f1.length 1 ((at_ a0 x2).f1.flatMap encI))]), .c ⟨99, [(.ag [(.sl true (at_ a0 x2).f0.length 2 ((at_ a0 x2).f0.flatMap e93)), (.sl true (at_ a0 x2).f1.length 1 ((at_ a0 x2).f1.flatMap encI))])], [], (.ag [(.rf 1000770 0 x3.f0.length 2 (x3.f0.length * 2)), (.rf 1001026 0 x3.f1.length 1 (x3.f1.length * 1))]), [(1000770, (x3.f0.flatMap e93)), (1001026, (x3.f1.flatMap encI))], [], [], [(1001542, 1000770), (2001542, 1001026)], (.ag [(.rf 1001542 0 x3.f0.length 2 (x3.f0.length * 2)), (.rf 2001542 0 x3.f1.length 1 (x3.f1.length * 1))]), [(1001542, (x3.f0.flatMap e93)), (2001542, (x3.f1.flatMap encI))]⟩, .no, .w .un (foc o83 x1 x2.toNat [(.rf 1001542 0 x3.f0.length 2 (x3.f0.length * 2)), (.rf 2001542 0 x3.f1.length 1 (x3.f1.length * 1))])] ⟨[(0, (.sl true a0.length 2 (a0.flatMap (e142 true)))), (3, (.rf 4000000514 0 x1.length 2 (x1.length * 2))), (4, (I x2))], [(4000000514, (foc o83 x1 x2.toNat [(.rf 1001542 0 x3.f0.length 2 (x3.f0.length * 2)), (.rf 2001542 0 x3.f1.length 1 (x3.f1.length * 1))])), (2001542, (x3.f1.flatMap encI)), (1001542, (x3.f0.flatMap e93))], [(0 : Int) ≤ x2 ∧ x2 < (a0.length : Int), rdC prog 143 ((a0.flatMap (e142 true)).drop (x2.toNat * 2)) = (.ag [(.sl true (at_ a0 x2).f0.length 2 ((at_ a0 x2).f0.flatMap e93)), (.sl true (at_ a0 x2).f1.length 1 ((at_ a0 x2).f1.flatMap encI))]), 2 ≤ ((a0.flatMap (e142 true)).drop (x2.toNat * 2)).length, COK (hget [(4000000514, (x1.flatMap o83))]) [(.ag [(.sl true (at_ a0 x2).f0.length 2 ((at_ a0 x2).f0.flatMap e93)), (.sl true (at_ a0 x2).f1.length 1 ((at_ a0 x2).f1.flatMap encI))])] ⟨99, [(.ag [(.sl true (at_ a0 x2).f0.length 2 ((at_ a0 x2).f0.flatMap e93)), (.sl true (at_ a0 x2).f1.length 1 ((at_ a0 x2).f1.flatMap encI))])], [], (.ag [(.rf 1000770 0 x3.f0.length 2 (x3.f0.length * 2)), (.rf 1001026 0 x3.f1.length 1 (x3.f1.length * 1))]), [(1000770, (x3.f0.flatMap e93)), (1001026, (x3.f1.flatMap encI))], [], [], [(1001542, 1000770), (2001542, 1001026)], (.ag [(.rf 1001542 0 x3.f0.length 2 (x3.f0.length * 2)), (.rf 2001542 0 x3.f1.length 1 (x3.f1.length * 1))]), [(1001542, (x3.f0.flatMap e93)), (2001542, (x3.f1.flatMap encI))]⟩, (0 : Int) ≤ x2 ∧ x2 < (x1.length : Int), V.un = V.un, spl (x1.flatMap o83) (0 + x2.toNat * 2) [(.rf 1001542 0 x3.f0.length 2 (x3.f0.length * 2)), (.rf 2001542 0 x3.f1.length 1 (x3.f1.length * 1))] = (foc o83 x1 x2.toNat [(.rf 1001542 0 x3.f0.length 2 (x3.f0.length * 2)), (.rf 2001542 0 x3.f1.length 1 (x3.f1.length * 1))]), x1.length * 2 = (x1.flatMap o83).length ∧ 0 + x2.toNat * 2 + 2 ≤ (x1.flatMap o83).length], [⟨99, [(.ag [(.sl true (at_ a0 x2).f0.length 2 ((at_ a0 x2).f0.flatMap e93)), (.sl true (at_ a0 x2).f1.length 1 ((at_ a0 x2).f1.flatMap encI))])], [], (.ag [(.rf 1000770 0 x3.f0.length 2 (x3.f0.length * 2)), (.rf 1001026 0 x3.f1.length 1 (x3.f1.length * 1))]), [(1000770, (x3.f0.flatMap e93)), (1001026, (x3.f1.flatMap encI))], [], [], [(1001542, 1000770), (2001542, 1001026)], (.ag [(.rf 1001542 0 x3.f0.length 2 (x3.f0.length * 2)), (.rf 2001542 0 x3.f1.length 1 (x3.f1.length * 1))]), [(1001542, (x3.f0.flatMap e93)), (2001542, (x3.f1.flatMap encI))]⟩]⟩ [c_ 467, l_ 58, b_ 0, c_ 15] (alc ⟨c4, c3⟩ (alc (ldA (e142_ok true) rfl rfl c4 c3) (alc (okI (e142_ok true) c4 c3 (by decide)) (alc (cokW false (a2c (.z (frz_ag (a2c (frz_sl e93_ok (fun h => h)) (a2c (frz_sl encI_ok (fun h => h)) a2n)))) a2n) akn (akc (.inr rfl) (akc (.inr rfl) akn)) (bck_ag (a2c (.rf (memP_mem (p := (1001542, 1000770)) rfl)) (a2c (.rf (memP_mem (p := (2001542, 1001026)) rfl)) a2n))) (akc ⟨_, _, rfl, rfl, rowB e93_c _⟩ (akc ⟨_, _, rfl, rfl, rowB encI_c _⟩ akn)) (fun h => absurd h (by decide))) (alc ⟨c4, c5⟩ (alc rfl (alc (foc_st0 o83_ok c4 c5 rfl) (alc (okA0 o83_ok c4 c5 (by decide)) aln)))))))) (acal (laws_toRoute.J k (at_ a0 x2) _ hx3) nocal) ?_
          refine .clX [1001542] 1001542 4000000514 (x2.toNat * 2 + 0) x3.f0.length 2 (cs' := (foc o83 x1 x2.toNat [(.on x3.f0.length 2 (x3.f0.flatMap e93)), (.rf 2001542 0 x3.f1.length 1 (x3.f1.length * 1))])) (ds := (x3.f0.flatMap e93)) (H2 := [(2001542, (x3.f1.flatMap encI))]) ((foc_get (vs := [(.rf 1001542 0 x3.f0.length 2 (x3.f0.length * 2)), (.rf 2001542 0 x3.f1.length 1 (x3.f1.length * 1))]) o83_ok c4 c5 rfl 0 (by decide)).trans rfl) (foc_set (vs := [(.rf 1001542 0 x3.f0.length 2 (x3.f0.length * 2)), (.rf 2001542 0 x3.f1.length 1 (x3.f1.length * 1))]) o83_ok c4 c5 rfl 0 (by decide) _) (row_len e93_ok _) (rowS e93_s _) (rsc (rqF o83_ok _ _) (rsc (rqE encI_ok _) rsn)) ?_
          refine .clX [2001542] 2001542 4000000514 (x2.toNat * 2 + 1) x3.f1.length 1 (cs' := ((x1.set x2.toNat x3).flatMap o83)) (ds := (x3.f1.flatMap encI)) (H2 := []) ((foc_get (vs := [(.on x3.f0.length 2 (x3.f0.flatMap e93)), (.rf 2001542 0 x3.f1.length 1 (x3.f1.length * 1))]) o83_ok c4 c5 rfl 1 (by decide)).trans rfl) ((foc_set (vs := [(.on x3.f0.length 2 (x3.f0.flatMap e93)), (.rf 2001542 0 x3.f1.length 1 (x3.f1.length * 1))]) o83_ok c4 c5 rfl 1 (by decide) _).trans (foc_end o83_ok c4 c5 x3)) (row_len encI_ok _) (rowS encI_s _) (rsc (rqE o83_ok _) rsn) ?_
          refine .reg' [0, 3, 4] [] ⟨[(0, (.sl true a0.length 2 (a0.flatMap (e142 true)))), (3, (.rf 4000000514 0 x1.length 2 (x1.length * 2))), (4, (I (wrap64 (x2 + 1))))], [(4000000514, ((x1.set x2.toNat x3).flatMap o83))], [], []⟩ [l_ 58, b_ 0, c_ 15] aln nocal ?_
          refine .eqs (env2 := [(0, (.sl true a0.length 2 (a0.flatMap (e142 true)))), (3, (.rf 4000000514 0 ((x1.set x2.toNat x3).length) 2 ((x1.set x2.toNat x3).length * 2))), (4, (I (wrap64 (x2 + 1))))]) (H2 := [(4000000514, ((x1.set x2.toNat x3).flatMap o83))]) (by first | (simp only [List.length_set]; done) | simp) (by first | rfl | (simp only [List.length_set]; done) | simp) ?_
          exact ih0 a0 (x1.set x2.toNat x3) (wrap64 (x2 + 1)) _ h
        · rw [if_neg c5] at h
          cases h
      · rw [if_neg c4] at h
        cases h
    · rw [if_neg c3] at h
      refine .cond' (.tmp 11) false [c_ 30, c_ 31] (bF (dF c3)) ?_
      refine .reg' [2] [] ⟨[(2, (.rf 4000000514 0 x1.length 2 (x1.length * 2)))], [(4000000514, (x1.flatMap o83))], [], []⟩ [c_ 31] aln nocal ?_
      have h := Option.some.inj h
      subst h
      exact .fin' [] [(4000000514, 4000000514)] (.rf 4000000514 0 x1.length 2 (x1.length * 2)) [] aln (shc 4000000514 (rowF o83_ok _) shn) (.rf (memP_mem (p := (4000000514, 4000000514)) rfl))
theorem laws_toRouteS.J (k : Nat) (a0 : (List S142)) (r : (List S83)) (h : laws_toRouteS.f k a0 = some r) : J prog (.call 56 [(.sl true a0.length 2 (a0.flatMap (e142 true)))] [] (.rf 4000000514 0 r.length 2 (r.length * 2)) [(4000000514, (r.flatMap o83))]) := by
  unfold laws_toRouteS.f at h
  have ih0 := laws_toRouteS.lab k
  refine .call' [c_ 2, c_ 3] ?_
  refine .reg' [0] [] ⟨[(0, (.sl true a0.length 2 (a0.flatMap (e142 true))))], [], [], []⟩ [c_ 6, c_ 7] aln nocal ?_
  by_cases c1 : 0 ≤ (a0.length : Int)
  · rw [if_pos c1] at h
    by_cases c2 : (a0.length : Int) * 48 ≤ 281474976710656
    · rw [if_pos c2] at h
      refine .reg' [0, 3] [.no, .no, .v (.rf 514 0 ((List.replicate (a0.length : Int).toNat (⟨[], []⟩ : S83)).length) 2 ((List.replicate (a0.length : Int).toNat (⟨[], []⟩ : S83)).length * 2))] ⟨[(0, (.sl true a0.length 2 (a0.flatMap (e142 true)))), (3, (.rf 514 0 ((List.replicate (a0.length : Int).toNat (⟨[], []⟩ : S83)).length) 2 ((List.replicate (a0.length : Int).toNat (⟨[], []⟩ : S83)).length * 2)))], [(514, (rept (a0.length : Int).toNat [nilS, nilS]))], [V.rf 514 0 (a0.length : Int).toNat 2 ((a0.length : Int).toNat * 2) = (.rf 514 0 ((List.replicate (a0.length : Int).toNat (⟨[], []⟩ : S83)).length) 2 ((List.replicate (a0.length : Int).toNat (⟨[], []⟩ : S83)).length * 2)), (a0.length : Int) = (a0.length : Int) ∧ 0 ≤ (a0.length : Int) ∧ (a0.length : Int) * 48 ≤ 281474976710656 ∧ (a0.length : Int) ≤ 9223372036854775807], []⟩ [c_ 28, c_ 29, c_ 15] (alc mkV (alc ⟨rfl, c1, c2, by omega⟩ aln)) nocal ?_
      refine .wk' [] [(514, 4000000514)] [(0, (.sl true a0.length 2 (a0.flatMap (e142 true)))), (3, (.rf 4000000514 0 ((List.replicate (a0.length : Int).toNat (⟨[], []⟩ : S83)).length) 2 ((List.replicate (a0.length : Int).toNat (⟨[], []⟩ : S83)).length * 2)))] [(4000000514, ((List.replicate (a0.length : Int).toNat (⟨[], []⟩ : S83)).flatMap o83))] (shcA 514 (a2reptO (enc := o83) (x := (⟨[], []⟩ : S83)) (a2c cnvN (a2c cnvN a2n)) _) (.inr (rept_no rfl _)) shn) (enc_ (.z (frz_sl (e142_ok true) (fun h => h))) (enc_ (.rf (memP_mem (p := (514, 4000000514)) rfl)) enn)) ?_
      refine .reg' [0, 3, 4] [] ⟨[(0, (.sl true a0.length 2 (a0.flatMap (e142 true)))), (3, (.rf 4000000514 0 ((List.replicate (a0.length : Int).toNat (⟨[], []⟩ : S83)).length) 2 ((List.replicate (a0.length : Int).toNat (⟨[], []⟩ : S83)).length * 2))), (4, (I 0))], [(4000000514, ((List.replicate (a0.length : Int).toNat (⟨[], []⟩ : S83)).flatMap o83))], [], []⟩ [l_ 58, b_ 0, c_ 15] aln nocal ?_
      exact ih0 a0 (List.replicate (a0.length : Int).toNat (⟨[], []⟩ : S83)) 0 _ h
    · rw [if_neg c2] at h
      cases h
  · rw [if_neg c1] at h
    cases h
/-! laws_toPlant: function 12 -/
def laws_toPlant.f (k : Nat) (a0 : S24) : Option S29 := ((laws_toIntS.f k a0.f0).bind fun x1 => ((laws_toRouteS.f k a0.f2).bind fun x2 => (some (⟨x1, a0.f1, x2⟩ : S29))))
theorem laws_toPlant.J (k : Nat) (a0 : S24) (r : S29) (h : laws_toPlant.f k a0 = some r) : J prog (.call 12 [(.ag [(.sl true a0.f0.length 1 (a0.f0.flatMap encI)), (I a0.f1), (.sl true a0.f2.length 2 (a0.f2.flatMap (e142 true)))])] [] (.ag [(.rf 1000770 0 r.f0.length 1 (r.f0.length * 1)), (I r.f1), (.rf 4001001282 0 r.f2.length 2 (r.f2.length * 2))]) [(1000770, (r.f0.flatMap encI)), (4001001282, (r.f2.flatMap o83))]) := by
  unfold laws_toPlant.f at h
  refine .call' [c_ 2, c_ 3] ?_
  refine .reg' [1, 2] [] ⟨[(1, (.pt 256 0 3)), (2, (.pt 257 0 3))], [(256, [(.sl true a0.f0.length 1 (a0.f0.flatMap encI)), (I a0.f1), (.sl true a0.f2.length 2 (a0.f2.flatMap (e142 true)))]), (257, [nilS, (I 0), nilS])], [], []⟩ [c_ 6, c_ 7] aln nocal ?_
  refine .reg' [1, 2, 3] [] ⟨[(1, (.pt 256 0 3)), (2, (.pt 257 0 3)), (3, (.pt 512 0 3))], [(256, [(.sl true a0.f0.length 1 (a0.f0.flatMap encI)), (I a0.f1), (.sl true a0.f2.length 2 (a0.f2.flatMap (e142 true)))]), (257, [nilS, (I 0), nilS]), (512, [nilS, (I 0), nilS])], [], []⟩ [c_ 14, c_ 15] aln nocal ?_
  obtain ⟨x1, hx1, h⟩ := Option.bind_eq_some_iff.mp h
  refine .reg' [1, 2, 3] [.no, .no, .c ⟨38, [(.sl true a0.f0.length 1 (a0.f0.flatMap encI))], [], (.rf 514 0 x1.length 1 (x1.length * 1)), [(514, (x1.flatMap encI))], [], [], [(1000770, 514)], (.rf 1000770 0 x1.length 1 (x1.length * 1)), [(1000770, (x1.flatMap encI))]⟩] ⟨[(1, (.pt 256 0 3)), (2, (.pt 257 0 3)), (3, (.pt 512 0 3))], [(256, [(.sl true a0.f0.length 1 (a0.f0.flatMap encI)), (I a0.f1), (.sl true a0.f2.length 2 (a0.f2.flatMap (e142 true)))]), (257, [nilS, (I 0), nilS]), (512, [(.rf 1000770 0 x1.length 1 (x1.length * 1)), (I 0), nilS]), (1000770, (x1.flatMap encI))], [3 = 3 ∧ 0 + 1 ≤ 3, COK (hget [(256, [(.sl true a0.f0.length 1 (a0.f0.flatMap encI)), (I a0.f1), (.sl true a0.f2.length 2 (a0.f2.flatMap (e142 true)))]), (257, [nilS, (I 0), nilS]), (512, [nilS, (I 0), nilS])]) [(.sl true a0.f0.length 1 (a0.f0.flatMap encI))] ⟨38, [(.sl true a0.f0.length 1 (a0.f0.flatMap encI))], [], (.rf 514 0 x1.length 1 (x1.length * 1)), [(514, (x1.flatMap encI))], [], [], [(1000770, 514)], (.rf 1000770 0 x1.length 1 (x1.length * 1)), [(1000770, (x1.flatMap encI))]⟩, 3 = 3 ∧ 0 + 1 ≤ 3], [⟨38, [(.sl true a0.f0.length 1 (a0.f0.flatMap encI))], [], (.rf 514 0 x1.length 1 (x1.length * 1)), [(514, (x1.flatMap encI))], [], [], [(1000770, 514)], (.rf 1000770 0 x1.length 1 (x1.length * 1)), [(1000770, (x1.flatMap encI))]⟩]⟩ [c_ 30, c_ 31] (alc ⟨rfl, by decide⟩ (alc (cokW false (a2c (.z (frz_sl encI_ok (fun h => h))) a2n) akn (akc (.inr rfl) akn) (.rf (memP_mem (p := (1000770, 514)) rfl)) (akc ⟨_, _, rfl, rfl, rowB encI_c _⟩ akn) (fun h => absurd h (by decide))) (alc ⟨rfl, by decide⟩ aln))) (acal (laws_toIntS.J k a0.f0 _ hx1) nocal) ?_
  refine .reg' [1, 2, 3] [] ⟨[(1, (.pt 256 0 3)), (2, (.pt 257 0 3)), (3, (.pt 512 0 3))], [(256, [(.sl true a0.f0.length 1 (a0.f0.flatMap encI)), (I a0.f1), (.sl true a0.f2.length 2 (a0.f2.flatMap (e142 true)))]), (257, [nilS, (I 0), nilS]), (512, [(.rf 1000770 0 x1.length 1 (x1.length * 1)), (I a0.f1), nilS]), (1000770, (x1.flatMap encI))], [3 = 3 ∧ 1 + 1 ≤ 3, 3 = 3 ∧ 1 + 1 ≤ 3], []⟩ [c_ 62, c_ 63] (alc ⟨rfl, by decide⟩ (alc ⟨rfl, by decide⟩ aln)) nocal ?_
  obtain ⟨x2, hx2, h⟩ := Option.bind_eq_some_iff.mp h
  refine .reg' [2, 3] [.no, .no, .c ⟨56, [(.sl true a0.f2.length 2 (a0.f2.flatMap (e142 true)))], [], (.rf 4000000514 0 x2.length 2 (x2.length * 2)), [(4000000514, (x2.flatMap o83))], [], [], [(4001001282, 4000000514)], (.rf 4001001282 0 x2.length 2 (x2.length * 2)), [(4001001282, (x2.flatMap o83))]⟩] ⟨[(2, (.pt 257 0 3)), (3, (.pt 512 0 3))], [(256, [(.sl true a0.f0.length 1 (a0.f0.flatMap encI)), (I a0.f1), (.sl true a0.f2.length 2 (a0.f2.flatMap (e142 true)))]), (257, [nilS, (I 0), nilS]), (512, [(.rf 1000770 0 x1.length 1 (x1.length * 1)), (I a0.f1), (.rf 4001001282 0 x2.length 2 (x2.length * 2))]), (1000770, (x1.flatMap encI)), (4001001282, (x2.flatMap o83))], [3 = 3 ∧ 2 + 1 ≤ 3, COK (hget [(256, [(.sl true a0.f0.length 1 (a0.f0.flatMap encI)), (I a0.f1), (.sl true a0.f2.length 2 (a0.f2.flatMap (e142 true)))]), (257, [nilS, (I 0), nilS]), (512, [(.rf 1000770 0 x1.length 1 (x1.length * 1)), (I a0.f1), nilS]), (1000770, (x1.flatMap encI))]) [(.sl true a0.f2.length 2 (a0.f2.flatMap (e142 true)))] ⟨56, [(.sl true a0.f2.length 2 (a0.f2.flatMap (e142 true)))], [], (.rf 4000000514 0 x2.length 2 (x2.length * 2)), [(4000000514, (x2.flatMap o83))], [], [], [(4001001282, 4000000514)], (.rf 4001001282 0 x2.length 2 (x2.length * 2)), [(4001001282, (x2.flatMap o83))]⟩, 3 = 3 ∧ 2 + 1 ≤ 3], [⟨56, [(.sl true a0.f2.length 2 (a0.f2.flatMap (e142 true)))], [], (.rf 4000000514 0 x2.length 2 (x2.length * 2)), [(4000000514, (x2.flatMap o83))], [], [], [(4001001282, 4000000514)], (.rf 4001001282 0 x2.length 2 (x2.length * 2)), [(4001001282, (x2.flatMap o83))]⟩]⟩ [c_ 126, c_ 127] (alc ⟨rfl, by decide⟩ (alc (cokW false (a2c (.z (frz_sl (e142_ok true) (fun h => h))) a2n) akn (akc (.inr rfl) akn) (.rf (memP_mem (p := (4001001282, 4000000514)) rfl)) (akc ⟨_, _, rfl, rfl, rowB o83_c _⟩ akn) (fun h => absurd h (by decide))) (alc ⟨rfl, by decide⟩ aln))) (acal (laws_toRouteS.J k a0.f2 _ hx2) nocal) ?_
  refine .reg' [2] [] ⟨[(2, (.pt 257 0 3))], [(256, [(.sl true a0.f0.length 1 (a0.f0.flatMap encI)), (I a0.f1), (.sl true a0.f2.length 2 (a0.f2.flatMap (e142 true)))]), (257, [(.rf 1000770 0 x1.length 1 (x1.length * 1)), (I a0.f1), (.rf 4001001282 0 x2.length 2 (x2.length * 2))]), (512, [(.rf 1000770 0 x1.length 1 (x1.length * 1)), (I a0.f1), (.rf 4001001282 0 x2.length 2 (x2.length * 2))]), (1000770, (x1.flatMap encI)), (4001001282, (x2.flatMap o83))], [3 = 3 ∧ 0 + 3 ≤ 3, 3 = 3 ∧ 0 + 3 ≤ 3], []⟩ [c_ 127] (alc ⟨rfl, by decide⟩ (alc ⟨rfl, by decide⟩ aln)) nocal ?_
  have h := Option.some.inj h
  subst h
  exact .fin' [] [(1000770, 1000770), (4001001282, 4001001282)] (.ag [(.rf 1000770 0 x1.length 1 (x1.length * 1)), (I a0.f1), (.rf 4001001282 0 x2.length 2 (x2.length * 2))]) [3 = 3 ∧ 0 + 3 ≤ 3] (alc ⟨rfl, by decide⟩ aln) (shc 1000770 (rowF encI_ok _) (shc 4001001282 (rowF o83_ok _) shn)) (cnv_ag (a2c (.rf (memP_mem (p := (1000770, 1000770)) rfl)) (a2c (.z .s) (a2c (.rf (memP_mem (p := (4001001282, 4001001282)) rfl)) a2n))))
/-! spec_l01In: function 54 -/
def spec_l01In.f (a0 : Int) (a1 : Int) (a2 : Int) : Option Bool := (if a1 ≤ a0 then (some (decide (a0 ≤ a2))) else (some false))
theorem spec_l01In.J (a0 : Int) (a1 : Int) (a2 : Int) (r : Bool) (h : spec_l01In.f a0 a1 a2 = some r) : J prog (.call 54 [(I a0), (I a1), (I a2)] [] (B r) []) := by
  unfold spec_l01In.f at h
  refine .call' [c_ 2, c_ 3] ?_
  refine .reg' [0, 1, 2] [] ⟨[(0, (I a0)), (1, (I a1)), (2, (I a2))], [], [], []⟩ [c_ 6, c_ 7] aln nocal ?_
  by_cases c1 : a1 ≤ a0
  · rw [if_pos c1] at h
    refine .reg' [6] [.no, .no, .no, .v (B true)] ⟨[(6, (B (decide (a0 ≤ a2))))], [], [(B (decide (a1 ≤ a0)) : V) = B true], []⟩ [c_ 7] (alc (bT (dT c1)) aln) nocal ?_
    have h := Option.some.inj h
    subst h
    exact .fin0 [] (B (decide (a0 ≤ a2))) [] aln (.z .s)
  · rw [if_neg c1] at h
    refine .reg' [6] [.no, .no, .no, .v (B false)] ⟨[(6, (B false))], [], [(B (decide (a1 ≤ a0)) : V) = B false], []⟩ [c_ 7] (alc (bF (dF c1)) aln) nocal ?_
    have h := Option.some.inj h
    subst h
    exact .fin0 [] (B false) [] aln (.z .s)
/-! spec_l01Has: function 98 -/
def spec_l01Has.l0 : Nat → (List Int) → Int → Int → Option Bool
 | 0, _, _, _ => none
 | k + 1, a0, a1, x1 => (if x1 < (a0.length : Int) then (if 0 ≤ x1 then (if (at_ a0 x1) = a1 then (some true) else (spec_l01Has.l0 k a0 a1 (wrap64 (x1 + 1)))) else none) else (some false))
def spec_l01Has.f (k : Nat) (a0 : (List Int)) (a1 : Int) : Option Bool := (spec_l01Has.l0 k a0 a1 0)
theorem spec_l01Has.lab : ∀ k, (∀ (a0 : (List Int)) (a1 : Int) (x1 : Int) (r : Bool), spec_l01Has.l0 k a0 a1 x1 = some r → J prog (.run 98 [] [l_ 26, b_ 0, c_ 7] [(0, (.sl true a0.length 1 (a0.flatMap encI))), (1, (I a1)), (5, (I x1))] [] (B r) []))
 | 0 => (by intro a0 a1 x1 r h; unfold spec_l01Has.l0 at h; cases h)
 | k + 1 => by
  have ih0 := spec_l01Has.lab k
  · intro a0 a1 x1 r h
    unfold spec_l01Has.l0 at h
    refine .loop' [c_ 208, c_ 209, c_ 105, l_ 26, b_ 0, c_ 7] ?_
    refine .reg' [0, 1, 5, 9] [] ⟨[(0, (.sl true a0.length 1 (a0.flatMap encI))), (1, (I a1)), (5, (I x1)), (9, (B (decide (x1 < (a0.length : Int)))))], [], [], []⟩ [c_ 209, c_ 105, l_ 26, b_ 0, c_ 7] aln nocal ?_
    by_cases c1 : x1 < (a0.length : Int)
    · rw [if_pos c1] at h
      refine .cond' (.tmp 9) true [c_ 840, c_ 841, b_ 1, c_ 211, l_ 26, b_ 0, c_ 7] (bT (dT c1)) ?_
      by_cases c2 : 0 ≤ x1
      · rw [if_pos c2] at h
        refine .reg' [0, 1, 5, 17] [.no, .no, .no, .v (I (at_ a0 x1))] ⟨[(0, (.sl true a0.length 1 (a0.flatMap encI))), (1, (I a1)), (5, (I x1)), (17, (B ((at_ a0 x1) == a1)))], [], [(0 : Int) ≤ x1 ∧ x1 < (a0.length : Int), rdC prog 3 ((a0.flatMap encI).drop (x1.toNat * 1)) = (I (at_ a0 x1)), 1 ≤ ((a0.flatMap encI).drop (x1.toNat * 1)).length], []⟩ [c_ 841, b_ 1, c_ 211, l_ 26, b_ 0, c_ 7] (alc ⟨c2, c1⟩ (alc (ldC1 encI_ok rfl c2 c1) (alc (okI encI_ok c2 c1 (by decide)) aln))) nocal ?_
        by_cases c3 : (at_ a0 x1) = a1
        · rw [if_pos c3] at h
          refine .cond' (.tmp 17) true [c_ 3364, c_ 3365, b_ 1, c_ 211, l_ 26, b_ 0, c_ 7] (bT (qT c3)) ?_
          refine .reg' [4] [] ⟨[(4, (B true))], [], [], []⟩ [c_ 3365, b_ 1, c_ 211, l_ 26, b_ 0, c_ 7] aln nocal ?_
          have h := Option.some.inj h
          subst h
          exact .fin0 [] (B true) [] aln (.z .s)
        · rw [if_neg c3] at h
          refine .cond' (.tmp 17) false [c_ 211, l_ 26, b_ 0, c_ 7] (bF (qF c3)) ?_
          refine .reg' [0, 1, 5] [] ⟨[(0, (.sl true a0.length 1 (a0.flatMap encI))), (1, (I a1)), (5, (I (wrap64 (x1 + 1))))], [], [], []⟩ [l_ 26, b_ 0, c_ 7] aln nocal ?_
          exact ih0 a0 a1 (wrap64 (x1 + 1)) _ h
      · rw [if_neg c2] at h
        cases h
    · rw [if_neg c1] at h
      refine .cond' (.tmp 9) false [c_ 14, c_ 15] (bF (dF c1)) ?_
      refine .reg' [4] [] ⟨[(4, (B false))], [], [], []⟩ [c_ 15] aln nocal ?_
      have h := Option.some.inj h
      subst h
      exact .fin0 [] (B false) [] aln (.z .s)
theorem spec_l01Has.J (k : Nat) (a0 : (List Int)) (a1 : Int) (r : Bool) (h : spec_l01Has.f k a0 a1 = some r) : J prog (.call 98 [(.sl true a0.length 1 (a0.flatMap encI)), (I a1)] [] (B r) []) := by
  unfold spec_l01Has.f at h
  have ih0 := spec_l01Has.lab k
  refine .call' [c_ 2, c_ 3] ?_
  refine .reg' [0, 1] [] ⟨[(0, (.sl true a0.length 1 (a0.flatMap encI))), (1, (I a1))], [], [], []⟩ [c_ 12, c_ 13, c_ 7] aln nocal ?_
  refine .reg' [0, 1, 5] [] ⟨[(0, (.sl true a0.length 1 (a0.flatMap encI))), (1, (I a1)), (5, (I 0))], [], [], []⟩ [l_ 26, b_ 0, c_ 7] aln nocal ?_
  exact ih0 a0 a1 0 _ h
/-! spec_l06Route: function 55 -/
mutual
def spec_l06Route.l0 : Nat → S29 → S83 → Int → Option Bool
 | 0, _, _, _ => none
 | k + 1, a0, a1, x1 => (if x1 < (a1.f0.length : Int) then (if 0 ≤ x1 then ((spec_l01In.f ((at_ a1.f0 x1).f0) 0 (wrap64 ((a0.f0.length : Int) - 1))).bind fun x2 => (if x2 = true then ((spec_l01In.f ((at_ a1.f0 x1).f1) 0 1).bind fun x3 => (if x3 = true then (if x1 > 0 then (if 0 ≤ (wrap64 (x1 - 1)) then (if (wrap64 (x1 - 1)) < (a1.f0.length : Int) then (if (at_ a1.f0 (wrap64 (x1 - 1))).f0 ≥ (at_ a1.f0 x1).f0 then (some false) else (spec_l06Route.l0 k a0 a1 (wrap64 (x1 + 1)))) else none) else none) else (spec_l06Route.l0 k a0 a1 (wrap64 (x1 + 1)))) else (some false))) else (some false))) else none) else (spec_l06Route.l1 k a0 a1 0))
def spec_l06Route.l1 : Nat → S29 → S83 → Int → Option Bool
 | 0, _, _, _ => none
 | k + 1, a0, a1, x4 => (if x4 < (a1.f1.length : Int) then (if 0 ≤ x4 then ((spec_l01In.f (at_ a1.f1 x4) 0 (wrap64 (a0.f1 - 1))).bind fun x5 => (if x5 = true then (if x4 ≤ (a1.f1.length : Int) then ((spec_l01Has.f k ((a1.f1.drop (0 : Int).toNat).take (x4.toNat - (0 : Int).toNat)) (at_ a1.f1 x4)).bind fun x6 => (if x6 = true then (some false) else (spec_l06Route.l1 k a0 a1 (wrap64 (x4 + 1))))) else none) else (some false))) else none) else (some (decide ((a1.f1.length : Int) > 0))))
end
def spec_l06Route.f (k : Nat) (a0 : S29) (a1 : S83) : Option Bool := (spec_l06Route.l0 k a0 a1 0)
end Go.Proofs.Ytjfjifnmfnlfoaa.Fns
