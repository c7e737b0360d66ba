/- The engine: a checked abstract machine for the functions of the program (1 of 5). -/
import Derived.Orders
import Derived.Below
import Derived.KernelRfl
import Derived.WalkKit
import Derived.Laws.CopyRow
import Derived.Laws.Tables
import Derived.IntWalk
/- The engine, part 1: values without addresses of the machine's own (V), what such a value is of the machine's (R), and that it stays so when the world goes on (Ext). Its conditions: none beyond the definitions. -/
namespace Go.Proofs.Ytpjmefdpjlhkhaa.Eng
open Go.RowKit

/-- Values: what has no address (s) · a pointer to a cell of an own row (pt) · a slice of an own row (rf) · a slice that nobody writes (sl) and a pointer into one (ip) · structs and arrays (ag), several results (tp), function values (fn), what is not known (un) · in a cell of an owner row: a slice that this cell alone leads to (on). -/
inductive V where
  | s (v : Value)
  | pt (k off tot : Nat)
  | rf (k off n sz tot : Nat)
  | sl (t : Bool) (n sz : Nat) (cs : List V)
  | ip (t : Bool) (cs : List V)
  | ag (cs : List V)
  | tp (vs : List V)
  | fn (f : Fn) (first caps : List V)
  | un
  | on (n sz : Nat) (cs : List V)
  deriving Inhabited

abbrev Hp := List (Nat × List V)
def hget : Hp → Nat → Option (List V)
  | [], _ => none
  | (k', c) :: r, k => bif Nat.beq k' k then some c else hget r k
def hset : Hp → Nat → List V → Hp
  | [], k, c => [(k, c)]
  | (k', c') :: r, k, c => bif Nat.beq k' k then (k', c) :: r else (k', c') :: hset r k c
theorem nbeq {a b : Nat} (h : ¬ a = b) : Nat.beq a b = false := by
  cases e : Nat.beq a b with
  | false => rfl
  | true => exact absurd (Nat.eq_of_beq_eq_true e) h
theorem hget_hset (h : Hp) (k j : Nat) (c : List V) : hget (hset h k c) j = if k = j then some c else hget h j := by
  induction h with
  | nil =>
    by_cases e : k = j
    · simp [hset, hget, e]
    · have := nbeq e
      simp [hset, hget, e, this]
  | cons p r ih =>
    obtain ⟨k', c'⟩ := p
    by_cases e : k' = k
    · subst e
      by_cases e2 : k' = j
      · simp [hset, hget, e2]
      · have := nbeq e2
        simp [hset, hget, e2, this]
    · have h1 := nbeq e
      by_cases e2 : k' = j
      · subst e2
        have : ¬ k = k' := fun h => e h.symm
        simp [hset, hget, h1, this]
      · have h2 := nbeq e2
        simp [hset, hget, h1, h2, ih]

/-- What the engine holds of the machine: where each own row lies (φ), how many cells it bears (ph), which blocks nobody writes (ok false: for ever; ok true: as long as this call runs). -/
structure Cx where
  φ : Nat → Option Nat
  ph : Nat → Nat
  ok : Bool → Nat → Prop
  ψ : Nat → Nat → Option Nat
/-- Owner rows: those whose 'on' cells are told of. -/
def owk (k : Nat) : Bool := Nat.ble 4000000000 k
/-- Rows that were opened out of a cell, and owner rows. -/
def opk (k : Nat) : Bool := Nat.ble 1000000000 k
theorem opk_of {k : Nat} (h : owk k = true) : opk k = true := by
  have := Nat.le_of_ble_eq_true h
  exact Nat.ble_eq_true_of_le (by omega)
/-- Rows that are maps: their one cell tells the keys; each has the value true. -/
def mpk (k : Nat) : Bool := Nat.ble 2000000000 k && !Nat.ble 4000000000 k
theorem mpk_ow {k : Nat} (h : owk k = true) : mpk k = false := by
  unfold owk at h
  unfold mpk
  rw [h]
  simp
def ptv (k b off : Nat) : Value := bif mpk k then .map (some b) else .pointer (some ⟨b, off, none⟩)
theorem ptv_p {k b off : Nat} (h : mpk k = false) : ptv k b off = .pointer (some ⟨b, off, none⟩) := by unfold ptv; rw [h]; rfl
theorem ptv_m {k b off : Nat} (h : mpk k = true) : ptv k b off = .map (some b) := by unfold ptv; rw [h]; rfl
theorem ptv_eq {k k' b off : Nat} (h : mpk k = mpk k') : ptv k b off = ptv k' b off := by unfold ptv; rw [h]
theorem ptv_one {k b off : Nat} : (ptv k b off).oneCell' = true := by
  cases h : mpk k with
  | false => rw [ptv_p h]; rfl
  | true => rw [ptv_m h]; rfl
def keysV (es : Array MapEntry) : Value := .func (.func 0) #[] (es.map (·.key))
/-- Where an own row lies: in a block of cells, or it is a map. -/
def Blk (w : World) (k b : Nat) (arr : Array Value) (ty : TypeId) : Prop := (mpk k = false ∧ w.heap[b]? = some (.cells arr ty (0, 0))) ∨
  (mpk k = true ∧ ∃ es clock, w.heap[b]? = some (.map es clock) ∧ arr = #[keysV es] ∧ ∀ e, e ∈ es.toList → e.val = .bool true)
theorem Blk.eq {w w' : World} {k b : Nat} {arr : Array Value} {ty : TypeId} (h : Blk w k b arr ty) (e : w'.heap[b]? = w.heap[b]?) : Blk w' k b arr ty := by
  rcases h with ⟨h1, h2⟩ | ⟨h1, es, cl, h2, h3⟩
  · exact .inl ⟨h1, e.trans h2⟩
  · exact .inr ⟨h1, es, cl, e.trans h2, h3⟩
theorem Blk.key {w : World} {k k' b : Nat} {arr : Array Value} {ty : TypeId} (h : Blk w k b arr ty) (e : mpk k = mpk k') : Blk w k' b arr ty := by
  unfold Blk at h ⊢
  rw [← e]; exact h
theorem Blk.cells {w : World} {k b : Nat} {arr : Array Value} {ty : TypeId} (h : Blk w k b arr ty) (e : mpk k = false) : w.heap[b]? = some (.cells arr ty (0, 0)) := by
  rcases h with ⟨_, h2⟩ | ⟨h1, _⟩
  · exact h2
  · rw [e] at h1; cases h1
theorem Blk.lt {w : World} {k b : Nat} {arr : Array Value} {ty : TypeId} (h : Blk w k b arr ty) : b < w.heap.size := by
  rcases h with ⟨_, h2⟩ | ⟨_, _, _, h2, _⟩
  · exact (Array.getElem?_eq_some_iff.1 h2).1
  · exact (Array.getElem?_eq_some_iff.1 h2).1
def isOn : V → Bool
  | .on _ _ _ => true
  | _ => false
def noOn : List V → Bool
  | [] => true
  | v :: r => bif isOn v then false else noOn r
theorem noOn_mem : ∀ {l : List V}, noOn l = true → ∀ n sz ds, V.on n sz ds ∉ l
  | v :: r, h, n, sz, ds, hm => by
    cases hv : isOn v with
    | true => simp [noOn, hv] at h
    | false =>
      rcases List.mem_cons.1 hm with e | e
      · rw [← e] at hv; cases hv
      · exact noOn_mem (l := r) (by simpa [noOn, hv] using h) n sz ds e

/-- .. of a value without own rows. -/
inductive R0 (ok : Bool → Nat → Prop) (w : World) : V → Value → Prop
  | s {x : Value} (h : x.oneCell' = true) : R0 ok w (.s x) x
  | sl0 {t : Bool} {sz : Nat} {a : Option Addr} {cap : Nat} : R0 ok w (.sl t 0 sz []) (.slice a 0 cap)
  | sl {t : Bool} {n sz : Nat} {cs : List V} {b off cap : Nat} (u : Nat → Value) (hb : ok t b) (hn : n ≤ cap) (hl : cs.length = n * sz)
      (hc : ∀ i, i < cs.length → w.cell? ⟨b, off + i, none⟩ = some (u i)) (ho : ∀ i, i < cs.length → (u i).oneCell' = true)
      (hr : ∀ i (h : i < cs.length), R0 ok w cs[i] (u i)) : R0 ok w (.sl t n sz cs) (.slice (some ⟨b, off, none⟩) n cap)
  | ip {t : Bool} {cs : List V} {b off : Nat} (u : Nat → Value) (hb : ok t b)
      (hc : ∀ i, i < cs.length → w.cell? ⟨b, off + i, none⟩ = some (u i)) (ho : ∀ i, i < cs.length → (u i).oneCell' = true)
      (hr : ∀ i (h : i < cs.length), R0 ok w cs[i] (u i)) : R0 ok w (.ip t cs) (.pointer (some ⟨b, off, none⟩))
  | ag {cs : List V} {us : Array Value} (hs : us.size = cs.length) (ho : ∀ i, i < cs.length → (us.getD i undef).oneCell' = true)
      (hr : ∀ i (h : i < cs.length), R0 ok w cs[i] (us.getD i undef)) : R0 ok w (.ag cs) (.agg us)
  | un {x : Value} : R0 ok w .un x
  | on {n sz : Nat} {cs : List V} {x : Value} : R0 ok w (.on n sz cs) x

/-- .. of any value; L tells how long the own rows are. -/
inductive R (c : Cx) (L : Nat → Option Nat) (w : World) : V → Value → Prop
  | i {v : V} {x : Value} (h : R0 c.ok w v x) : R c L w v x
  | pt {k off tot l b : Nat} (hl : L k = some l) (ht : tot ≤ l) (h : tot = l → c.φ k = some b) : R c L w (.pt k off tot) (ptv k b off)
  | rf {k off n sz tot l b cap : Nat} (hl : L k = some l) (ht : tot ≤ l) (hn : n ≤ cap) (h : tot = l → c.φ k = some b ∧ off + cap * sz ≤ c.ph k) : R c L w (.rf k off n sz tot) (.slice (some ⟨b, off, none⟩) n cap)
  | rf0 {k l sz : Nat} (hl : L k = some l) : R c L w (.rf k 0 0 sz 0) (.slice none 0 0)
  | ag {cs : List V} {us : Array Value} (hs : us.size = cs.length) (ho : ∀ i, i < cs.length → (us.getD i undef).oneCell' = true)
      (hr : ∀ i (h : i < cs.length), R c L w cs[i] (us.getD i undef)) : R c L w (.ag cs) (.agg us)
  | tp {cs : List V} {us : Array Value} (hs : us.size = cs.length)
      (hr : ∀ i (h : i < cs.length), R c L w cs[i] (us.getD i undef)) : R c L w (.tp cs) (.tuple us)
  | fn {f : Fn} {first caps : List V} {fa ca : Array Value} (h1 : fa.size = first.length) (h2 : ca.size = caps.length)
      (hr1 : ∀ i (h : i < first.length), R c L w first[i] (fa.getD i undef)) (hr2 : ∀ i (h : i < caps.length), R c L w caps[i] (ca.getD i undef)) : R c L w (.fn f first caps) (.func f fa ca)

theorem R0.ext {ok ok' : Bool → Nat → Prop} {w w' : World} {v : V} {x : Value} (h : R0 ok w v x) (he : ∀ t b, ok t b → ok' t b ∧ w'.heap[b]? = w.heap[b]?) : R0 ok' w' v x := by
  induction h with
  | s h => exact .s h
  | sl0 => exact .sl0
  | sl u hb hn hl hc ho _ ih => exact .sl u (he _ _ hb).1 hn hl (fun i hi => (World.cell?_of_block (he _ _ hb).2).trans (hc i hi)) ho ih
  | ip u hb hc ho _ ih => exact .ip u (he _ _ hb).1 (fun i hi => (World.cell?_of_block (he _ _ hb).2).trans (hc i hi)) ho ih
  | ag hs ho _ ih => exact .ag hs ho ih
  | un => exact .un
  | on => exact .on

/-- The world goes on, and what is known of values stays. -/
structure Ext (c : Cx) (L : Nat → Option Nat) (w : World) (c' : Cx) (L' : Nat → Option Nat) (w' : World) : Prop where
  ok : ∀ t b, c.ok t b → c'.ok t b ∧ w'.heap[b]? = w.heap[b]?
  len : ∀ k l, L k = some l → ∃ l', L' k = some l' ∧ l ≤ l' ∧ (l' = l → c'.φ k = c.φ k ∧ c'.ph k = c.ph k)
theorem Ext.refl (c : Cx) (L : Nat → Option Nat) (w : World) : Ext c L w c L w := ⟨fun _ _ h => ⟨h, rfl⟩, fun _ l h => ⟨l, h, Nat.le_refl _, fun _ => ⟨rfl, rfl⟩⟩⟩
theorem Ext.trans {c c' c'' : Cx} {L L' L'' : Nat → Option Nat} {w w' w'' : World} (h : Ext c L w c' L' w') (h' : Ext c' L' w' c'' L'' w'') : Ext c L w c'' L'' w'' := by
  refine ⟨fun t b hb => ?_, fun k l hl => ?_⟩
  · obtain ⟨h1, h2⟩ := h.ok t b hb
    obtain ⟨h3, h4⟩ := h'.ok t b h1
    exact ⟨h3, h4.trans h2⟩
  · obtain ⟨l1, h1, h2, h3⟩ := h.len k l hl
    obtain ⟨l2, h4, h5, h6⟩ := h'.len k l1 h1
    refine ⟨l2, h4, by omega, fun e => ?_⟩
    have e1 : l1 = l := by omega
    obtain ⟨a, b⟩ := h6 (by omega)
    obtain ⟨a', b'⟩ := h3 e1
    exact ⟨a.trans a', b.trans b'⟩
theorem R.ext {c c' : Cx} {L L' : Nat → Option Nat} {w w' : World} {v : V} {x : Value} (h : R c L w v x) (he : Ext c L w c' L' w') : R c' L' w' v x := by
  induction h with
  | i h => exact .i (h.ext he.ok)
  | pt hl ht h =>
    obtain ⟨l', h1, h2, h3⟩ := he.len _ _ hl
    exact .pt h1 (by omega) (fun e => by rw [(h3 (by omega)).1, h (by omega)])
  | rf hl ht hn h =>
    obtain ⟨l', h1, h2, h3⟩ := he.len _ _ hl
    refine .rf h1 (by omega) hn (fun e => ?_)
    obtain ⟨hb, h5⟩ := h (by omega)
    exact ⟨by rw [(h3 (by omega)).1, hb], by rw [(h3 (by omega)).2]; exact h5⟩
  | rf0 hl =>
    obtain ⟨l', h1, _, _⟩ := he.len _ _ hl
    exact .rf0 h1
  | ag hs ho _ ih => exact .ag hs ho ih
  | tp hs _ ih => exact .tp hs ih
  | fn h1 h2 _ _ i1 i2 => exact .fn h1 h2 i1 i2

/-- The own rows' lengths. -/
def ln (h : Nat → Option (List V)) (k : Nat) : Option Nat := (h k).map List.length
/-- An own row lies in a block of its own. -/
structure Obj (c : Cx) (L : Nat → Option Nat) (w : World) (k : Nat) (cs : List V) (b : Nat) (arr : Array Value) (ty : TypeId) : Prop where
  at_ : c.φ k = some b
  blk : Blk w k b arr ty
  ph : arr.size = c.ph k
  len : cs.length ≤ arr.size
  one : ∀ i, i < cs.length → (arr.getD i undef).oneCell' = true
  rel : ∀ i (h : i < cs.length), R c L w cs[i] (arr.getD i undef)
/-- A slice that a cell alone leads to: it is nil, or lies in a block of its own. -/
def NObj (w : World) (n sz : Nat) (ds : List V) (p : Option Nat) (x : Value) : Prop :=
  (p = none ∧ n = 0 ∧ ds = [] ∧ x = .slice none 0 0) ∨ ∃ b cap arr ty, p = some b ∧ x = .slice (some ⟨b, 0, none⟩) n cap ∧ w.heap[b]? = some (.cells arr ty (0, 0)) ∧ n ≤ cap ∧ ds.length = n * sz ∧ cap * sz ≤ arr.size ∧
    ∀ j (h : j < ds.length), ds[j] = .s (arr.getD j undef) ∧ (arr.getD j undef).oneCell' = true
/-- An owner row's cell that bears such a slice. -/
def Nst (h : Nat → Option (List V)) (k i n sz : Nat) (ds : List V) : Prop := ∃ cs, h k = some cs ∧ owk k = true ∧ cs[i]? = some (.on n sz ds)
structure Nest (c : Cx) (h : Nat → Option (List V)) (w : World) (Ow : Nat → Nat → Prop) : Prop where
  obj : ∀ k i n sz ds, Nst h k i n sz ds → ∃ b arr ty, c.φ k = some b ∧ w.heap[b]? = some (.cells arr ty (0, 0)) ∧ NObj w n sz ds (c.ψ k i) (arr.getD i undef)
  own : ∀ k i n sz ds b, Nst h k i n sz ds → c.ψ k i = some b → (∀ j, opk j = true → Ow j b) ∧ (∀ t, ¬ c.ok t b) ∧ ∀ k' cs', h k' = some cs' → c.φ k' ≠ some b
  inj : ∀ k i n sz ds k' i' n' sz' ds' b, Nst h k i n sz ds → Nst h k' i' n' sz' ds' → c.ψ k i = some b → c.ψ k' i' = some b → k = k' ∧ i = i'
theorem Nest.nil {c : Cx} {h : Nat → Option (List V)} {w : World} {Ow : Nat → Nat → Prop} (hn : ∀ k cs, h k = some cs → owk k = false) : Nest c h w Ow :=
  ⟨fun k i n sz ds ⟨cs, h1, h2, _⟩ => (by rw [hn k cs h1] at h2; cases h2), fun k i n sz ds b ⟨cs, h1, h2, _⟩ => (by rw [hn k cs h1] at h2; cases h2), fun k i n sz ds k' i' n' sz' ds' b ⟨cs, h1, h2, _⟩ => (by rw [hn k cs h1] at h2; cases h2)⟩
theorem NObj.lt {w : World} {n sz : Nat} {ds : List V} {b : Nat} {x : Value} (h : NObj w n sz ds (some b) x) : b < w.heap.size := by
  rcases h with ⟨h, _⟩ | ⟨b', cap, arr, ty, h, _, hb, _⟩
  · cases h
  · injection h with h
    subst h
    exact (Array.getElem?_eq_some_iff.1 hb).1
theorem Nest.lt {c : Cx} {h : Nat → Option (List V)} {w : World} {Ow : Nat → Nat → Prop} (hn : Nest c h w Ow) {k i n sz : Nat} {ds : List V} {b : Nat} (hs : Nst h k i n sz ds) (hb : c.ψ k i = some b) : b < w.heap.size := by
  obtain ⟨_, _, _, _, _, ho⟩ := hn.obj k i n sz ds hs
  rw [hb] at ho
  exact ho.lt
/-- What is told of the cells goes over to another world, by other names. -/
theorem Nest.go {c c' : Cx} {h h' : Nat → Option (List V)} {w w' : World} {Ow Ow' : Nat → Nat → Prop} (M : Nat → Nat → Prop) (hn : Nest c h w Ow)
    (src : ∀ k' i n sz ds, Nst h' k' i n sz ds → (∃ k, M k k' ∧ Nst h k i n sz ds ∧ c'.ψ k' i = c.ψ k i ∧ ∀ b arr ty, c.φ k = some b → w.heap[b]? = some (.cells arr ty (0, 0)) → ∃ b' arr' ty', c'.φ k' = some b' ∧ w'.heap[b']? = some (.cells arr' ty' (0, 0)) ∧ arr'.getD i undef = arr.getD i undef) ∨
      (c'.ψ k' i = none ∧ ∃ b' arr' ty', c'.φ k' = some b' ∧ w'.heap[b']? = some (.cells arr' ty' (0, 0)) ∧ NObj w' n sz ds none (arr'.getD i undef)))
    (minj : ∀ k a b, M k a → M k b → a = b)
    (blk : ∀ k i n sz ds b, Nst h k i n sz ds → c.ψ k i = some b → (∃ k', M k k' ∧ Nst h' k' i n sz ds) → w'.heap[b]? = w.heap[b]? ∧ (∀ j, opk j = true → Ow' j b) ∧ (∀ t, ¬ c'.ok t b) ∧ ∀ k' cs', h' k' = some cs' → c'.φ k' ≠ some b) : Nest c' h' w' Ow' := by
  refine ⟨fun k' i n sz ds hs => ?_, fun k' i n sz ds b hs hb => ?_, fun k1 i1 n1 s1 d1 k2 i2 n2 s2 d2 b h1 h2 b1 b2 => ?_⟩
  · rcases src k' i n sz ds hs with ⟨k, hM, h1, h2, h3⟩ | ⟨h1, b', arr', ty', h2, h3, h4⟩
    · obtain ⟨b, arr, ty, e1, e2, e3⟩ := hn.obj k i n sz ds h1
      obtain ⟨b', arr', ty', g1, g2, g3⟩ := h3 b arr ty e1 e2
      refine ⟨b', arr', ty', g1, g2, ?_⟩
      rw [g3, h2]
      rcases e3 with e3 | ⟨q, cap, a2, t2, q1, q2, q3, q4⟩
      · exact .inl e3
      · exact .inr ⟨q, cap, a2, t2, q1, q2, (blk k i n sz ds q h1 q1 ⟨k', hM, hs⟩).1.trans q3, q4⟩
    · exact ⟨b', arr', ty', h2, h3, by rw [h1]; exact h4⟩
  · rcases src k' i n sz ds hs with ⟨k, hM, h1, h2, _⟩ | ⟨h1, _⟩
    · rw [h2] at hb
      exact (blk k i n sz ds b h1 hb ⟨k', hM, hs⟩).2
    · rw [h1] at hb; cases hb
  · rcases src k1 i1 n1 s1 d1 h1 with ⟨a1, m1, g1, e1, _⟩ | ⟨e1, _⟩
    · rcases src k2 i2 n2 s2 d2 h2 with ⟨a2, m2, g2, e2, _⟩ | ⟨e2, _⟩
      · rw [e1] at b1
        rw [e2] at b2
        obtain ⟨q1, q2⟩ := hn.inj _ _ _ _ _ _ _ _ _ _ _ g1 g2 b1 b2
        subst q1
        exact ⟨minj _ _ _ m1 m2, q2⟩
      · rw [e2] at b2; cases b2
    · rw [e1] at b1; cases b1
/-- Ow: which blocks an own row may lie in, and be written: those that were not there when the call began, and those that came in with it. -/
structure Sim (c : Cx) (h : Nat → Option (List V)) (w : World) (Ow : Nat → Nat → Prop) : Prop where
  obj : ∀ k cs, h k = some cs → (cs = [] ∧ c.φ k = none) ∨ ∃ b arr ty, Obj c (ln h) w k cs b arr ty
  own : ∀ k cs b, h k = some cs → c.φ k = some b → Ow k b ∧ ∀ t, ¬ c.ok t b
  inj : ∀ k k' cs cs' b, h k = some cs → h k' = some cs' → c.φ k = some b → c.φ k' = some b → k = k'
  okb : ∀ t b, c.ok t b → b < w.heap.size
  fresh : ∀ k b, w.heap.size ≤ b → Ow k b
  mono : ∀ b, c.ok false b → c.ok true b
  nest : Nest c h w Ow
theorem Sim.lt {c : Cx} {h : Nat → Option (List V)} {w : World} {Ow : Nat → Nat → Prop} {k b : Nat} {cs : List V} (hs : Sim c h w Ow) (hk : h k = some cs) (hb : c.φ k = some b) : b < w.heap.size := by
  obtain ⟨b', arr, ty, ho⟩ := (hs.obj k cs hk).resolve_left (fun e => by rw [e.2] at hb; cases hb)
  have : b' = b := by have := ho.at_; rw [hb] at this; exact (Option.some.inj this).symm
  subst this
  exact ho.blk.lt
/-- What may not be written stays. -/
structure Keep (Ow : Nat → Nat → Prop) (w w' : World) : Prop where
  os : w'.os = w.os
  tape : w'.tape = w.tape
  output : w'.output = w.output
  size : w.heap.size ≤ w'.heap.size
  block : ∀ b, (∀ k, ¬ Ow k b) → w'.heap[b]? = w.heap[b]?
theorem Keep.refl (Ow : Nat → Nat → Prop) (w : World) : Keep Ow w w := ⟨rfl, rfl, rfl, Nat.le_refl _, fun _ _ => rfl⟩
theorem Keep.trans {Ow : Nat → Nat → Prop} {a b c : World} (h : Keep Ow a b) (k : Keep Ow b c) : Keep Ow a c :=
  ⟨k.os.trans h.os, k.tape.trans h.tape, k.output.trans h.output, Nat.le_trans h.size k.size, fun i hi => (k.block i hi).trans (h.block i hi)⟩
end Go.Proofs.Ytpjmefdpjlhkhaa.Eng

/- The engine, part 2: what an operation does, told over V: its value, the own rows that it touches, what they hold behind it, and what must hold for it. -/
namespace Go.Proofs.Ytpjmefdpjlhkhaa.Eng
open Go.RowKit
set_option linter.unusedVariables false
set_option linter.unusedSimpArgs false

/-- A run that asks for nothing but the program's tables. -/
def pv (P : Program) {α : Type} : Sem α → Option α
  | .pure a => some a
  | .program k => pv P (k P)
  | .mark _ k => pv P k
  | _ => none
theorem pv_run {P : Program} {α : Type} {e : Sem α} {a : α} (w : World) (h : pv P e = some a) : e.run P w = .ok a w := by
  induction e with
  | pure b => simp only [pv, Option.some.injEq] at h; subst h; rfl
  | program k ih => exact ih P h
  | mark m k ih => exact ih h
  | _ => simp [pv] at h

def rawL : List V → Option (List Value)
  | [] => some []
  | .s v :: r => match rawL r with
    | some l => some (v :: l)
    | none => none
  | _ => none
def V.raw : V → Option Value
  | .s v => some v
  | .ag cs => match rawL cs with
    | some l => some (.agg l.toArray)
    | none => none
  | _ => none
/-- An address-free value of the machine's, as V has it. -/
def ofV : Value → V
  | .agg cs => bif cs.toList.all (·.oneCell') then .ag (cs.toList.map .s) else .un
  | .tuple _ => .un
  | v => .s v
/-- The cells that a value fills. -/
def V.cells : V → Option (List V)
  | .ag cs => some cs
  | .tp _ => none
  | .un => none
  | .on _ _ _ => none
  | v => some [v]
def spl : List V → Nat → List V → List V
  | cs, _, [] => cs
  | cs, o, v :: r => spl (cs.set o v) (o + 1) r
structure Res where
  v : V
  touch : List Nat
  post : Option (Nat × List V)
  ob : List Prop
/-- All of them hold. -/
def AllP : List Prop → Prop
  | [] => True
  | [p] => p
  | p :: r => p ∧ AllP r
abbrev val (v : V) (ob : List Prop := []) : Option Res := some ⟨v, [], none, ob⟩
def isAg (P : Program) (t : TypeId) : Bool := match P.underlying t with
  | some (.struct _) => true
  | some (.array _ _) => true
  | _ => false
/-- What is read at a type out of cells. -/
def rdC (P : Program) (t : TypeId) (cs : List V) : V := bif isAg P t then .ag (cs.take (P.cellsOf t)) else cs.headD .un
def elemOf? (P : Program) (t : TypeId) : Option TypeId := match P.underlying t with
  | some (.slice e) => some e
  | _ => none
def zeros (P : Program) (t : TypeId) : Option (List V) := match P.info? t with
  | some i => match i.zero with
    | some z => bif Nat.beq z.cells.size i.size && z.cells.toList.all (·.oneCell') then some (z.cells.toList.map .s) else none
    | none => none
  | none => none
def fieldOf? (P : Program) (t : TypeId) (f : Nat) : Option Field := match P.underlying t with
  | some (.struct fs) => fs[f]?
  | _ => none
def fills (place : Nat → Option (Nat × Nat)) : List V → List (Nat × V) → Option (List V)
  | cs, [] => some cs
  | cs, (i, v) :: r => match place i, v.cells with
    | some (off, sz), some vs => bif Nat.beq vs.length sz && Nat.ble (off + sz) cs.length then fills place (spl cs off vs) r else none
    | _, _ => none
def rept (n : Nat) (z : List V) : List V := match z with
  | [x] => List.replicate n x
  | z => (List.replicate n z).flatten
def isSel : Op → Bool
  | .select _ _ => true
  | _ => false
/-- An address-free value's run. -/
def rawOp (P : Program) (ρ : Operand → V) (o : Oper) : Option Res :=
  bif !isSel o.op && o.op.operands.toList.all fun x => (ρ x).raw.isSome then
    match pv P (execOp (fun x => ((ρ x).raw).getD undef) o) with
    | some (.value v) => val (ofV v)
    | _ => none
  else none
def new (g : Nat → Option (List V)) (key : Nat) (v : V) (cs : List V) (ob : List Prop := []) : Option Res := match g key with
  | none => bif owk key || mpk key then none else some ⟨v, [key], some (key, cs), ob⟩
  | some _ => none
theorem gd {α : Type} {b : Bool} {x : Option α} {r : α} (h : (bif b then none else x) = some r) : b = false ∧ x = some r := by
  cases b with
  | true => cases h
  | false => exact ⟨rfl, h⟩
/-- What an append's second operand holds: its cells, how many elements, the own row that is read, what must hold. -/
structure Src where
  cs : List V
  n : Nat
  touch : List Nat
  ob : Prop
def srcOf (g : Nat → Option (List V)) (sz : Nat) : V → Option Src
  | .sl _ n z cs => bif Nat.beq z sz then some ⟨cs, n, [], True⟩ else none
  | .rf k off n z tot => bif mpk k then none else bif Nat.beq z sz then match g k with
    | some cs => some ⟨(cs.drop off).take (n * sz), n, [k], tot = cs.length ∧ off + n * sz ≤ cs.length⟩
    | none => none
    else none
  | .s (.slice none 0 0) => some ⟨[], 0, [], True⟩
  | .s (.string s) => bif Nat.beq sz 1 then some ⟨s.data.toList.map fun b => .s (.int .u8 b.toNat), s.size, [], True⟩ else none
  | _ => none
def app (P : Program) (g : Nat → Option (List V)) (key : Nat) (e : TypeId) (a : V) (s : Src) : Option Res :=
  bif Nat.ble 1 (P.bytesOf e) && Nat.ble (P.bytesOf e) 1048576 then
    match a with
    | .rf k 0 m z tot => bif mpk k then none else bif Nat.beq z (P.cellsOf e) then match g k with
      | some cs => bif owk k && !noOn s.cs then none else some ⟨.rf k 0 (m + s.n) z (tot + s.n * z), k :: s.touch, some (k, cs ++ s.cs), [s.ob ∧ tot = cs.length ∧ m * z = cs.length ∧ (m + s.n) * P.bytesOf e ≤ 70368744177664]⟩
      | none => none
      else none
    | .s (.slice none 0 0) => match g key with
      | none => bif owk key || mpk key then none else some ⟨.rf key 0 s.n (P.cellsOf e) (s.n * P.cellsOf e), key :: s.touch, some (key, s.cs), [s.ob ∧ s.n * P.bytesOf e ≤ 70368744177664]⟩
      | some _ => none
    | _ => none
  else none
def lenS : V → Option Nat
  | .sl _ n _ _ => some n
  | .rf _ _ n _ _ => some n
  | .s (.slice none 0 0) => some 0
  | _ => none
/-- Bytes out of cells. -/
def bytesV : List V → Option (List UInt8)
  | [] => some []
  | .s (.int .u8 n) :: r => match bytesV r with
    | some l => some (UInt8.ofNat n.toNat :: l)
    | none => none
  | _ => none
def isU8 (P : Program) (t : TypeId) : Bool := match elemOf? P t with
  | some e => match P.underlying e with
    | some (.int .u8) => true
    | _ => false
  | none => false
def isStr (P : Program) (t : TypeId) : Bool := match P.underlying t with
  | some .string => true
  | _ => false
def optInt (d : Int) : Option V → Option Int
  | none => some d
  | some (.s (.int _ n)) => some n
  | _ => none
/-- Whether two structs of ints hold the same. -/
def eqInts (P : Program) (as bs : List V) : List Field → Option Bool
  | [] => some true
  | f :: fs => match P.underlying f.type, as[f.offset]?, bs[f.offset]? with
    | some (.int _), some (.s (.int .i64 a)), some (.s (.int .i64 b)) => bif f.name == "_" then none else match eqInts P as bs fs with
      | some r => some (a == b && r)
      | none => none
    | _, _, _ => none
def eqSt (P : Program) (t : TypeId) (as bs : List V) : Option Bool := match P.underlying t with
  | some (.struct fs) => bif P.stoodInHeld t || P.eqGuardType P.depth t then none else eqInts P as bs fs.toList
  | _ => none
/-- A map whose keys are arrays of m ints, whose values are bools. -/
def mapArr (P : Program) (t : TypeId) : Option (TypeId × TypeId × TypeId × Nat) := match P.underlying t with
  | some (.map k v) => match P.underlying k, P.underlying v with
    | some (.array m e), some .bool => match P.underlying e, P.info? v with
      | some (.int .i64), some i => match i.zero with
        | some (.bool false) => bif Nat.beq (P.cellsOf e) 1 && Nat.beq (P.cellsOf k) m && Nat.ble 2 P.types.size then some (k, e, v, m) else none
        | _ => none
      | _, _ => none
    | _, _ => none
  | _ => none
def intsV : List V → Option (List Int)
  | [] => some []
  | .s (.int .i64 n) :: r => match intsV r with
    | some l => some (n :: l)
    | none => none
  | _ => none
def sameK (cs : List V) : V → Bool
  | .ag ds => match intsV cs, intsV ds with
    | some a, some b => decide (a = b)
    | _, _ => false
  | _ => false
/-- Whether a key is among those that are told. -/
def hasK (ks : List V) (cs : List V) : Bool := ks.any (sameK cs)
/-- A key: m numbers. -/
def KeyP (m : Nat) (v : V) : Prop := ∃ ns : List Int, v = .ag (ns.map fun n => .s (.int .i64 n)) ∧ ns.length = m ∧ ∀ n, n ∈ ns → (Lit.int .i64 n).wf = true
/-- One operation (no call of a function of the program's). -/
def aop (P : Program) (ρ : Operand → V) (g : Nat → Option (List V)) (key : Nat) (o : Oper) : Option Res :=
  match o.op with
  | .move x => val (ρ x)
  | .assign x => val (ρ x)
  | .pick c a b => match ρ c with
    | .s (.bool t) => val (bif t then ρ a else ρ b)
    | _ => none
  | .alloc t => match zeros P t with
    | some cs => new g key (.pt key 0 cs.length) cs
    | none => none
  | .box t x => match (ρ x).cells with
    | some cs => new g key (.pt key 0 cs.length) cs
    | none => none
  | .buildSlice t n parts => match elemOf? P t with
    | some e => match zeros P e with
      | some z => bif Nat.ble (n * P.cellsOf e) 16777216 && !Nat.beq (P.cellsOf e) 0 then
          match fills (fun i => some (i * P.cellsOf e, P.cellsOf e)) (rept n z) (parts.toList.map fun p => (p.1, ρ p.2)) with
          | some cs => new g key (.rf key 0 n (P.cellsOf e) (n * P.cellsOf e)) cs
          | none => none
        else none
      | none => none
    | none => none
  | .build t parts => match P.underlying t, zeros P t with
    | some (.struct fs), some z => match fs.toList.mapM (fun f => (P.info? f.type).map fun i => (f.offset, i.size)) with
      | some pl => match fills (fun i => pl.toArray[i]?) z (parts.toList.map fun p => (p.1, ρ p.2)) with
        | some cs => val (.ag cs)
        | none => none
      | none => none
    | _, _ => none
  | .load t x => match ρ x with
    | .pt k off tot => bif mpk k then none else match g k with
      | some cs => bif (P.underlying t).isSome && (isAg P t || Nat.beq (P.cellsOf t) 1) then some ⟨rdC P t (cs.drop off), [k], none, [tot = cs.length ∧ off + P.cellsOf t ≤ cs.length]⟩ else none
      | none => none
    | .ip _ cs => bif (P.underlying t).isSome && (isAg P t || Nat.beq (P.cellsOf t) 1) then val (rdC P t cs) [P.cellsOf t ≤ cs.length] else none
    | _ => none
  | .store t x y => match ρ x, (ρ y).cells with
    | .pt k off tot, some vs => bif mpk k then none else match g k with
      | some cs => bif (P.underlying t).isSome && Nat.beq vs.length (P.cellsOf t) && (!owk k || noOn vs) then some ⟨.un, [k], some (k, spl cs off vs), [tot = cs.length ∧ off + vs.length ≤ cs.length]⟩ else none
      | none => none
    | _, _ => none
  | .fieldAddr t x f => match fieldOf? P t f with
    | some fd => bif !Nat.beq (P.cellsOf fd.type) 0 then match ρ x with
        | .pt k off tot => bif mpk k then none else val (.pt k (off + fd.offset) tot)
        | .ip t cs => val (.ip t (cs.drop fd.offset))
        | _ => none
      else none
    | none => none
  | .indexAddr t x ix => match ρ ix with
    | .s (.int _ i) => match P.underlying t, ρ x with
      | some (.slice e), .rf k off n sz tot => bif mpk k then none else bif Nat.beq sz (P.cellsOf e) && (P.underlying e).isSome then val (.pt k (off + i.toNat * sz) tot) [0 ≤ i ∧ i < n] else none
      | some (.slice e), .sl t n sz cs => bif Nat.beq sz (P.cellsOf e) && (P.underlying e).isSome then val (.ip t (cs.drop (i.toNat * sz))) [0 ≤ i ∧ i < n] else none
      | some (.array n e), .pt k off tot => bif mpk k then none else bif (P.underlying e).isSome then val (.pt k (off + i.toNat * P.cellsOf e) tot) [0 ≤ i ∧ i < n] else none
      | _, _ => none
    | _ => none
  | .index t x ix => match ρ x, ρ ix with
    | .s (.string s), .s (.int _ i) => match P.underlying t with
      | some .string => val (.s (.int .u8 (if h : i.toNat < s.size then ((s[i.toNat]'h).toNat : Int) else 0))) [0 ≤ i ∧ i < (s.size : Int)]
      | _ => none
    | .ag cs, .s (.int _ i) => match P.underlying t with
      | some (.array n e) => bif (P.underlying e).isSome && !isAg P e && Nat.beq (P.cellsOf e) 1 then val (cs.getD i.toNat .un) [0 ≤ i ∧ i < n ∧ n = cs.length] else none
      | _ => none
    | _, _ => rawOp P ρ o
  | .slice t x lo hi none => match P.underlying t, ρ x with
    | some .string, .s (.string s) => match optInt 0 (lo.map ρ), optInt s.size (hi.map ρ) with
      | some l, some h => val (.s (.string (s.extract l.toNat h.toNat))) [0 ≤ l ∧ l ≤ h ∧ h ≤ s.size]
      | _, _ => none
    | some (.slice e), .sl t n sz cs => match optInt 0 (lo.map ρ), optInt n (hi.map ρ) with
      | some l, some h => bif Nat.beq sz (P.cellsOf e) && (P.underlying e).isSome then val (.sl t (h.toNat - l.toNat) sz ((cs.drop (l.toNat * sz)).take ((h.toNat - l.toNat) * sz))) [0 ≤ l ∧ l ≤ h ∧ h ≤ n] else none
      | _, _ => none
    | some (.slice e), .rf k off n sz tot => match optInt 0 (lo.map ρ), optInt n (hi.map ρ) with
      | some l, some h => bif Nat.beq sz (P.cellsOf e) && (P.underlying e).isSome then val (.rf k (off + l.toNat * sz) (h.toNat - l.toNat) sz tot) [0 ≤ l ∧ l ≤ h ∧ h ≤ n ∧ (l < h ∨ l = 0)] else none
      | _, _ => none
    | _, _ => none
  | .makeSlice t l c => match elemOf? P t, ρ l, ρ c with
    | some e, .s (.int .i64 n), .s (.int .i64 n') => match zeros P e with
      | some z => bif !Nat.beq (P.cellsOf e) 0 then new g key (.rf key 0 n.toNat (P.cellsOf e) (n.toNat * P.cellsOf e)) (rept n.toNat z) [n' = n ∧ 0 ≤ n ∧ n * P.bytesOf e ≤ 281474976710656 ∧ n ≤ 9223372036854775807] else none
      | none => none
    | _, _, _ => none
  | .extract x i => match ρ x with
    | .tp vs => match vs[i]? with
      | some v => val v
      | none => none
    | _ => none
  | .field t x f => match fieldOf? P t f, ρ x with
    | some fd, .ag cs => bif (P.underlying fd.type).isSome && (isAg P fd.type || Nat.blt fd.offset cs.length) then val (bif isAg P fd.type then .ag ((cs.drop fd.offset).take (P.cellsOf fd.type)) else (cs.drop fd.offset).headD .un) [fd.offset + P.cellsOf fd.type ≤ cs.length] else none
    | _, _ => none
  | .nilCheck x => match ρ x with
    | .pt k off tot => bif mpk k then none else val (.pt k off tot)
    | .ip t cs => val (.ip t cs)
    | _ => none
  | .makeFunc f first caps => val (.fn f (first.toList.map ρ) (caps.toList.map ρ))
  | .binOp op t x y _ => match op, ρ x, ρ y with
    | .add, .s (.int .i64 a), .s (.int .i64 b) => val (.s (.int .i64 (wrap64 (a + b))))
    | .sub, .s (.int .i64 a), .s (.int .i64 b) => val (.s (.int .i64 (wrap64 (a - b))))
    | .mul, .s (.int .i64 a), .s (.int .i64 b) => val (.s (.int .i64 (wrap64 (a * b))))
    | .quo, .s (.int .i64 a), .s (.int .i64 b) => val (.s (.int .i64 (wrap64 (a.tdiv b)))) [b ≠ 0]
    | .rem, .s (.int .i64 a), .s (.int .i64 b) => val (.s (.int .i64 (a.tmod b))) [b ≠ 0]
    | .add, .s (.string a), .s (.string b) => val (.s (.string (a ++ b))) [a.size + b.size ≤ 9223372036854775807]
    | .eql, .ag as, .ag bs => match eqSt P t as bs with
      | some r => val (.s (.bool r))
      | none => none
    | .neq, .ag as, .ag bs => match eqSt P t as bs with
      | some r => val (.s (.bool (!r)))
      | none => none
    | _, _, _ => rawOp P ρ o
  | .convert src dst x => match ρ x with
    | .sl _ n sz cs => match bytesV cs with
      | some bs => bif isU8 P src && isStr P dst && Nat.beq sz 1 then val (.s (.string ⟨bs.toArray⟩)) else none
      | none => none
    | .rf k off n sz tot => bif mpk k then none else match g k with
      | some cs => match bytesV ((cs.drop off).take n) with
        | some bs => bif isU8 P src && isStr P dst && Nat.beq sz 1 then some ⟨.s (.string ⟨bs.toArray⟩), [k], none, [tot = cs.length ∧ off + n ≤ cs.length]⟩ else none
        | none => none
      | none => none
    | _ => rawOp P ρ o
  | .call { callee := .builtin .len, args := args, argTypes := ts } => match args.toList, ts.toList with
    | [x], [t] => match P.underlying t, ρ x with
      | some .string, .s (.string s) => val (.s (.int .i64 (s.size : Int)))
      | some (.slice _), v => match lenS v with
        | some n => val (.s (.int .i64 (n : Int)))
        | none => none
      | _, _ => none
    | _, _ => none
  | .call { callee := .builtin .append, args := args, argTypes := ts } => match args.toList, ts.toList with
    | [a, x], t :: t' :: _ => match elemOf? P t, P.underlying t' with
      | some _, some (.int _) => none
      | some e, some _ => bif !Nat.beq (P.cellsOf e) 0 && (zeros P e).isSome then match srcOf g (P.cellsOf e) (ρ x) with
          | some s => app P g key e (ρ a) s
          | none => none
        else none
      | _, _ => none
    | _, _ => none
  | .makeMap t none => match mapArr P t, g (key + 2000000000) with
    | some _, none => bif mpk (key + 2000000000) then some ⟨.pt (key + 2000000000) 0 1, [key + 2000000000], some (key + 2000000000, [.fn (.func 0) [] []]), []⟩ else none
    | _, _ => none
  | .lookup t x ix false => match mapArr P t, ρ x, ρ ix with
    | some m, .pt q 0 1, .ag cs => bif mpk q then match g q with
        | some [.fn _ _ ks] => some ⟨.s (.bool (hasK ks cs)), [q], none, [(∀ v, v ∈ ks → KeyP m.2.2.2 v) ∧ KeyP m.2.2.2 (.ag cs)]⟩
        | _ => none
      else none
    | _, _, _ => rawOp P ρ o
  | .mapUpdate t x ix y => match mapArr P t, ρ x, ρ ix, ρ y with
    | some m, .pt q 0 1, .ag cs, .s (.bool true) => bif mpk q then match g q with
        | some [.fn f fi ks] => some ⟨.un, [q], some (q, [.fn f fi (bif hasK ks cs then ks else ks ++ [.ag cs])]), [(∀ v, v ∈ ks → KeyP m.2.2.2 v) ∧ KeyP m.2.2.2 (.ag cs)]⟩
        | _ => none
      else none
    | _, _, _, _ => none
  | _ => rawOp P ρ o
end Go.Proofs.Ytpjmefdpjlhkhaa.Eng

/- The engine, part 3: a row's content is set anew (Sim.set), loads, stores and new blocks as the machine runs them. -/
namespace Go.Proofs.Ytpjmefdpjlhkhaa.Eng
open Go.RowKit
set_option linter.unusedVariables false
set_option linter.unusedSimpArgs false
def upd (h : Nat → Option (List V)) (p : Option (Nat × List V)) (k : Nat) : Option (List V) := match p with
  | none => h k
  | some (j, cs) => if j = k then some cs else h k
def Cx.set (c : Cx) (k b n : Nat) : Cx := { φ := fun j => if k = j then some b else c.φ j, ph := fun j => if k = j then n else c.ph j, ok := c.ok, ψ := c.ψ }
theorem Sim.set {c : Cx} {h : Nat → Option (List V)} {w w' : World} {Ow : Nat → Nat → Prop} {k bn : Nat} {cs' : List V} {arr : Array Value} {ty : TypeId} (hs : Sim c h w Ow)
    (hold : ∀ cs, h k = some cs → cs.length ≤ cs'.length ∧ (cs'.length = cs.length → c.φ k = some bn ∧ c.ph k = arr.size))
    (hnew : w.heap.size ≤ bn ∨ ∃ cs, h k = some cs ∧ c.φ k = some bn)
    (hw : ∀ b, b ≠ bn → b < w.heap.size → w'.heap[b]? = w.heap[b]?) (hsz : w.heap.size ≤ w'.heap.size)
    (hblk : Blk w' k bn arr ty) (hlen : cs'.length ≤ arr.size)
    (hone : ∀ i, i < cs'.length → (arr.getD i undef).oneCell' = true) (hrel : ∀ i (hi : i < cs'.length), R c (ln h) w cs'[i] (arr.getD i undef))
    (hnst : owk k = true → ∀ i n sz ds, cs'[i]? = some (.on n sz ds) → ∃ cs b0 arr0 ty0, h k = some cs ∧ cs[i]? = some (.on n sz ds) ∧ c.φ k = some b0 ∧ w.heap[b0]? = some (.cells arr0 ty0 (0, 0)) ∧ arr.getD i undef = arr0.getD i undef) :
    Ext c (ln h) w (c.set k bn arr.size) (ln (upd h (some (k, cs')))) w' ∧ Sim (c.set k bn arr.size) (upd h (some (k, cs'))) w' Ow := by
  have hnok : ∀ t, ¬ c.ok t bn := by
    intro t ht
    rcases hnew with h1 | ⟨cs, h1, h2⟩
    · have := hs.okb t bn ht; omega
    · exact (hs.own k cs bn h1 h2).2 t ht
  have hbase : Ow k bn := by
    rcases hnew with h1 | ⟨cs, h1, h2⟩
    · exact hs.fresh k bn h1
    · exact (hs.own k cs bn h1 h2).1
  have he : Ext c (ln h) w (c.set k bn arr.size) (ln (upd h (some (k, cs')))) w' := by
    refine ⟨fun t b hb => ⟨hb, hw b (fun e => hnok t (e ▸ hb)) (hs.okb t b hb)⟩, fun j l hl => ?_⟩
    by_cases e : k = j
    · subst e
      cases hk : h k with
      | none => simp [ln, hk] at hl
      | some cs =>
        have hl' : l = cs.length := by simpa [ln, hk] using hl.symm
        subst hl'
        obtain ⟨h1, h2⟩ := hold cs hk
        refine ⟨cs'.length, by simp [ln, upd], h1, fun e => ?_⟩
        obtain ⟨h3, h4⟩ := h2 e
        simp [Cx.set, h3, h4]
    · refine ⟨l, by simpa [ln, upd, e] using hl, Nat.le_refl _, fun _ => by simp [Cx.set, e]⟩
  refine ⟨he, ?_, ?_, ?_, ?_, ?_, ?_, ?_⟩
  · intro j cs hj
    by_cases e : k = j
    · subst e
      have hcs : cs' = cs := by simpa [upd] using hj
      subst hcs
      exact .inr ⟨bn, arr, ty, by simp [Cx.set], hblk, by simp [Cx.set], hlen, hone, fun i hi => (hrel i hi).ext he⟩
    · have hj' : h j = some cs := by simpa [upd, e] using hj
      rcases hs.obj j cs hj' with ⟨n0, n1⟩ | ⟨b, arr', ty', ho⟩
      · exact .inl ⟨n0, by simp [Cx.set, e, n1]⟩
      refine .inr ?_
      have hlt := hs.lt hj' ho.at_
      have hne : b ≠ bn := by
        intro eb
        rcases hnew with h1 | ⟨cs0, h1, h2⟩
        · omega
        · exact e (hs.inj k j cs0 cs bn h1 hj' h2 (eb ▸ ho.at_))
      exact ⟨b, arr', ty', by simp [Cx.set, e, ho.at_], ho.blk.eq (hw b hne hlt), by simp [Cx.set, e, ho.ph], ho.len, ho.one, fun i hi => (ho.rel i hi).ext he⟩
  · intro j cs b hj hb
    by_cases e : k = j
    · subst e
      have : bn = b := by simpa [Cx.set] using hb
      subst this
      exact ⟨hbase, hnok⟩
    · exact hs.own j cs b (by simpa [upd, e] using hj) (by simpa [Cx.set, e] using hb)
  · intro j j' cs1 cs2 b h1 h2 h3 h4
    have other : ∀ j cs, ¬ k = j → upd h (some (k, cs')) j = some cs → (c.set k bn arr.size).φ j = some bn → False := by
      intro j cs e hj hb
      have hj' : h j = some cs := by simpa [upd, e] using hj
      have hb' : c.φ j = some bn := by simpa [Cx.set, e] using hb
      rcases hnew with h1 | ⟨cs0, h5, h6⟩
      · have := hs.lt hj' hb'; omega
      · exact e (hs.inj k j cs0 cs bn h5 hj' h6 hb')
    by_cases e1 : k = j
    · by_cases e2 : k = j'
      · rw [← e1, ← e2]
      · subst e1
        have hb : bn = b := by simpa [Cx.set] using h3
        subst hb
        exact (other j' cs2 e2 h2 h4).elim
    · by_cases e2 : k = j'
      · subst e2
        have hb : bn = b := by simpa [Cx.set] using h4
        subst hb
        exact (other j cs1 e1 h1 h3).elim
      · exact hs.inj j j' cs1 cs2 b (by simpa [upd, e1] using h1) (by simpa [upd, e2] using h2) (by simpa [Cx.set, e1] using h3) (by simpa [Cx.set, e2] using h4)
  · intro t b hb
    have := hs.okb t b hb
    omega
  · exact fun j b hb => hs.fresh j b (by omega)
  · exact hs.mono
  · have oth : ∀ j cs b, k ≠ j → h j = some cs → c.φ j = some b → b ≠ bn := by
      intro j cs b e hj hb eb
      subst eb
      rcases hnew with h1 | ⟨cs0, h1, h2⟩
      · have := hs.lt hj hb; omega
      · exact e (hs.inj k j cs0 cs b h1 hj h2 hb)
    refine hs.nest.go (fun a b => a = b) (fun k' i n sz ds ⟨cs, h1, h2, h3⟩ => .inl ?_) (fun _ _ _ e1 e2 => e1.symm.trans e2) (fun k1 i n sz ds b hst hb _ => ?_)
    · by_cases e : k = k'
      · subst e
        have ecs : cs' = cs := by simpa [upd] using h1
        subst ecs
        obtain ⟨cs0, b0, arr0, ty0, q1, q2, q3, q4, q5⟩ := hnst h2 i n sz ds h3
        refine ⟨k, rfl, ⟨cs0, q1, h2, q2⟩, rfl, fun b arr1 ty1 hb hbk => ⟨bn, arr, ty, by simp [Cx.set], hblk.cells (mpk_ow h2), ?_⟩⟩
        rw [q3] at hb
        injection hb with hb
        subst hb
        rw [q4] at hbk
        injection hbk with hbk
        injection hbk with hbk
        rw [q5, hbk]
      · have hj' : h k' = some cs := by simpa [upd, e] using h1
        exact ⟨k', rfl, ⟨cs, hj', h2, h3⟩, rfl, fun b arr1 ty1 hb hbk => ⟨b, arr1, ty1, by simp [Cx.set, e, hb], (hw b (oth k' cs b e hj' hb) (hs.lt hj' hb)).trans hbk, rfl⟩⟩
    · have hlt := hs.nest.lt hst hb
      obtain ⟨o1, o2, o3⟩ := hs.nest.own k1 i n sz ds b hst hb
      have hne : b ≠ bn := by
        intro eb
        rcases hnew with h1 | ⟨cs0, h1, h2⟩
        · omega
        · exact o3 k cs0 h1 (by rw [eb]; exact h2)
      refine ⟨hw b hne hlt, o1, o2, fun k' cs2 g1 g2 => ?_⟩
      by_cases e : k = k'
      · subst e
        exact hne (by simpa [Cx.set] using g2.symm)
      · exact o3 k' cs2 (by simpa [upd, e] using g1) (by simpa [Cx.set, e] using g2)
/-- The world alone has gone on: draws, blocks of nobody's. -/
theorem Sim.on {c : Cx} {h : Nat → Option (List V)} {w w' : World} {Ow : Nat → Nat → Prop} (hs : Sim c h w Ow) (hw : ∀ b, b < w.heap.size → w'.heap[b]? = w.heap[b]?) (hsz : w.heap.size ≤ w'.heap.size) :
    Ext c (ln h) w c (ln h) w' ∧ Sim c h w' Ow := by
  have he : Ext c (ln h) w c (ln h) w' := ⟨fun t b hb => ⟨hb, hw b (hs.okb t b hb)⟩, fun k l hl => ⟨l, hl, Nat.le_refl _, fun _ => ⟨rfl, rfl⟩⟩⟩
  refine ⟨he, ⟨fun k cs hk => ?_, hs.own, hs.inj, fun t b hb => by have := hs.okb t b hb; omega, fun j b hb => hs.fresh j b (by omega), hs.mono,
    hs.nest.go (fun a b => a = b) (fun k' i n sz ds ⟨cs, h1, h2, h3⟩ => .inl ⟨k', rfl, ⟨cs, h1, h2, h3⟩, rfl, fun b arr ty hb hbk => ⟨b, arr, ty, hb, (hw b (hs.lt h1 hb)).trans hbk, rfl⟩⟩) (fun _ _ _ e1 e2 => e1.symm.trans e2) (fun k1 i n sz ds b hst hb _ => ⟨hw b (hs.nest.lt hst hb), hs.nest.own k1 i n sz ds b hst hb⟩)⟩⟩
  rcases hs.obj k cs hk with h0 | ⟨b, arr, ty, ho⟩
  · exact .inl h0
  exact .inr ⟨b, arr, ty, ho.at_, ho.blk.eq (hw b (hs.lt hk ho.at_)), ho.ph, ho.len, ho.one, fun i hi => (ho.rel i hi).ext he⟩

/-- A row that is there already, and is empty. -/
theorem Sim.nl {c : Cx} {h : Nat → Option (List V)} {w : World} {Ow : Nat → Nat → Prop} {k : Nat} (hs : Sim c h w Ow) (hk : h k = none) :
    ∃ c2 : Cx, Ext c (ln h) w c2 (ln (upd h (some (k, [])))) w ∧ Sim c2 (upd h (some (k, []))) w Ow ∧ c2.ok = c.ok := by
  obtain ⟨c2, hc2⟩ : ∃ c2 : Cx, c2 = { φ := fun j => if k = j then none else c.φ j, ph := c.ph, ok := c.ok, ψ := c.ψ } := ⟨_, rfl⟩
  have hφ0 : c2.φ k = none := by rw [hc2]; simp
  have hφ : ∀ j, k ≠ j → c2.φ j = c.φ j := by intro j hj; rw [hc2]; simp [hj]
  have hph : c2.ph = c.ph := by rw [hc2]
  have hok : c2.ok = c.ok := by rw [hc2]
  have hψ : c2.ψ = c.ψ := by rw [hc2]
  have hg0 : upd h (some (k, [])) k = some [] := by simp [upd]
  have hg : ∀ j, k ≠ j → upd h (some (k, [])) j = h j := by intro j hj; simp [upd, hj]
  have hne : ∀ j cs, h j = some cs → k ≠ j := by intro j cs hj e; subst e; rw [hk] at hj; cases hj
  have hE : Ext c (ln h) w c2 (ln (upd h (some (k, [])))) w := by
    refine ⟨fun t b hb => ⟨by rw [hok]; exact hb, rfl⟩, fun j l hl => ?_⟩
    unfold ln at hl
    cases hq : h j with
    | none => rw [hq] at hl; cases hl
    | some cs1 =>
      have hj := hne j cs1 hq
      refine ⟨l, ?_, Nat.le_refl _, fun _ => ⟨hφ j hj, by rw [hph]⟩⟩
      unfold ln
      rw [hg j hj]; exact hl
  have hcase : ∀ j cs1, upd h (some (k, [])) j = some cs1 → (j = k ∧ cs1 = []) ∨ (k ≠ j ∧ h j = some cs1) := by
    intro j cs1 hj
    by_cases e : k = j
    · subst e; rw [hg0] at hj; injection hj with hj; exact .inl ⟨rfl, hj.symm⟩
    · exact .inr ⟨e, (hg j e).symm.trans hj⟩
  refine ⟨c2, hE, ⟨fun j cs1 hj => ?_, fun j cs1 b hj hb => ?_, fun j j' cs1 cs2 b hj hj' hb hb' => ?_, fun t b hb => hs.okb t b (by rw [← hok]; exact hb), hs.fresh, fun b hb => by rw [hok] at hb ⊢; exact hs.mono b hb,
    hs.nest.go (fun a b => a = b) (fun k' i n sz ds ⟨cs, h1, h2, h3⟩ => .inl ?_) (fun _ _ _ e1 e2 => e1.symm.trans e2) (fun k1 i n sz ds b hst hb _ => ?_)⟩, hok⟩
  · rcases hcase j cs1 hj with ⟨e, e'⟩ | ⟨e, e'⟩
    · subst e; exact .inl ⟨e', hφ0⟩
    · rcases hs.obj j cs1 e' with ⟨z1, z2⟩ | ⟨b, arr, ty, hOb⟩
      · exact .inl ⟨z1, (hφ j e).trans z2⟩
      · exact .inr ⟨b, arr, ty, (hφ j e).trans hOb.at_, hOb.blk, by rw [hph]; exact hOb.ph, hOb.len, hOb.one, fun i hi => (hOb.rel i hi).ext hE⟩
  · rcases hcase j cs1 hj with ⟨e, e'⟩ | ⟨e, e'⟩
    · subst e; rw [hφ0] at hb; cases hb
    · rw [hφ j e] at hb; rw [hok]; exact hs.own j cs1 b e' hb
  · rcases hcase j cs1 hj with ⟨e, e'⟩ | ⟨e, e'⟩
    · subst e; rw [hφ0] at hb; cases hb
    · rcases hcase j' cs2 hj' with ⟨d, d'⟩ | ⟨d, d'⟩
      · subst d; rw [hφ0] at hb'; cases hb'
      · rw [hφ j e] at hb; rw [hφ j' d] at hb'; exact hs.inj j j' cs1 cs2 b e' d' hb hb'
  · rcases hcase k' cs h1 with ⟨e, e'⟩ | ⟨e, e'⟩
    · rw [e'] at h3; simp at h3
    · exact ⟨k', rfl, ⟨cs, e', h2, h3⟩, by rw [hψ], fun b arr ty hb hbk => ⟨b, arr, ty, (hφ k' e).trans hb, hbk, rfl⟩⟩
  · obtain ⟨o1, o2, o3⟩ := hs.nest.own k1 i n sz ds b hst hb
    refine ⟨rfl, o1, by rw [hok]; exact o2, fun k' cs2 g1 g2 => ?_⟩
    rcases hcase k' cs2 g1 with ⟨e, e'⟩ | ⟨e, e'⟩
    · subst e; rw [hφ0] at g2; cases g2
    · rw [hφ k' e] at g2; exact o3 k' cs2 e' g2
/-- How an operation ends. -/
structure Goes (P : Program) (e : Sem Next) (c : Cx) (h : Nat → Option (List V)) (w : World) (Ow : Nat → Nat → Prop) (r : Res) (n : Next) (w' : World) (c' : Cx) : Prop where
  run : e.run P w = .ok n w'
  out : (∃ x, n = .value x ∧ R c' (ln (upd h r.post)) w' r.v x) ∨ (n = .skip ∧ r.v = .un)
  ext : Ext c (ln h) w c' (ln (upd h r.post)) w'
  sim : Sim c' (upd h r.post) w' Ow
  bel : Keep Ow w w'
  oke : c'.ok = c.ok
def GoesAny (P : Program) (e : Sem Next) (c : Cx) (h : Nat → Option (List V)) (w : World) (Ow : Nat → Nat → Prop) (r : Res) : Prop := ∃ n w' c', Goes P e c h w Ow r n w' c'
theorem goes_val {P : Program} {e : Sem Next} {c : Cx} {h : Nat → Option (List V)} {w : World} {Ow : Nat → Nat → Prop} {v : V} {tc : List Nat} {ob : List Prop} {x : Value} (hs : Sim c h w Ow)
    (hr : e.run P w = .ok (.value x) w) (hx : R c (ln h) w v x) : GoesAny P e c h w Ow ⟨v, tc, none, ob⟩ :=
  ⟨.value x, w, c, hr, .inl ⟨x, rfl, hx⟩, Ext.refl _ _ _, hs, Keep.refl _ _, rfl⟩
theorem goes_new {P : Program} {e : Sem Next} {c : Cx} {h : Nat → Option (List V)} {w w' : World} {Ow : Nat → Nat → Prop} {key : Nat} {v : V} {tc : List Nat} {ob : List Prop} {x : Value} {cs : List V} {arr : Array Value} {ty : TypeId} (hs : Sim c h w Ow)
    (hk : h key = none) (hr : e.run P w = .ok (.value x) w') (hw : ∀ b, b < w.heap.size → w'.heap[b]? = w.heap[b]?) (hsz : w.heap.size < w'.heap.size) (hblk : w'.heap[w.heap.size]? = some (.cells arr ty (0, 0)))
    (hos : w'.os = w.os ∧ w'.tape = w.tape ∧ w'.output = w.output) (hlen : cs.length ≤ arr.size) (hone : ∀ i, i < cs.length → (arr.getD i undef).oneCell' = true) (hrel : ∀ i (hi : i < cs.length), R c (ln h) w cs[i] (arr.getD i undef))
    (hx : (c.set key w.heap.size arr.size).φ key = some w.heap.size → (c.set key w.heap.size arr.size).ph key = arr.size → ln (upd h (some (key, cs))) key = some cs.length → R (c.set key w.heap.size arr.size) (ln (upd h (some (key, cs)))) w' v x) (hok : owk key = false) (hmk : mpk key = false) : GoesAny P e c h w Ow ⟨v, tc, some (key, cs), ob⟩ := by
  obtain ⟨h1, h2⟩ := hs.set (k := key) (bn := w.heap.size) (cs' := cs) (w' := w') (arr := arr) (ty := ty) (fun cs0 h0 => by rw [hk] at h0; cases h0) (.inl (Nat.le_refl _)) (fun b _ hb => hw b hb) (by omega) (.inl ⟨hmk, hblk⟩) hlen hone hrel (fun g => by rw [hok] at g; cases g)
  refine ⟨.value x, w', c.set key w.heap.size arr.size, hr, .inl ⟨x, rfl, hx (by simp [Cx.set]) (by simp [Cx.set]) (by simp [ln, upd])⟩, h1, h2, ⟨hos.1, hos.2.1, hos.2.2, by omega, fun b hb => ?_⟩, rfl⟩
  rcases Nat.lt_or_ge b w.heap.size with hlt | hge
  · exact hw b hlt
  · exact absurd (hs.fresh 0 b hge) (hb 0)
end Go.Proofs.Ytpjmefdpjlhkhaa.Eng

/- The engine, part 4: each operation does what aop tells (reads, values). -/
namespace Go.Proofs.Ytpjmefdpjlhkhaa.Eng
open Go.RowKit
set_option linter.unusedVariables false
set_option linter.unusedSimpArgs false
section
variable {P : Program} {c : Cx} {L : Nat → Option Nat} {w : World}
theorem R.s_inv {y x : Value} (h : R c L w (.s y) x) : x = y ∧ y.oneCell' = true := by
  cases h with
  | i h => cases h with
    | s h => exact ⟨rfl, h⟩
theorem R.sl_inv {t : Bool} {n sz : Nat} {cs : List V} {x : Value} (h : R c L w (.sl t n sz cs) x) : (n = 0 ∧ cs = [] ∧ ∃ a cap, x = .slice a 0 cap) ∨
    ∃ (u : Nat → Value) (b off cap : Nat), x = .slice (some ⟨b, off, none⟩) n cap ∧ c.ok t b ∧ n ≤ cap ∧ cs.length = n * sz ∧ (∀ i, i < cs.length → w.cell? ⟨b, off + i, none⟩ = some (u i)) ∧ (∀ i, i < cs.length → (u i).oneCell' = true) ∧ ∀ i (h : i < cs.length), R0 c.ok w cs[i] (u i) := by
  cases h with
  | i h => cases h with
    | sl0 => exact .inl ⟨rfl, rfl, _, _, rfl⟩
    | sl u hb hn hl hc ho hr => exact .inr ⟨u, _, _, _, rfl, hb, hn, hl, hc, ho, hr⟩
theorem R.ip_inv {t : Bool} {cs : List V} {x : Value} (h : R c L w (.ip t cs) x) :
    ∃ (u : Nat → Value) (b off : Nat), x = .pointer (some ⟨b, off, none⟩) ∧ c.ok t b ∧ (∀ i, i < cs.length → w.cell? ⟨b, off + i, none⟩ = some (u i)) ∧ (∀ i, i < cs.length → (u i).oneCell' = true) ∧ ∀ i (h : i < cs.length), R0 c.ok w cs[i] (u i) := by
  cases h with
  | i h => cases h with
    | ip u hb hc ho hr => exact ⟨u, _, _, rfl, hb, hc, ho, hr⟩
theorem R.ag_inv {cs : List V} {x : Value} (h : R c L w (.ag cs) x) : ∃ us : Array Value, x = .agg us ∧ us.size = cs.length ∧ (∀ i, i < cs.length → (us.getD i undef).oneCell' = true) ∧ ∀ i (h : i < cs.length), R c L w cs[i] (us.getD i undef) := by
  cases h with
  | i h => cases h with
    | ag hs ho hr => exact ⟨_, rfl, hs, ho, fun i hi => .i (hr i hi)⟩
  | ag hs ho hr => exact ⟨_, rfl, hs, ho, hr⟩
theorem R.tp_inv {cs : List V} {x : Value} (h : R c L w (.tp cs) x) : ∃ us : Array Value, x = .tuple us ∧ us.size = cs.length ∧ ∀ i (h : i < cs.length), R c L w cs[i] (us.getD i undef) := by
  cases h with
  | i h => cases h
  | tp hs hr => exact ⟨_, rfl, hs, hr⟩
theorem R.fn_inv {f : Fn} {first caps : List V} {x : Value} (h : R c L w (.fn f first caps) x) : ∃ fa ca : Array Value, x = .func f fa ca ∧ fa.size = first.length ∧ ca.size = caps.length ∧ (∀ i (h : i < first.length), R c L w first[i] (fa.getD i undef)) ∧ ∀ i (h : i < caps.length), R c L w caps[i] (ca.getD i undef) := by
  cases h with
  | i h => cases h
  | fn h1 h2 h3 h4 => exact ⟨_, _, rfl, h1, h2, h3, h4⟩
theorem R.pt_inv {k off tot : Nat} {x : Value} (h : R c L w (.pt k off tot) x) : ∃ b l, x = ptv k b off ∧ L k = some l ∧ tot ≤ l ∧ (tot = l → c.φ k = some b) := by
  cases h with
  | i h => cases h
  | pt hl ht h => exact ⟨_, _, rfl, hl, ht, h⟩
theorem R.pt_invP {k off tot : Nat} {x : Value} (h : R c L w (.pt k off tot) x) (hm : mpk k = false) : ∃ b l, x = .pointer (some ⟨b, off, none⟩) ∧ L k = some l ∧ tot ≤ l ∧ (tot = l → c.φ k = some b) := by
  obtain ⟨b, l, h1, h2⟩ := h.pt_inv
  exact ⟨b, l, h1.trans (ptv_p hm), h2⟩
theorem R.ptP {k off tot l b : Nat} (hm : mpk k = false) (hl : L k = some l) (ht : tot ≤ l) (h : tot = l → c.φ k = some b) : R c L w (.pt k off tot) (.pointer (some ⟨b, off, none⟩)) := by
  rw [← ptv_p hm]; exact .pt hl ht h
theorem R.rf_inv {k off n sz tot : Nat} {x : Value} (h : R c L w (.rf k off n sz tot) x) : (x = .slice none 0 0 ∧ off = 0 ∧ n = 0 ∧ tot = 0 ∧ ∃ l, L k = some l) ∨ ∃ b cap l, x = .slice (some ⟨b, off, none⟩) n cap ∧ L k = some l ∧ tot ≤ l ∧ n ≤ cap ∧ (tot = l → c.φ k = some b ∧ off + cap * sz ≤ c.ph k) := by
  cases h with
  | i h => cases h
  | rf hl ht hn h => exact .inr ⟨_, _, _, rfl, hl, ht, hn, h⟩
  | rf0 hl => exact .inl ⟨rfl, rfl, rfl, rfl, _, hl⟩
theorem R.rf_one {k off n sz tot : Nat} {x : Value} (h : R c L w (.rf k off n sz tot) x) : x.oneCell' = true := by
  rcases h.rf_inv with ⟨rfl, _⟩ | ⟨_, _, _, rfl, _⟩ <;> rfl
theorem R.pt_one {k off tot : Nat} {x : Value} (h : R c L w (.pt k off tot) x) : x.oneCell' = true := by
  obtain ⟨_, _, rfl, _⟩ := h.pt_inv; exact ptv_one
theorem rawL_get : ∀ {cs : List V} {l : List Value}, rawL cs = some l → l.length = cs.length ∧ ∀ i (h : i < cs.length), cs[i] = .s (l.getD i undef)
  | [], l, h => by simp only [rawL, Option.some.injEq] at h; subst h; exact ⟨rfl, fun i hi => absurd hi (by simp)⟩
  | v :: r, l, h => by
    cases v with
    | s y =>
      simp only [rawL] at h
      cases hr : rawL r with
      | none => rw [hr] at h; cases h
      | some l' =>
        rw [hr] at h
        simp only [Option.some.injEq] at h
        subst h
        obtain ⟨h1, h2⟩ := rawL_get hr
        refine ⟨by simp [h1], fun i hi => ?_⟩
        cases i with
        | zero => rfl
        | succ i => simpa using h2 i (by simpa using hi)
    | _ => simp [rawL] at h
theorem R.raw {v : V} {x y : Value} (h : R c L w v x) (hy : v.raw = some y) : x = y := by
  cases v with
  | s z => simp only [V.raw, Option.some.injEq] at hy; subst hy; exact h.s_inv.1
  | ag cs =>
    simp only [V.raw] at hy
    cases hl : rawL cs with
    | none => rw [hl] at hy; cases hy
    | some l =>
      rw [hl] at hy
      simp only [Option.some.injEq] at hy
      subst hy
      obtain ⟨us, rfl, hs, ho, hr⟩ := h.ag_inv
      obtain ⟨h1, h2⟩ := rawL_get hl
      congr 1
      apply Array.ext
      · simp [hs, h1]
      · intro i h3 h4
        have h5 := hr i (by omega)
        rw [h2 i (by omega)] at h5
        have h6 := h5.s_inv.1
        have h7 : i < l.length := by omega
        simp only [Array.getD_eq_getD_getElem?, Array.getElem?_eq_getElem h3, Option.getD_some] at h6
        rw [h6]
        simp [List.getD_eq_getElem?_getD, h7]
  | _ => simp [V.raw] at hy
theorem R.ofV (x : Value) : R c L w (ofV x) x := by
  cases x with
  | agg cs =>
    show R c L w (bif cs.toList.all (·.oneCell') then .ag (cs.toList.map .s) else .un) _
    cases hc : cs.toList.all (·.oneCell') with
    | false => exact .i .un
    | true =>
      show R c L w (.ag (cs.toList.map .s)) _
      rw [List.all_eq_true] at hc
      have hget : ∀ i (hi : i < cs.size), cs.getD i undef = cs[i] := fun i hi => by simp [Array.getD_eq_getD_getElem?, hi]
      refine .ag (by simp) (fun i hi => ?_) (fun i hi => ?_)
      · rw [hget i (by simpa using hi)]
        exact hc _ (by simp)
      · rw [hget i (by simpa using hi)]
        simp only [List.getElem_map, Array.getElem_toList]
        exact .i (.s (hc _ (by simp)))
  | tuple vs => exact .i .un
  | _ => exact .i (.s rfl)
theorem R.cells {v : V} {x : Value} {cs : List V} (h : R c L w v x) (hc : v.cells = some cs) : x.cells.size = cs.length ∧ (∀ i, i < cs.length → (x.cells.getD i undef).oneCell' = true) ∧ ∀ i (h : i < cs.length), R c L w cs[i] (x.cells.getD i undef) := by
  have one : ∀ v : V, R c L w v x → x.oneCell' = true → (∀ us, x ≠ .agg us) → cs = [v] → x.cells.size = cs.length ∧ (∀ i, i < cs.length → (x.cells.getD i undef).oneCell' = true) ∧ ∀ i (h : i < cs.length), R c L w cs[i] (x.cells.getD i undef) := by
    intro v h ho hn e
    subst e
    have hx : x.cells = #[x] := by cases x <;> first | rfl | exact absurd rfl (hn _)
    rw [hx]
    refine ⟨rfl, fun i hi => ?_, fun i hi => ?_⟩
    · have : i = 0 := by simpa using hi
      subst this; simpa using ho
    · have : i = 0 := by simpa using hi
      subst this; simpa using h
  have nag : x.oneCell' = true → ∀ us, x ≠ .agg us := by
    intro ho us e
    subst e
    cases ho
  cases v with
  | s y => simp only [V.cells, Option.some.injEq] at hc; have := h.s_inv; exact one _ h (this.1 ▸ this.2) (nag (this.1 ▸ this.2)) hc.symm
  | pt k o t => simp only [V.cells, Option.some.injEq] at hc; exact one _ h h.pt_one (nag h.pt_one) hc.symm
  | rf k o n z t => simp only [V.cells, Option.some.injEq] at hc; exact one _ h h.rf_one (nag h.rf_one) hc.symm
  | sl t n z l =>
    simp only [V.cells, Option.some.injEq] at hc
    have ho : x.oneCell' = true := by rcases h.sl_inv with ⟨_, _, a, cap, rfl⟩ | ⟨u, b, off, cap, rfl, _⟩ <;> rfl
    exact one _ h ho (nag ho) hc.symm
  | ip t l =>
    simp only [V.cells, Option.some.injEq] at hc
    have ho : x.oneCell' = true := by obtain ⟨u, b, off, rfl, _⟩ := h.ip_inv; rfl
    exact one _ h ho (nag ho) hc.symm
  | fn f a b =>
    simp only [V.cells, Option.some.injEq] at hc
    have ho : x.oneCell' = true := by obtain ⟨fa, ca, rfl, _⟩ := h.fn_inv; rfl
    exact one _ h ho (nag ho) hc.symm
  | ag l =>
    simp only [V.cells, Option.some.injEq] at hc
    subst hc
    obtain ⟨us, rfl, h1, h2, h3⟩ := h.ag_inv
    exact ⟨h1, h2, h3⟩
  | _ => simp [V.cells] at hc
theorem info_of {t : TypeId} {d : TypeDesc} (h : P.underlying t = some d) : ∃ i, P.info? t = some i := by
  unfold Program.underlying at h
  cases hi : P.info? t with
  | none => rw [hi] at h; cases h
  | some i => exact ⟨i, rfl⟩
theorem run_info {t : TypeId} {i : TypeInfo} (h : P.info? t = some i) (w : World) : (typeInfo t).run P w = .ok i w := by
  simp [typeInfo, h]
theorem run_size {t : TypeId} (h : (P.underlying t).isSome = true) (w : World) : (sizeOf t).run P w = .ok (P.cellsOf t) w := by
  obtain ⟨d, hd⟩ := Option.isSome_iff_exists.1 h
  obtain ⟨i, hi⟩ := info_of hd
  simp [sizeOf, run_info hi, Program.cellsOf, hi]
theorem run_agg {t : TypeId} (h : (P.underlying t).isSome = true) (w : World) : (Go.isAgg t).run P w = .ok (isAg P t) w := by
  obtain ⟨d, hd⟩ := Option.isSome_iff_exists.1 h
  unfold Go.isAgg isAg
  rw [Sem.run_bind, run_underlying hd, hd]
  simp only [Result.andThen_ok]
  cases d <;> rfl
theorem run_cells (b off n : Nat) (f : Nat → Value) (h : ∀ j, j < n → w.cell? ⟨b, off + j, none⟩ = some (f j)) : (loadCells ⟨b, off, none⟩ n).run P w = .ok ((List.range n).map f).toArray w :=
  run_loadCells w ⟨b, off, none⟩ n f (fun j hj => by
    have e : (⟨b, off, none⟩ : Addr).add j = ⟨b, off + j, none⟩ := by unfold Addr.add; split <;> simp_all
    rw [e]; exact h j hj)
/-- A load, of one cell or of many. -/
theorem run_load_at {t : TypeId} {cs : List V} {b off : Nat} {u : Nat → Value} (ht : (P.underlying t).isSome = true) (h1 : (isAg P t || Nat.beq (P.cellsOf t) 1) = true) (hl : P.cellsOf t ≤ cs.length)
    (hc : ∀ i, i < cs.length → w.cell? ⟨b, off + i, none⟩ = some (u i)) (ho : ∀ i, i < cs.length → (u i).oneCell' = true) (hr : ∀ i (h : i < cs.length), R c L w cs[i] (u i)) :
    ∃ x, (loadVar t ⟨b, off, none⟩).run P w = .ok x w ∧ R c L w (rdC P t cs) x := by
  unfold loadVar rdC
  simp only [Sem.run_bind, run_agg ht, Result.andThen_ok]
  cases ha : isAg P t with
  | true =>
    simp only [if_true, Sem.run_bind, run_size ht, Result.andThen_ok, cond_true]
    rw [run_cells b off (P.cellsOf t) u (fun j hj => hc j (by omega))]
    have hg : ∀ i, i < P.cellsOf t → (((List.range (P.cellsOf t)).map u).toArray).getD i undef = u i := fun i hi => by
      simp [Array.getD_eq_getD_getElem?, hi]
    refine ⟨_, rfl, .ag (by simp; omega) (fun i hi => ?_) (fun i hi => ?_)⟩
    · have hi' : i < P.cellsOf t := by simp at hi; omega
      rw [hg i hi']; exact ho i (by omega)
    · have hi' : i < P.cellsOf t := by simp at hi; omega
      rw [hg i hi', List.getElem_take]; exact hr i (by omega)
  | false =>
    rw [ha, Bool.false_or] at h1
    have h1 := Nat.eq_of_beq_eq_true h1
    have hp : 0 < cs.length := by omega
    simp only [Bool.false_eq_true, if_false, cond_false]
    have h0 := hc 0 hp
    rw [Nat.add_zero] at h0
    refine ⟨u 0, by rw [run_load, h0], ?_⟩
    have := hr 0 hp
    cases cs with
    | nil => simp at hp
    | cons v r => exact this
end
end Go.Proofs.Ytpjmefdpjlhkhaa.Eng

/- The engine, part 5: rows of cells that are filled and written. -/
namespace Go.Proofs.Ytpjmefdpjlhkhaa.Eng
open Go.RowKit
set_option linter.unusedVariables false
set_option linter.unusedSimpArgs false
section
variable {P : Program} {c : Cx} {L : Nat → Option Nat} {w : World}
/-- Cells and what they hold. -/
structure Cl (c : Cx) (L : Nat → Option Nat) (w : World) (cs : List V) (arr : Array Value) : Prop where
  len : cs.length ≤ arr.size
  one : ∀ i, i < cs.length → (arr.getD i undef).oneCell' = true
  rel : ∀ i (h : i < cs.length), R c L w cs[i] (arr.getD i undef)
theorem Cl.set {cs : List V} {arr : Array Value} (h : Cl c L w cs arr) (i : Nat) {v : V} {x : Value} (ho : x.oneCell' = true) (hr : R c L w v x) : Cl c L w (cs.set i v) (arr.setIfInBounds i x) := by
  have hg : ∀ j, j < arr.size → (arr.setIfInBounds i x).getD j undef = if i = j then x else arr.getD j undef := by
    intro j hj
    simp only [Array.getD_eq_getD_getElem?, Array.getElem?_setIfInBounds]
    by_cases e : i = j
    · subst e; simp [hj]
    · simp [e]
  have hl := h.len
  refine ⟨by simpa using hl, fun j hj => ?_, fun j hj => ?_⟩
  · have hj' : j < cs.length := by simpa using hj
    rw [hg j (by omega)]
    split
    · exact ho
    · exact h.one j hj'
  · have hj' : j < cs.length := by simpa using hj
    rw [hg j (by omega), List.getElem_set]
    split
    · exact hr
    · exact h.rel j hj'
def sta : Array Value → Nat → List Value → Array Value
  | arr, _, [] => arr
  | arr, o, v :: r => sta (arr.setIfInBounds o v) (o + 1) r
theorem sta_size : ∀ (us : List Value) (arr : Array Value) (o : Nat), (sta arr o us).size = arr.size
  | [], _, _ => rfl
  | u :: r, arr, o => by rw [sta, sta_size r]; simp
theorem spl_length : ∀ (vs : List V) (cs : List V) (o : Nat), (spl cs o vs).length = cs.length
  | [], _, _ => rfl
  | u :: r, cs, o => by rw [spl, spl_length r]; simp
theorem Cl.spl : ∀ (vs : List V) (us : List Value) {cs : List V} {arr : Array Value} (o : Nat), Cl c L w cs arr → us.length = vs.length → (∀ i, i < vs.length → (us.getD i undef).oneCell' = true) → (∀ i (h : i < vs.length), R c L w vs[i] (us.getD i undef)) → Cl c L w (Eng.spl cs o vs) (sta arr o us)
  | [], us, cs, arr, o, h, hl, _, _ => by
    have : us = [] := List.eq_nil_of_length_eq_zero (by simpa using hl)
    subst this
    exact h
  | v :: vs, us, cs, arr, o, h, hl, ho, hr => by
    cases us with
    | nil => simp at hl
    | cons u us =>
      refine Cl.spl vs us (o + 1) (h.set o (ho 0 (Nat.zero_lt_succ _)) (hr 0 (Nat.zero_lt_succ _))) (by simpa using hl) (fun i hi => ?_) (fun i hi => ?_)
      · exact ho (i + 1) (Nat.succ_lt_succ hi)
      · exact hr (i + 1) (Nat.succ_lt_succ hi)
theorem sta_zip : ∀ (us : List Value) (arr : Array Value) (o k : Nat), (us.zipIdx k).foldl (fun a (p : Value × Nat) => a.setIfInBounds (o + p.2) p.1) arr = sta arr (o + k) us
  | [], _, _, _ => rfl
  | u :: r, arr, o, k => by
    rw [List.zipIdx_cons, List.foldl_cons, sta_zip r, sta]
    rfl
theorem fill_sound {place : Nat → Option (Nat × Nat)} : ∀ (ps : List (Nat × V)) (qs : List (Nat × Value)) {cs cs' : List V} {arr : Array Value}, Cl c L w cs arr → arr.size = cs.length → qs.length = ps.length → (∀ i (h : i < ps.length) (h' : i < qs.length), qs[i].1 = ps[i].1 ∧ R c L w ps[i].2 qs[i].2) →
    fills place cs ps = some cs' → ∃ arr', Instr.fill place arr qs = some arr' ∧ Cl c L w cs' arr' ∧ arr'.size = cs'.length
  | [], qs, cs, cs', arr, h, hs, hl, _, hf => by
    have : qs = [] := List.eq_nil_of_length_eq_zero (by simpa using hl)
    subst this
    simp only [fills, Option.some.injEq] at hf
    subst hf
    exact ⟨arr, rfl, h, hs⟩
  | (k, v) :: ps, qs, cs, cs', arr, h, hs, hl, hr, hf => by
    cases qs with
    | nil => simp at hl
    | cons q qs =>
      obtain ⟨k', x⟩ := q
      have h0 := hr 0 (by simp) (by simp)
      simp only [List.getElem_cons_zero] at h0
      obtain ⟨e, hx⟩ := h0
      subst e
      simp only [fills] at hf
      cases hp : place k' with
      | none => simp [hp] at hf
      | some os =>
        obtain ⟨off, sz⟩ := os
        cases hv : v.cells with
        | none => simp [hp, hv] at hf
        | some vs =>
          simp only [hp, hv] at hf
          cases hb : (Nat.beq vs.length sz && Nat.ble (off + sz) cs.length) with
          | false => simp [hb] at hf
          | true =>
            simp only [hb, cond_true] at hf
            rw [Bool.and_eq_true] at hb
            have e1 := Nat.eq_of_beq_eq_true hb.1
            have e2 := Nat.le_of_ble_eq_true hb.2
            obtain ⟨h1, h2, h3⟩ := hx.cells hv
            have hus : x.cells.toList.length = vs.length := by simpa using h1
            have hg : ∀ i, x.cells.toList.getD i undef = x.cells.getD i undef := fun i => by simp [List.getD_eq_getElem?_getD, Array.getD_eq_getD_getElem?]
            have hcl := Cl.spl vs x.cells.toList off h hus (fun i hi => by rw [hg]; exact h2 i hi) (fun i hi => by rw [hg]; exact h3 i hi)
            obtain ⟨arr', h4, h5, h6⟩ := fill_sound ps qs hcl (by rw [sta_size, spl_length]; exact hs) (by simpa using hl) (fun i hi hi' => hr (i + 1) (Nat.succ_lt_succ hi) (Nat.succ_lt_succ hi')) hf
            refine ⟨arr', ?_, h5, h6⟩
            unfold Instr.fill
            simp only [hp]
            rw [if_neg (by simp; omega)]
            rw [← h4]
            congr 1
            rw [← Array.foldl_toList, Array.toList_zipIdx]
            exact sta_zip x.cells.toList arr off 0
theorem heap_setCell {b : Nat} {arr : Array Value} {ty : TypeId} {fr : Nat × Nat} (w : World) (o : Nat) (v : Value) (h : w.heap[b]? = some (.cells arr ty fr)) : (w.setCell ⟨b, o, none⟩ v).heap[b]? = some (.cells (arr.setIfInBounds o v) ty fr) := by
  simp only [World.setCell, Array.getElem?_modify, if_true, h, Option.map_some]
  rfl
/-- Cells are stored one behind the other. -/
theorem run_stores {b off : Nat} {ty : TypeId} : ∀ (us : List Value) (i : Nat) (arr : Array Value) (w : World), w.heap[b]? = some (.cells arr ty (0, 0)) → off + i + us.length ≤ arr.size → (∀ u ∈ us, u.oneCell' = true) →
    ∃ w', (storeCells ⟨b, off, none⟩ us i).run P w = .ok () w' ∧ w'.heap[b]? = some (.cells (sta arr (off + i) us) ty (0, 0)) ∧ (∀ k, k ≠ b → w'.heap[k]? = w.heap[k]?) ∧ w'.heap.size = w.heap.size ∧ w'.os = w.os ∧ w'.tape = w.tape ∧ w'.output = w.output
  | [], i, arr, w, h, _, _ => ⟨w, rfl, h, fun _ _ => rfl, rfl, rfl, rfl, rfl⟩
  | u :: r, i, arr, w, h, hl, ho => by
    have hl' : off + i + (r.length + 1) ≤ arr.size := hl
    have e : (⟨b, off, none⟩ : Addr).add i = ⟨b, off + i, none⟩ := by unfold Addr.add; split <;> simp_all
    have hc : w.cell? ⟨b, off + i, none⟩ = some arr[off + i] := by simp [World.cell?, h]
    have hf : w.frozen? ⟨b, off + i, none⟩ = false := by simp [World.frozen?, h]
    obtain ⟨w', h1, h2, h3, h4, h5, h6, h7⟩ := run_stores (off := off) r (i + 1) (arr.setIfInBounds (off + i) u) (w.setCell ⟨b, off + i, none⟩ u) (heap_setCell w (off + i) u h) (by rw [Array.size_setIfInBounds]; omega) (fun x hx => ho x (List.mem_cons_of_mem _ hx))
    refine ⟨w', ?_, h2, fun k hk => (h3 k hk).trans (Below.heap_setCell w _ _ k hk), h4.trans (World.size_setCell ..), h5, h6, h7⟩
    simp only [storeCells, Sem.run_bind, e, run_store P w _ u _ (ho u List.mem_cons_self), hc, hf, Bool.false_eq_true, if_false, Result.andThen_ok]
    exact h1
end
end Go.Proofs.Ytpjmefdpjlhkhaa.Eng

/- The engine, part 6: each operation does what aop tells. -/
namespace Go.Proofs.Ytpjmefdpjlhkhaa.Eng
open Go.RowKit
set_option linter.unusedVariables false
set_option linter.unusedSimpArgs false
section
variable {P : Program} {c : Cx} {h : Nat → Option (List V)} {w : World} {Ow : Nat → Nat → Prop} {key : Nat} {ρ : Operand → V} {σ : Operand → Value} {r : Res}
theorem raw_sound {o : Oper} (hs : Sim c h w Ow) (hv : ∀ x, x ∈ o.op.operands → R c (ln h) w (ρ x) (σ x)) (hr : rawOp P ρ o = some r) : GoesAny P (execOp σ o) c h w Ow r := by
  unfold rawOp at hr
  cases hb : (!isSel o.op && o.op.operands.toList.all fun x => (ρ x).raw.isSome) with
  | false => rw [hb] at hr; cases hr
  | true =>
    rw [hb] at hr
    simp only [cond_true] at hr
    rw [Bool.and_eq_true, List.all_eq_true] at hb
    cases hp : pv P (execOp (fun x => ((ρ x).raw).getD undef) o) with
    | none => simp [hp] at hr
    | some n =>
      cases n with
      | value v =>
        simp only [hp, Option.some.injEq] at hr
        subst hr
        have hc : execOp σ o = execOp (fun x => ((ρ x).raw).getD undef) o := by
          refine execOp_congr o (fun cs b e => ?_) (fun x hx => ?_)
          · rw [e] at hb; simp [isSel] at hb
          · have h1 := hb.2 x (by simpa using hx)
            obtain ⟨y, hy⟩ := Option.isSome_iff_exists.1 h1
            rw [hy]
            exact (hv x hx).raw hy
        refine goes_val hs (x := v) ?_ (R.ofV v)
        rw [hc]
        exact pv_run w hp
      | _ => simp [hp] at hr
theorem mem1 {x : Operand} : x ∈ #[x] := by simp
theorem cl_zeros {t : TypeId} {z : List V} (hz : zeros P t = some z) : ∃ i zv, P.info? t = some i ∧ i.zero = some zv ∧ z = zv.cells.toList.map .s ∧ zv.cells.size = i.size ∧ ∀ (L : Nat → Option Nat), Cl c L w z zv.cells := by
  unfold zeros at hz
  cases hi : P.info? t with
  | none => simp [hi] at hz
  | some i =>
    simp only [hi] at hz
    cases hzv : i.zero with
    | none => simp [hzv] at hz
    | some zv =>
      simp only [hzv] at hz
      cases hb : (Nat.beq zv.cells.size i.size && zv.cells.toList.all (·.oneCell')) with
      | false => rw [hb] at hz; cases hz
      | true =>
        rw [hb] at hz
        simp only [cond_true, Option.some.injEq] at hz
        subst hz
        rw [Bool.and_eq_true, List.all_eq_true] at hb
        have hg : ∀ j (hj : j < zv.cells.size), zv.cells.getD j undef = zv.cells[j] := fun j hj => by simp [Array.getD_eq_getD_getElem?, hj]
        refine ⟨i, zv, rfl, hzv, rfl, Nat.eq_of_beq_eq_true hb.1, fun L => ⟨by simp, fun j hj => ?_, fun j hj => ?_⟩⟩
        · rw [hg j (by simpa using hj)]; exact hb.2 _ (by simp)
        · rw [hg j (by simpa using hj)]
          simp only [List.getElem_map, Array.getElem_toList]
          exact .i (.s (hb.2 _ (by simp)))
theorem new_some {g : Nat → Option (List V)} {v : V} {cs : List V} {ob : List Prop} (hr : new g key v cs ob = some r) : (g key = none ∧ owk key = false ∧ mpk key = false) ∧ r = ⟨v, [key], some (key, cs), ob⟩ := by
  unfold new at hr
  cases hk : g key with
  | none =>
    cases ho : (owk key || mpk key) with
    | true => simp only [hk, ho, cond_true] at hr; cases hr
    | false => simp only [hk, ho, cond_false, Option.some.injEq] at hr; rw [Bool.or_eq_false_iff] at ho; exact ⟨⟨rfl, ho⟩, hr.symm⟩
  | some x => simp [hk] at hr
theorem goes_new' {e : Sem Next} {v : V} {tc : List Nat} {ob : List Prop} {x : Value} {cs : List V} {arr : Array Value} {ty : TypeId} (hs : Sim c h w Ow) (hk : h key = none ∧ owk key = false ∧ mpk key = false)
    (hr : e.run P w = .ok (.value x) (w.alloc (.cells arr ty))) (hcl : Cl c (ln h) w cs arr)
    (hx : (c.set key w.heap.size arr.size).φ key = some w.heap.size → (c.set key w.heap.size arr.size).ph key = arr.size → ln (upd h (some (key, cs))) key = some cs.length → R (c.set key w.heap.size arr.size) (ln (upd h (some (key, cs)))) (w.alloc (.cells arr ty)) v x) : GoesAny P e c h w Ow ⟨v, tc, some (key, cs), ob⟩ :=
  goes_new (arr := arr) (ty := ty) hs hk.1 hr (fun b hb => Below.heap_alloc w _ b hb) (by simp) (by show (w.heap.push _)[_]? = _; simp) ⟨rfl, rfl, rfl⟩ hcl.len hcl.one hcl.rel hx hk.2.1 hk.2.2
theorem alloc_sound {t : TypeId} {o : Oper} (ho : o.op = .alloc t) (hs : Sim c h w Ow) (hr : aop P ρ h key o = some r) : GoesAny P (execOp σ o) c h w Ow r := by
  simp only [aop, ho] at hr
  cases hz : zeros P t with
  | none => simp [hz] at hr
  | some z =>
    simp only [hz] at hr
    obtain ⟨hk, rfl⟩ := new_some hr
    obtain ⟨i, zv, h1, h2, h3, h4, h5⟩ := cl_zeros (c := c) (w := w) hz
    refine goes_new' (x := .pointer (some ⟨w.heap.size, 0, none⟩)) (arr := zv.cells) (ty := t) hs hk ?_ (h5 _) (fun e1 e2 e3 => .ptP hk.2.2 e3 (Nat.le_refl _) (fun _ => e1))
    simp [execOp, ho, Instr.alloc, zeroValue, run_info h1, h2, newVar, newRow]
theorem box_sound {t : TypeId} {x : Operand} {o : Oper} (ho : o.op = .box t x) (hs : Sim c h w Ow) (hv : R c (ln h) w (ρ x) (σ x)) (hr : aop P ρ h key o = some r) : GoesAny P (execOp σ o) c h w Ow r := by
  simp only [aop, ho] at hr
  cases hz : (ρ x).cells with
  | none => simp [hz] at hr
  | some cs =>
    simp only [hz] at hr
    obtain ⟨hk, rfl⟩ := new_some hr
    obtain ⟨h1, h2, h3⟩ := hv.cells hz
    refine goes_new' (x := .pointer (some ⟨w.heap.size, 0, none⟩)) (arr := (σ x).cells) (ty := t) hs hk ?_ ⟨by omega, h2, h3⟩ (fun e1 e2 e3 => .ptP hk.2.2 e3 (Nat.le_refl _) (fun _ => e1))
    simp [execOp, ho, Instr.box, newVar, newRow]
theorem pick_sound {cc a b : Operand} {o : Oper} (ho : o.op = .pick cc a b) (hs : Sim c h w Ow) (h0 : R c (ln h) w (ρ cc) (σ cc)) (h1 : R c (ln h) w (ρ a) (σ a)) (h2 : R c (ln h) w (ρ b) (σ b)) (hr : aop P ρ h key o = some r) : GoesAny P (execOp σ o) c h w Ow r := by
  simp only [aop, ho] at hr
  split at hr
  · rename_i t hc
    simp only [Option.some.injEq] at hr
    subst hr
    rw [hc] at h0
    have e := h0.s_inv.1
    cases t
    · exact goes_val hs (x := σ b) (by simp [execOp, ho, e, asBool]) h2
    · exact goes_val hs (x := σ a) (by simp [execOp, ho, e, asBool]) h1
  · cases hr
theorem fields_sound {t : TypeId} {x : Operand} {f : Nat} {o : Oper} (ho : o.op = .fieldAddr t x f) (hs : Sim c h w Ow) (hv : R c (ln h) w (ρ x) (σ x)) (hr : aop P ρ h key o = some r) : GoesAny P (execOp σ o) c h w Ow r := by
  simp only [aop, ho] at hr
  cases hf : fieldOf? P t f with
  | none => simp [hf] at hr
  | some fd =>
    simp only [hf] at hr
    have hu : ∃ fs : Array Field, P.underlying t = some (.struct fs) ∧ fs[f]? = some fd := by
      unfold fieldOf? at hf
      split at hf
      · rename_i fs hu; exact ⟨fs, hu, hf⟩
      · cases hf
    obtain ⟨fs, hu, hfs⟩ := hu
    cases hb : Nat.beq (P.cellsOf fd.type) 0 with
    | true => simp [hb] at hr
    | false =>
      simp only [hb, Bool.not_false, cond_true] at hr
      have hne : P.cellsOf fd.type ≠ 0 := fun e => by rw [e] at hb; cases hb
      have hsz : ∀ w : World, (sizeOf fd.type).run P w = .ok (P.cellsOf fd.type) w := by
        intro w
        cases hi : P.info? fd.type with
        | none => simp [Program.cellsOf, hi] at hne
        | some i => simp [sizeOf, run_info hi, Program.cellsOf, hi]
      have hadd : ∀ b off, (⟨b, off, none⟩ : Addr).add fd.offset = ⟨b, off + fd.offset, none⟩ := fun b off => by unfold Addr.add; split <;> simp_all
      have run : ∀ b off, σ x = .pointer (some ⟨b, off, none⟩) → (execOp σ o).run P w = .ok (.value (.pointer (some ⟨b, off + fd.offset, none⟩))) w := by
        intro b off e
        simp [execOp, ho, Instr.fieldAt, run_underlying hu, hfs, e, Instr.sureAddr, fieldPlace, hsz, hne, hadd]
      split at hr
      · rename_i k off tot hx
        obtain ⟨hm, hr⟩ := gd hr
        simp only [Option.some.injEq] at hr
        subst hr
        rw [hx] at hv
        obtain ⟨b, l, e, hl, ht, hφ⟩ := hv.pt_invP hm
        exact goes_val hs (run b off e) (.ptP hm hl ht hφ)
      · rename_i tg cs hx
        simp only [Option.some.injEq] at hr
        subst hr
        rw [hx] at hv
        obtain ⟨u, b, off, e, hok, hc, hone, hrel⟩ := hv.ip_inv
        refine goes_val hs (run b off e) (.i (.ip (fun i => u (fd.offset + i)) hok (fun i hi => ?_) (fun i hi => ?_) (fun i hi => ?_)))
        · rw [Nat.add_assoc]; exact hc _ (by simp at hi; omega)
        · exact hone _ (by simp at hi; omega)
        · rw [List.getElem_drop]; exact hrel _ (by simp at hi; omega)
      · cases hr
end
end Go.Proofs.Ytpjmefdpjlhkhaa.Eng

/- The engine, part 7: loads, stores, indexes, cuts, literals. -/
namespace Go.Proofs.Ytpjmefdpjlhkhaa.Eng
open Go.RowKit
set_option linter.unusedVariables false
set_option linter.unusedSimpArgs false
section
variable {P : Program} {c : Cx} {h : Nat → Option (List V)} {w : World} {Ow : Nat → Nat → Prop} {key : Nat} {ρ : Operand → V} {σ : Operand → Value} {r : Res}
theorem ln_some {k : Nat} {cs : List V} (hk : h k = some cs) : ln h k = some cs.length := by simp [ln, hk]
/-- An own row's cells, as a pointer into it finds them. -/
theorem own_cells {k b : Nat} {cs : List V} (hs : Sim c h w Ow) (hm : mpk k = false) (hk : h k = some cs) (hb : c.φ k = some b) (off : Nat) :
    ∃ (u : Nat → Value), (∀ i, i < (cs.drop off).length → w.cell? ⟨b, off + i, none⟩ = some (u i)) ∧ (∀ i, i < (cs.drop off).length → (u i).oneCell' = true) ∧ ∀ i (hi : i < (cs.drop off).length), R c (ln h) w (cs.drop off)[i] (u i) := by
  obtain ⟨b', arr, ty, ho⟩ := (hs.obj k cs hk).resolve_left (fun e => by rw [e.2] at hb; cases hb)
  obtain rfl : b' = b := by have := ho.at_; rw [hb] at this; exact (Option.some.inj this).symm
  have hl := ho.len
  refine ⟨fun i => arr.getD (off + i) undef, fun i hi => ?_, fun i hi => ?_, fun i hi => ?_⟩
  · have : off + i < arr.size := by simp at hi; omega
    simp [World.cell?, ho.blk.cells hm, Array.getD_eq_getD_getElem?, this]
  · exact ho.one _ (by simp at hi; omega)
  · rw [List.getElem_drop]; exact ho.rel _ (by simp at hi; omega)
theorem load_sound {t : TypeId} {x : Operand} {o : Oper} (ho : o.op = .load t x) (hs : Sim c h w Ow) (hv : R c (ln h) w (ρ x) (σ x)) (hr : aop P ρ h key o = some r) (hob : AllP r.ob) : GoesAny P (execOp σ o) c h w Ow r := by
  simp only [aop, ho] at hr
  have run : ∀ b off y, σ x = .pointer (some ⟨b, off, none⟩) → (loadVar t ⟨b, off, none⟩).run P w = .ok y w → (execOp σ o).run P w = .ok (.value y) w := by
    intro b off y e hy
    simp [execOp, ho, Instr.loadAt, e, Instr.sureAddr, hy]
  split at hr
  · rename_i k off tot hx
    obtain ⟨hm, hr⟩ := gd hr
    rw [hx] at hv
    obtain ⟨b, l, e, hl, ht, hφ⟩ := hv.pt_invP hm
    cases hk : h k with
    | none => simp [hk] at hr
    | some cs =>
      simp only [hk] at hr
      cases hb : ((P.underlying t).isSome && (isAg P t || Nat.beq (P.cellsOf t) 1)) with
      | false => rw [hb] at hr; cases hr
      | true =>
        rw [hb] at hr
        simp only [cond_true, Option.some.injEq] at hr
        subst hr
        obtain ⟨h1, h2⟩ := hob
        rw [Bool.and_eq_true] at hb
        rw [ln_some hk] at hl
        injection hl with hl
        obtain ⟨u, hc, ho1, hrel⟩ := own_cells hs hm hk (hφ (by omega)) off
        obtain ⟨y, hy, hR⟩ := run_load_at hb.1 hb.2 (by simp; omega) hc ho1 hrel
        exact goes_val hs (run b off y e hy) hR
  · rename_i tg cs hx
    rw [hx] at hv
    cases hb : ((P.underlying t).isSome && (isAg P t || Nat.beq (P.cellsOf t) 1)) with
    | false => rw [hb] at hr; cases hr
    | true =>
      rw [hb] at hr
      simp only [cond_true, Option.some.injEq] at hr
      subst hr
      rw [Bool.and_eq_true] at hb
      obtain ⟨u, b, off, e, hok, hc, ho1, hrel⟩ := hv.ip_inv
      obtain ⟨y, hy, hR⟩ := run_load_at (L := ln h) hb.1 hb.2 hob hc ho1 (fun i hi => .i (hrel i hi))
      exact goes_val hs (run b off y e hy) hR
  · cases hr
theorem sta_get : ∀ (us : List Value) (arr : Array Value) (o i : Nat), o + us.length ≤ arr.size → (sta arr o us).getD i undef = if o ≤ i ∧ i < o + us.length then us.getD (i - o) undef else arr.getD i undef
  | [], arr, o, i, _ => by
    rw [if_neg (by simp)]; rfl
  | u :: r, arr, o, i, hl => by
    have hl' : o + (r.length + 1) ≤ arr.size := hl
    rw [sta, sta_get r (arr.setIfInBounds o u) (o + 1) i (by rw [Array.size_setIfInBounds]; omega)]
    have hset : (arr.setIfInBounds o u).getD i undef = if o = i then u else arr.getD i undef := by
      simp only [Array.getD_eq_getD_getElem?, Array.getElem?_setIfInBounds]
      by_cases e : o = i
      · subst e
        have : o < arr.size := by omega
        simp [this]
      · simp [e]
    rw [hset]
    by_cases h1 : o = i
    · subst h1
      rw [if_neg (by omega), if_pos rfl, if_pos (by simp), Nat.sub_self]; rfl
    · by_cases h2 : o + 1 ≤ i ∧ i < o + 1 + r.length
      · rw [if_pos h2, if_pos (by simp; omega)]
        obtain ⟨j, rfl⟩ : ∃ j, i = o + 1 + j := ⟨i - (o + 1), by omega⟩
        rw [show o + 1 + j - (o + 1) = j by omega, show o + 1 + j - o = j + 1 by omega]
        rfl
      · rw [if_neg h2, if_neg h1, if_neg (by simp; omega)]
theorem spl_get? : ∀ (vs cs : List V) (o i : Nat), i < o ∨ o + vs.length ≤ i → (spl cs o vs)[i]? = cs[i]?
  | [], _, _, _, _ => rfl
  | v :: r, cs, o, i, h => by
    rw [spl, spl_get? r (cs.set o v) (o + 1) i (by simp only [List.length_cons] at h; omega), List.getElem?_set_ne (by simp only [List.length_cons] at h; omega)]
theorem spl_in : ∀ (vs cs : List V) (o i : Nat), o ≤ i → i < o + vs.length → i < cs.length → (spl cs o vs)[i]? = vs[i - o]?
  | [], _, _, _, h, h2, _ => by simp at h2; omega
  | v :: r, cs, o, i, h, h2, h3 => by
    by_cases e : i = o
    · subst e
      rw [spl, spl_get? r _ _ _ (by omega), List.getElem?_set_self h3, Nat.sub_self]; rfl
    · rw [spl, spl_in r _ (o + 1) i (by omega) (by simp only [List.length_cons] at h2; omega) (by rw [List.length_set]; exact h3), show i - o = (i - (o + 1)) + 1 by omega, List.getElem?_cons_succ]
theorem spl_on {vs cs : List V} {o i n sz : Nat} {ds : List V} (hv : noOn vs = true) (h : (spl cs o vs)[i]? = some (.on n sz ds)) : cs[i]? = some (.on n sz ds) ∧ ¬ (o ≤ i ∧ i < o + vs.length) := by
  by_cases g : o ≤ i ∧ i < o + vs.length
  · by_cases h3 : i < cs.length
    · rw [spl_in vs cs o i g.1 g.2 h3] at h
      exact absurd (List.mem_of_getElem? h) (noOn_mem hv _ _ _)
    · have := (List.getElem?_eq_some_iff.1 h).1
      rw [spl_length] at this
      omega
  · rw [spl_get? vs cs o i (by omega)] at h
    exact ⟨h, g⟩
theorem store_sound {t : TypeId} {x y : Operand} {o : Oper} (ho : o.op = .store t x y) (hs : Sim c h w Ow) (hv : R c (ln h) w (ρ x) (σ x)) (hy : R c (ln h) w (ρ y) (σ y)) (hr : aop P ρ h key o = some r) (hob : AllP r.ob) : GoesAny P (execOp σ o) c h w Ow r := by
  simp only [aop, ho] at hr
  split at hr
  · rename_i k off tot vs hx hc
    obtain ⟨hm, hr⟩ := gd hr
    rw [hx] at hv
    obtain ⟨b, l, e, hl, ht, hφ⟩ := hv.pt_invP hm
    obtain ⟨y1, y2, y3⟩ := hy.cells hc
    cases hk : h k with
    | none => simp [hk] at hr
    | some cs =>
      simp only [hk] at hr
      cases hb : ((P.underlying t).isSome && Nat.beq vs.length (P.cellsOf t) && (!owk k || noOn vs)) with
      | false => rw [hb] at hr; cases hr
      | true =>
        rw [hb] at hr
        simp only [cond_true, Option.some.injEq] at hr
        subst hr
        obtain ⟨h1, h2⟩ := hob
        rw [Bool.and_eq_true, Bool.and_eq_true] at hb
        have hon : owk k = true → noOn vs = true := by
          intro g
          have := hb.2
          rw [g] at this
          simpa using this
        have hb := hb.1
        have hsz := Nat.eq_of_beq_eq_true hb.2
        rw [ln_some hk] at hl
        injection hl with hl
        have hb' := hφ (by omega)
        obtain ⟨b', arr, ty, hO⟩ := (hs.obj k cs hk).resolve_left (fun e => by rw [e.2] at hb'; cases hb')
        obtain rfl : b' = b := by have := hO.at_; rw [hb'] at this; exact (Option.some.inj this).symm
        have hlen := hO.len
        have hus : (σ y).cells.toList.length = vs.length := by simpa using y1
        have hg : ∀ i, (σ y).cells.toList.getD i undef = (σ y).cells.getD i undef := fun i => by simp [List.getD_eq_getElem?_getD, Array.getD_eq_getD_getElem?]
        have hone : ∀ u ∈ (σ y).cells.toList, u.oneCell' = true := by
          intro u hu
          obtain ⟨i, hi, rfl⟩ := List.getElem_of_mem hu
          have := y2 i (by omega)
          rw [← hg i, List.getD_eq_getElem?_getD, List.getElem?_eq_getElem hi] at this
          exact this
        obtain ⟨w', r1, r2, r3, r4, r5, r6, r7⟩ := run_stores (P := P) (b := b') (off := off) (σ y).cells.toList 0 arr w (hO.blk.cells hm) (by omega) hone
        have hcl := Cl.spl vs (σ y).cells.toList off (⟨hO.len, hO.one, hO.rel⟩ : Cl c (ln h) w cs arr) hus (fun i hi => by rw [hg]; exact y2 i hi) (fun i hi => by rw [hg]; exact y3 i hi)
        obtain ⟨g1, g2⟩ := hs.set (k := k) (bn := b') (cs' := spl cs off vs) (w' := w') (arr := sta arr off (σ y).cells.toList) (ty := ty)
          (fun cs0 h0 => by rw [hk] at h0; injection h0 with h0; subst h0; exact ⟨Nat.le_of_eq (spl_length ..).symm, fun _ => ⟨hb', by rw [sta_size]; exact hO.ph.symm⟩⟩)
          (.inr ⟨cs, hk, hb'⟩) (fun j hj _ => r3 j hj) (by omega) (.inl ⟨hm, by simpa using r2⟩) hcl.len hcl.one hcl.rel
          (fun g i n sz ds hi => by
            obtain ⟨q1, q2⟩ := spl_on (hon g) hi
            exact ⟨cs, b', arr, ty, hk, q1, hb', hO.blk.cells hm, by
              rw [sta_get _ _ _ _ (by omega)]
              split
              · rename_i q; exact absurd ⟨q.1, by omega⟩ q2
              · rfl⟩)
        refine ⟨.skip, w', _, ?_, .inr ⟨rfl, rfl⟩, g1, g2, ⟨r5, r6, r7, by omega, fun j hj => r3 j (fun ej => hj k (ej ▸ (hs.own k cs b' hk hb').1))⟩, rfl⟩
        · have hsz' : (σ y).cells.size = P.cellsOf t := by omega
          simp [execOp, ho, Instr.storeAt, e, Instr.sureAddr, storeVar, run_size hb.1, hsz', r1]
  · cases hr
theorem as_int {k : IntKind} {i : Int} (w : World) : (asIntOf (.int k i)).run P w = .ok (k, i) w := rfl
theorem add_at (b off m : Nat) : (⟨b, off, none⟩ : Addr).add m = ⟨b, off + m, none⟩ := by unfold Addr.add; split <;> simp_all
theorem indexAddr_sound {t : TypeId} {x ix : Operand} {o : Oper} (ho : o.op = .indexAddr t x ix) (hs : Sim c h w Ow) (hv : R c (ln h) w (ρ x) (σ x)) (hi : R c (ln h) w (ρ ix) (σ ix)) (hr : aop P ρ h key o = some r) (hob : AllP r.ob) : GoesAny P (execOp σ o) c h w Ow r := by
  simp only [aop, ho] at hr
  split at hr
  · rename_i kd i hix
    rw [hix] at hi
    have ei := hi.s_inv.1
    split at hr
    · rename_i e k off n sz tot hu hx
      obtain ⟨hm, hr⟩ := gd hr
      rw [hx] at hv
      cases hb : (Nat.beq sz (P.cellsOf e) && (P.underlying e).isSome) with
      | false => rw [hb] at hr; cases hr
      | true =>
        rw [hb] at hr
        simp only [cond_true, Option.some.injEq] at hr
        subst hr
        obtain ⟨h1, h2⟩ := hob
        rw [Bool.and_eq_true] at hb
        have hsz := Nat.eq_of_beq_eq_true hb.1
        obtain ⟨b, cap, l, ex, hl, ht, hn, hφ⟩ := hv.rf_inv.resolve_left (fun e => by have := e.2.2.1; omega)
        refine goes_val hs (x := .pointer (some ⟨b, off + i.toNat * sz, none⟩)) ?_ (.ptP hm hl ht (fun e => (hφ e).1))
        simp [execOp, ho, Instr.indexAt, ei, as_int, run_underlying hu, ex, h1, h2, run_size hb.2, add_at, ← hsz]
    · rename_i e tg n sz cs hu hx
      rw [hx] at hv
      cases hb : (Nat.beq sz (P.cellsOf e) && (P.underlying e).isSome) with
      | false => rw [hb] at hr; cases hr
      | true =>
        rw [hb] at hr
        simp only [cond_true, Option.some.injEq] at hr
        subst hr
        obtain ⟨h1, h2⟩ := hob
        rw [Bool.and_eq_true] at hb
        have hsz := Nat.eq_of_beq_eq_true hb.1
        rcases hv.sl_inv with ⟨hn0, _, _⟩ | ⟨u, b, off, cap, ex, hok, hn, hl, hc, ho1, hrel⟩
        · omega
        · refine goes_val hs (x := .pointer (some ⟨b, off + i.toNat * sz, none⟩)) ?_ (.i (.ip (fun j => u (i.toNat * sz + j)) hok (fun j hj => ?_) (fun j hj => ?_) (fun j hj => ?_)))
          · simp [execOp, ho, Instr.indexAt, ei, as_int, run_underlying hu, ex, h1, h2, run_size hb.2, add_at, ← hsz]
          · rw [Nat.add_assoc]; exact hc _ (by simp at hj; omega)
          · exact ho1 _ (by simp at hj; omega)
          · rw [List.getElem_drop]; exact hrel _ (by simp at hj; omega)
    · rename_i n e k off tot hu hx
      obtain ⟨hm, hr⟩ := gd hr
      rw [hx] at hv
      cases hb : (P.underlying e).isSome with
      | false => rw [hb] at hr; cases hr
      | true =>
        rw [hb] at hr
        simp only [cond_true, Option.some.injEq] at hr
        subst hr
        obtain ⟨h1, h2⟩ := hob
        obtain ⟨b, l, ex, hl, ht, hφ⟩ := hv.pt_invP hm
        refine goes_val hs (x := .pointer (some ⟨b, off + i.toNat * P.cellsOf e, none⟩)) ?_ (.ptP hm hl ht hφ)
        simp [execOp, ho, Instr.indexAt, ei, as_int, run_underlying hu, ex, h1, h2, run_size hb, add_at, Instr.sureAddr]
    · cases hr
  · cases hr
theorem extract_sound {x : Operand} {i : Nat} {o : Oper} (ho : o.op = .extract x i) (hs : Sim c h w Ow) (hv : R c (ln h) w (ρ x) (σ x)) (hr : aop P ρ h key o = some r) : GoesAny P (execOp σ o) c h w Ow r := by
  simp only [aop, ho] at hr
  split at hr
  · rename_i vs hx
    rw [hx] at hv
    obtain ⟨us, ex, hsz, hrel⟩ := hv.tp_inv
    split at hr
    · rename_i v hvi
      simp only [Option.some.injEq] at hr
      subst hr
      obtain ⟨hi, rfl⟩ := List.getElem?_eq_some_iff.1 hvi
      refine goes_val hs (x := us.getD i undef) ?_ (hrel i hi)
      have : i < us.size := by omega
      simp [execOp, ho, Instr.extract, ex, this, Array.getD_eq_getD_getElem?]
    · cases hr
  · cases hr
theorem nil_sound {x : Operand} {o : Oper} (ho : o.op = .nilCheck x) (hs : Sim c h w Ow) (hv : R c (ln h) w (ρ x) (σ x)) (hr : aop P ρ h key o = some r) : GoesAny P (execOp σ o) c h w Ow r := by
  simp only [aop, ho] at hr
  split at hr
  · rename_i k off tot hx
    obtain ⟨hm, hr⟩ := gd hr
    simp only [Option.some.injEq] at hr
    subst hr
    rw [hx] at hv
    obtain ⟨b, l, e, hl, ht, hφ⟩ := hv.pt_invP hm
    exact goes_val hs (x := .pointer (some ⟨b, off, none⟩)) (by simp [execOp, ho, e]) (.ptP hm hl ht hφ)
  · rename_i tg cs hx
    simp only [Option.some.injEq] at hr
    subst hr
    rw [hx] at hv
    obtain ⟨u, b, off, e, hok, hc, ho1, hrel⟩ := hv.ip_inv
    exact goes_val hs (x := .pointer (some ⟨b, off, none⟩)) (by simp [execOp, ho, e]) (.i (.ip u hok hc ho1 hrel))
  · cases hr
theorem func_sound {f : Fn} {first caps : Array Operand} {o : Oper} (ho : o.op = .makeFunc f first caps) (hs : Sim c h w Ow) (hv : ∀ x, x ∈ o.op.operands → R c (ln h) w (ρ x) (σ x)) (hr : aop P ρ h key o = some r) : GoesAny P (execOp σ o) c h w Ow r := by
  simp only [aop, ho, Option.some.injEq] at hr
  subst hr
  rw [ho] at hv
  simp only [Op.operands] at hv
  refine goes_val hs (x := .func f (first.map σ) (caps.map σ)) (by simp [execOp, ho, Instr.makeFunc]) (.fn (by simp) (by simp) (fun i hi => ?_) (fun i hi => ?_))
  · have hi' : i < first.size := by simpa using hi
    simp only [List.getElem_map, Array.getElem_toList, Array.getD_eq_getD_getElem?, Array.getElem?_map, Array.getElem?_eq_getElem hi', Option.map_some, Option.getD_some]
    exact hv _ (by simp)
  · have hi' : i < caps.size := by simpa using hi
    simp only [List.getElem_map, Array.getElem_toList, Array.getD_eq_getD_getElem?, Array.getElem?_map, Array.getElem?_eq_getElem hi', Option.map_some, Option.getD_some]
    exact hv _ (by simp)
theorem len_sound {o : Oper} {ts : Array TypeId} {args : Array Operand} (ho : o.op = .call { callee := .builtin .len, args := args, argTypes := ts }) (hs : Sim c h w Ow) (hv : ∀ x, x ∈ o.op.operands → R c (ln h) w (ρ x) (σ x)) (hr : aop P ρ h key o = some r) : GoesAny P (execOp σ o) c h w Ow r := by
  simp only [aop, ho] at hr
  split at hr
  · rename_i x t ha ht
    have ha' : args = #[x] := by apply Array.ext'; simpa using ha
    have ht' : ts = #[t] := by apply Array.ext'; simpa using ht
    subst ha' ht'
    have hx := hv x (by rw [ho]; simp [Op.operands, Call.operands])
    split at hr
    · rename_i s hu e1
      simp only [Option.some.injEq] at hr
      subst hr
      rw [e1] at hx
      have e2 := hx.s_inv.1
      exact goes_val hs (x := .int .i64 (s.size : Int)) (by simp [execOp, ho, resolve, invoke, builtin, Builtin.len_, run_underlying hu, e2, goInt]) (.i (.s rfl))
    · rename_i e hu
      cases hl : lenS (ρ x) with
      | none => simp [hl] at hr
      | some n =>
        simp only [hl, Option.some.injEq] at hr
        subst hr
        have : ∃ a cap, σ x = .slice a n cap := by
          unfold lenS at hl
          split at hl
          · rename_i tg m sz cs e1
            injection hl with hl; subst hl; rw [e1] at hx
            rcases hx.sl_inv with ⟨h0, _, a, cap, e2⟩ | ⟨u, b, off, cap, e2, _⟩
            · exact ⟨a, cap, by rw [h0]; exact e2⟩
            · exact ⟨_, _, e2⟩
          · rename_i k off m sz tot e1
            injection hl with hl; subst hl; rw [e1] at hx
            rcases hx.rf_inv with ⟨e2, _, n0, _⟩ | ⟨b, cap, l, e2, _⟩
            · rw [n0]; exact ⟨_, _, e2⟩
            · exact ⟨_, _, e2⟩
          · rename_i e1
            injection hl with hl; subst hl; rw [e1] at hx
            exact ⟨_, _, hx.s_inv.1⟩
          · cases hl
        obtain ⟨a, cap, e2⟩ := this
        exact goes_val hs (x := .int .i64 (n : Int)) (by simp [execOp, ho, resolve, invoke, builtin, Builtin.len_, run_underlying hu, e2, goInt]) (.i (.s rfl))
    · cases hr
  · cases hr
end
end Go.Proofs.Ytpjmefdpjlhkhaa.Eng

