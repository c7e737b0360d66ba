/- The engine: a checked abstract machine for the functions of the program (5 of 5). -/
import Derived.Deep.Draws
import Derived.Deep.Slices
import Derived.ChangeSame
import Derived.ChangeArms
import Derived.Test.YtpjmefdpjlhkhaaE4
/- The engine, part 21: rows of typed elements as rows of cells; what the printed proofs use. -/
namespace Go.Proofs.Ytpjmefdpjlhkhaa.Eng
open Go.RowKit
set_option linter.unusedVariables false
set_option linter.unusedSimpArgs false
abbrev I (n : Int) : V := .s (.int .i64 n)
abbrev U (n : Int) : V := .s (.int .u8 n)
abbrev B (b : Bool) : V := .s (.bool b)
abbrev S (s : ByteArray) : V := .s (.string s)
abbrev nilS : V := .s (.slice none 0 0)
theorem aln : AllP [] := trivial
theorem alc {p : Prop} {r : List Prop} (h : p) (h2 : AllP r) : AllP (p :: r) := by
  cases r with
  | nil => exact h
  | cons q r => exact ⟨h, h2⟩
/-- An element by its place (whatever stands there where there is none). -/
def at_ {α : Type} [Inhabited α] (xs : List α) (i : Int) : α := xs.getD i.toNat default
def bt (s : ByteArray) (i : Int) : Int := if h : i.toNat < s.size then ((s[i.toNat]'h).toNat : Int) else 0
def sEq (a b : ByteArray) : Bool := a.toList == b.toList
def bAnd (a b : Int) : Int := IntKind.i64.wrap ((BitVec.ofInt 64 a &&& BitVec.ofInt 64 b).toNat : Nat)
def bOr (a b : Int) : Int := IntKind.i64.wrap ((BitVec.ofInt 64 a ||| BitVec.ofInt 64 b).toNat : Nat)
def bXor (a b : Int) : Int := IntKind.i64.wrap ((BitVec.ofInt 64 a ^^^ BitVec.ofInt 64 b).toNat : Nat)
def encI (n : Int) : List V := [I n]
def encU (n : Int) : List V := [U n]
def encB (b : Bool) : List V := [B b]
def encS (s : ByteArray) : List V := [S s]
/-- A type's elements as cells: so many each, all without own rows. -/
structure Enc {α : Type} (enc : α → List V) (sz : Nat) : Prop where
  len : ∀ x, (enc x).length = sz
  self : ∀ x v, v ∈ enc x → ∀ (H : Nat → Option (List V)) (tb : Bool) (bor : List Nat), Frz H tb bor v v
  cln : ∀ x v, v ∈ enc x → Cln true v
theorem encI_ok : Enc encI 1 := ⟨fun _ => rfl, fun x v h H tb bor => by simp [encI] at h; subst h; exact .s, fun x v h => by simp [encI] at h; subst h; exact .s⟩
theorem encU_ok : Enc encU 1 := ⟨fun _ => rfl, fun x v h H tb bor => by simp [encU] at h; subst h; exact .s, fun x v h => by simp [encU] at h; subst h; exact .s⟩
theorem encB_ok : Enc encB 1 := ⟨fun _ => rfl, fun x v h H tb bor => by simp [encB] at h; subst h; exact .s, fun x v h => by simp [encB] at h; subst h; exact .s⟩
theorem encS_ok : Enc encS 1 := ⟨fun _ => rfl, fun x v h H tb bor => by simp [encS] at h; subst h; exact .s, fun x v h => by simp [encS] at h; subst h; exact .s⟩
section
variable {α : Type} {enc : α → List V} {sz : Nat}
theorem row_len (he : Enc enc sz) (xs : List α) : (xs.flatMap enc).length = xs.length * sz := by
  induction xs with
  | nil => simp
  | cons x r ih => simp only [List.flatMap_cons, List.length_append, he.len, ih, List.length_cons, Nat.succ_mul]; omega
theorem row_drop (he : Enc enc sz) : ∀ (xs : List α) (i : Nat), i ≤ xs.length → (xs.flatMap enc).drop (i * sz) = (xs.drop i).flatMap enc
  | xs, 0, _ => by simp
  | [], i + 1, h => absurd h (by simp)
  | x :: r, i + 1, h => by
    rw [List.flatMap_cons, Nat.succ_mul, Nat.add_comm, ← List.drop_drop, List.drop_left' (he.len x), List.drop_succ_cons]
    exact row_drop he r i (Nat.le_of_succ_le_succ h)
theorem row_take (he : Enc enc sz) : ∀ (xs : List α) (i : Nat), (xs.flatMap enc).take (i * sz) = (xs.take i).flatMap enc
  | xs, 0 => by simp
  | [], i + 1 => by simp
  | x :: r, i + 1 => by
    rw [List.flatMap_cons, Nat.succ_mul, Nat.add_comm, List.take_succ_cons, List.flatMap_cons, ← row_take he r i]
    rw [List.take_append, he.len, List.take_of_length_le (by rw [he.len]; omega), show sz + i * sz - sz = i * sz by omega]
theorem row_at [Inhabited α] (he : Enc enc sz) {xs : List α} {i : Int} (h0 : 0 ≤ i) (h1 : i < (xs.length : Int)) : ∃ rest, (xs.flatMap enc).drop (i.toNat * sz) = enc (at_ xs i) ++ rest := by
  have hi : i.toNat < xs.length := by omega
  rw [row_drop he xs i.toNat (by omega)]
  have : xs.drop i.toNat = at_ xs i :: xs.drop (i.toNat + 1) := by
    rw [List.drop_eq_getElem_cons hi]
    congr 1
    simp [at_, List.getD_eq_getElem?_getD, hi]
  rw [this, List.flatMap_cons]
  exact ⟨_, rfl⟩
section
variable {P : Program} {t : TypeId} [Inhabited α] {xs : List α} {i : Int}
/-- A whole element is read. -/
theorem ldA (he : Enc enc sz) (ha : isAg P t = true) (hc : P.cellsOf t = sz) (h0 : 0 ≤ i) (h1 : i < (xs.length : Int)) : rdC P t ((xs.flatMap enc).drop (i.toNat * sz)) = .ag (enc (at_ xs i)) := by
  obtain ⟨rest, h⟩ := row_at he h0 h1
  unfold rdC
  rw [h, ha, hc, cond_true, List.take_left' (he.len _)]
theorem ldA0 (he : Enc enc sz) (ha : isAg P t = true) (hc : P.cellsOf t = sz) (h0 : 0 ≤ i) (h1 : i < (xs.length : Int)) : rdC P t ((xs.flatMap enc).drop (0 + i.toNat * sz)) = .ag (enc (at_ xs i)) := by
  rw [Nat.zero_add]; exact ldA he ha hc h0 h1
/-- One cell of an element is read. -/
theorem ldC (he : Enc enc sz) (j : Nat) (hj : j < sz) (ha : isAg P t = false) (h0 : 0 ≤ i) (h1 : i < (xs.length : Int)) : rdC P t (((xs.flatMap enc).drop (i.toNat * sz)).drop j) = ((enc (at_ xs i)).drop j).headD .un := by
  obtain ⟨rest, h⟩ := row_at he h0 h1
  unfold rdC
  rw [h, ha, cond_false, List.drop_append_of_le_length (by rw [he.len]; omega)]
  cases hd : (enc (at_ xs i)).drop j with
  | nil => have := congrArg List.length hd; rw [List.length_drop, he.len] at this; simp at this; omega
  | cons v r => rfl
theorem ldC1 (he : Enc enc 1) (ha : isAg P t = false) (h0 : 0 ≤ i) (h1 : i < (xs.length : Int)) : rdC P t ((xs.flatMap enc).drop (i.toNat * 1)) = (enc (at_ xs i)).headD .un := by
  have := ldC (P := P) (t := t) he 0 (by omega) ha h0 h1
  simpa using this
theorem ldC0 (he : Enc enc sz) (j : Nat) (hj : j < sz) (ha : isAg P t = false) (h0 : 0 ≤ i) (h1 : i < (xs.length : Int)) : rdC P t ((xs.flatMap enc).drop (0 + i.toNat * sz + j)) = ((enc (at_ xs i)).drop j).headD .un := by
  rw [Nat.zero_add, ← List.drop_drop]; exact ldC he j hj ha h0 h1
theorem ldC01 (he : Enc enc 1) (ha : isAg P t = false) (h0 : 0 ≤ i) (h1 : i < (xs.length : Int)) : rdC P t ((xs.flatMap enc).drop (0 + i.toNat * 1)) = (enc (at_ xs i)).headD .un := by
  rw [Nat.zero_add]; exact ldC1 he ha h0 h1
end
theorem spl_app : ∀ (vs a b : List V) (o : Nat), o + vs.length ≤ a.length → spl (a ++ b) o vs = spl a o vs ++ b
  | [], a, b, o, _ => rfl
  | v :: r, a, b, o, h => by
    have h' : o + (r.length + 1) ≤ a.length := h
    rw [spl, spl, List.set_append_left _ _ (by omega), spl_app r _ b _ (by simp; omega)]
theorem spl_pre : ∀ (vs a b : List V) (o : Nat), spl (a ++ b) (a.length + o) vs = a ++ spl b o vs
  | [], a, b, o => rfl
  | v :: r, a, b, o => by
    rw [spl, spl, List.set_append_right _ _ (by omega), show a.length + o - a.length = o by omega]
    have := spl_pre r a (b.set o v) (o + 1)
    rw [show a.length + (o + 1) = a.length + o + 1 by omega] at this
    exact this
/-- Cells of an element are written. -/
theorem st_row [Inhabited α] (he : Enc enc sz) {xs : List α} {i : Int} {x' : α} {vs : List V} (j : Nat) (h0 : 0 ≤ i) (h1 : i < (xs.length : Int)) (hj : j + vs.length ≤ sz) (hx : spl (enc (at_ xs i)) j vs = enc x') :
    spl (xs.flatMap enc) (0 + i.toNat * sz + j) vs = (xs.set i.toNat x').flatMap enc := by
  have hi : i.toNat < xs.length := by omega
  have e1 : xs = xs.take i.toNat ++ at_ xs i :: xs.drop (i.toNat + 1) := by
    have : at_ xs i :: xs.drop (i.toNat + 1) = xs.drop i.toNat := by
      rw [List.drop_eq_getElem_cons hi]
      congr 1
      simp [at_, List.getD_eq_getElem?_getD, hi]
    rw [this, List.take_append_drop]
  have e2 : xs.set i.toNat x' = xs.take i.toNat ++ x' :: xs.drop (i.toNat + 1) := by
    rw [List.set_eq_take_append_cons_drop, if_pos hi]
  have hl : ((xs.take i.toNat).flatMap enc).length = i.toNat * sz := by rw [row_len he, List.length_take, Nat.min_eq_left (by omega)]
  rw [e2, List.flatMap_append, List.flatMap_cons, ← hx, Nat.zero_add]
  conv => lhs; rw [e1]
  rw [List.flatMap_append, List.flatMap_cons, ← hl, spl_pre, spl_app _ _ _ _ (by rw [he.len]; exact hj)]
theorem st_row1 [Inhabited α] (he : Enc enc 1) {xs : List α} {i : Int} {x' : α} (h0 : 0 ≤ i) (h1 : i < (xs.length : Int)) (v : V) (hx : enc x' = [v]) :
    spl (xs.flatMap enc) (0 + i.toNat * 1) [v] = (xs.set i.toNat x').flatMap enc := by
  have hl := he.len (at_ xs i)
  have := st_row he (x' := x') (vs := [v]) 0 h0 h1 (by simp) (by
    rw [hx]
    match h : enc (at_ xs i), hl with
    | [u], _ => simp [spl])
  simpa using this
theorem row_app (xs : List α) (x : α) : (xs ++ [x]).flatMap enc = xs.flatMap enc ++ enc x := by simp
theorem row_rept1 {x : α} {v : V} (h : enc x = [v]) (n : Nat) : rept n [v] = (List.replicate n x).flatMap enc := by
  show List.replicate n v = _
  induction n with
  | zero => rfl
  | succ n ih => rw [List.replicate_succ, List.replicate_succ, List.flatMap_cons, h, ← ih]; rfl
theorem row_rept {x : α} (h : (enc x).length ≠ 1) (n : Nat) : rept n (enc x) = (List.replicate n x).flatMap enc := by
  have e : rept n (enc x) = (List.replicate n (enc x)).flatten := by
    unfold rept
    split
    · rename_i v hv; rw [hv] at h; exact absurd rfl h
    · rfl
  rw [e, ← List.map_replicate, List.flatMap_def]
/-- A row as it stands is a row that nobody writes. -/
theorem frz_row (he : Enc enc sz) (xs : List α) (H : Nat → Option (List V)) (tb : Bool) (bor : List Nat) (i : Nat) (h : i < (xs.flatMap enc).length) : Frz H tb bor (xs.flatMap enc)[i] (xs.flatMap enc)[i] := by
  have hm := List.getElem_mem h
  obtain ⟨x, hx, hv⟩ := List.mem_flatMap.1 hm
  exact he.self x _ hv H tb bor
theorem frz_sl (he : Enc enc sz) {xs : List α} {H : Nat → Option (List V)} {tb t t' : Bool} {bor : List Nat} {n : Nat} (ht : t = true → t' = true) : Frz H tb bor (.sl t n sz (xs.flatMap enc)) (.sl t' n sz (xs.flatMap enc)) :=
  .sl rfl ht (fun i h h' => frz_row he xs H tb bor i h)
/-- A row is lent, or told as one that nobody writes any more. -/
theorem frz_rf (he : Enc enc sz) {xs : List α} {H : Nat → Option (List V)} {tb : Bool} {bor : List Nat} {k n tot : Nat} (hk : k ∈ bor) (hH : H k = some (xs.flatMap enc)) (hn : n = xs.length) (ht : tot = (xs.flatMap enc).length) (hm : mpk k = false := by rfl) : Frz H tb bor (.rf k 0 n sz tot) (.sl tb n sz (xs.flatMap enc)) := by
  have hl := row_len he xs
  refine .rf hm hk hH ht (by rw [hn, hl]; omega) (by rw [hn, hl]) (fun i h h' => ?_)
  have : (xs.flatMap enc)[0 + i] = (xs.flatMap enc)[i] := by congr 1; omega
  rw [this]
  exact frz_row he xs H tb bor i h'
theorem cln_sl (he : Enc enc sz) {xs : List α} {n : Nat} {t : Bool} : Cln true (.sl t n sz (xs.flatMap enc)) :=
  .sl (fun _ => rfl) (fun v hv => by obtain ⟨x, hx, h⟩ := List.mem_flatMap.1 hv; exact he.cln x v h)
end
/-- Pairs of values, one by one. -/
def All2 (r : V → V → Prop) : List V → List V → Prop
  | [], [] => True
  | a :: as, b :: bs => r a b ∧ All2 r as bs
  | _, _ => False
theorem All2.len {r : V → V → Prop} : ∀ {a b : List V}, All2 r a b → b.length = a.length
  | [], [], _ => rfl
  | _ :: as, _ :: bs, h => by simp [All2.len h.2]
theorem All2.at_ {r : V → V → Prop} : ∀ {a b : List V}, All2 r a b → ∀ i (h : i < a.length) (h' : i < b.length), r a[i] b[i]
  | _ :: as, _ :: bs, h, 0, _, _ => h.1
  | _ :: as, _ :: bs, h, i + 1, h1, h2 => All2.at_ h.2 i (Nat.lt_of_succ_lt_succ h1) (Nat.lt_of_succ_lt_succ h2)
theorem a2n {r : V → V → Prop} : All2 r [] [] := trivial
theorem a2c {r : V → V → Prop} {a b : V} {as bs : List V} (h : r a b) (h2 : All2 r as bs) : All2 r (a :: as) (b :: bs) := ⟨h, h2⟩
theorem frz_ag {H : Nat → Option (List V)} {tb : Bool} {bor : List Nat} {cs cs' : List V} (h : All2 (Frz H tb bor) cs cs') : Frz H tb bor (.ag cs) (.ag cs') := .ag h.len h.at_
theorem cnv_ag {H : Nat → Option (List V)} {tb : Bool} {bor : List Nat} {km : List (Nat × Nat)} {cs cs' : List V} (h : All2 (Cnv H tb bor km) cs cs') : Cnv H tb bor km (.ag cs) (.ag cs') := .ag h.len h.at_
theorem cnv_tp {H : Nat → Option (List V)} {tb : Bool} {bor : List Nat} {km : List (Nat × Nat)} {cs cs' : List V} (h : All2 (Cnv H tb bor km) cs cs') : Cnv H tb bor km (.tp cs) (.tp cs') := .tp h.len h.at_
theorem cnv_fn {H : Nat → Option (List V)} {tb : Bool} {bor : List Nat} {km : List (Nat × Nat)} {f : Fn} {a a' c c' : List V} (h : All2 (Cnv H tb bor km) a a') (h2 : All2 (Cnv H tb bor km) c c') : Cnv H tb bor km (.fn f a c) (.fn f a' c') := .fn h.len h2.len h.at_ h2.at_
/-- A call that is handed no rows to write, and hands none back. -/
theorem cok0 {H : Nat → Option (List V)} {A args : List V} {f : FuncId} {res v : V} {bor : List Nat} (b : Bool) (ha : All2 (Cnv H true bor []) A args) (hr : Bck b [] res v) (hb : b = true → bor = []) : COK H A ⟨f, args, [], res, [], bor, [], [], v, []⟩ where
  alen := ha.len
  args := ha.at_
  dom := fun k k' h => by cases h
  hpd := fun k cs h => by cases h
  apart := fun k k' h => by cases h
  up := fun p h => by cases h
  new := fun k k' h => by cases h
  inj1 := fun k a b h => by cases h
  inj2 := fun k a b h => by cases h
  res := ⟨b, hb, hr, fun k k' h => by cases h⟩
  post := fun k cs h => by cases h
  cls := fun k k' h => by cases h
/-- A value whose own rows are all among ks. -/
def kin (ks : List Nat) : V → Bool
  | .pt k _ _ => ks.any (Nat.beq k)
  | .rf k _ _ _ _ => ks.any (Nat.beq k)
  | .s _ => true
  | .un => true
  | .sl _ _ _ _ => true
  | .ip _ _ => true
  | _ => false
end Go.Proofs.Ytpjmefdpjlhkhaa.Eng

/- The engine, part 22: what the printed proofs use, 2. -/
namespace Go.Proofs.Ytpjmefdpjlhkhaa.Eng
open Go.RowKit
set_option linter.unusedVariables false
set_option linter.unusedSimpArgs false
def mx (x y : Int) : Int := if y > x then y else x
def mn (x y : Int) : Int := if y < x then y else x
theorem negI (x : Int) : (I (IntKind.i64.wrap (0 - x)) : V) = I (wrap64 (-x)) := by rw [i64w, Int.zero_sub]
-- truth values
theorem bT {a : Bool} (h : a = true) : B a = B true := by rw [h]
theorem bF {a : Bool} (h : a = false) : B a = B false := by rw [h]
theorem dT {p : Prop} [Decidable p] (h : p) : decide p = true := decide_eq_true h
theorem dF {p : Prop} [Decidable p] (h : ¬ p) : decide p = false := decide_eq_false h
theorem qT {a b : Int} (h : a = b) : (a == b) = true := by simp [h]
theorem qF {a b : Int} (h : ¬ a = b) : (a == b) = false := by simp [h]
theorem vF {a : Bool} (h : ¬ a = true) : a = false := by simpa using h
theorem nT {a : Bool} (h : a = false) : (!a) = true := by rw [h]; rfl
theorem nF {a : Bool} (h : a = true) : (!a) = false := by rw [h]; rfl
-- rows
section
variable {α : Type} {enc : α → List V} {sz : Nat} {xs ys : List α} {i : Int} {m j n k : Nat}
theorem okA (he : Enc enc sz) (h0 : 0 ≤ i) (h1 : i < (xs.length : Int)) (hj : j + m ≤ sz) : xs.length * sz = (xs.flatMap enc).length ∧ 0 + i.toNat * sz + j + m ≤ (xs.flatMap enc).length := by
  rw [row_len he]
  have : (i.toNat + 1) * sz ≤ xs.length * sz := Nat.mul_le_mul_right _ (by omega)
  rw [Nat.succ_mul] at this
  exact ⟨rfl, by omega⟩
theorem okA0 (he : Enc enc sz) (h0 : 0 ≤ i) (h1 : i < (xs.length : Int)) (hj : m ≤ sz) : xs.length * sz = (xs.flatMap enc).length ∧ 0 + i.toNat * sz + m ≤ (xs.flatMap enc).length := okA (j := 0) he h0 h1 (by omega)
theorem okL {b : List α} {Q : Prop} {L : Nat} (hl : b.length = xs.length) (h : xs.length * sz = L ∧ Q) : b.length * sz = L ∧ Q := by rw [hl]; exact h
theorem okI (he : Enc enc sz) (h0 : 0 ≤ i) (h1 : i < (xs.length : Int)) (hj : m ≤ sz) : m ≤ ((xs.flatMap enc).drop (i.toNat * sz)).length := by
  have := (okA0 he h0 h1 hj).2
  rw [List.length_drop]; omega
theorem okIj (he : Enc enc sz) (h0 : 0 ≤ i) (h1 : i < (xs.length : Int)) (hj : j + m ≤ sz) : m ≤ (((xs.flatMap enc).drop (i.toNat * sz)).drop j).length := by
  have := (okA (j := j) (m := m) he h0 h1 hj).2
  rw [List.length_drop, List.length_drop]; omega
theorem apV (hn : n = ys.length) : V.rf k 0 (xs.length + n) sz (xs.length * sz + n * sz) = .rf k 0 (xs ++ ys).length sz ((xs ++ ys).length * sz) := by
  rw [List.length_append, ← hn, Nat.add_mul]
theorem apV0 (hn : n = ys.length) : V.rf k 0 n sz (n * sz) = .rf k 0 ys.length sz (ys.length * sz) := by rw [hn]
theorem tkR (he : Enc enc sz) (hn : n = ys.length) : ((ys.flatMap enc).drop 0).take (n * sz) = ys.flatMap enc := by
  rw [List.drop_zero, hn, ← row_len he, List.take_length]
theorem apR (he : Enc enc sz) (hn : n = ys.length) : xs.flatMap enc ++ ((ys.flatMap enc).drop 0).take (n * sz) = (xs ++ ys).flatMap enc := by
  rw [tkR he hn, List.flatMap_append]
theorem apS : xs.flatMap enc ++ ys.flatMap enc = (xs ++ ys).flatMap enc := by rw [List.flatMap_append]
theorem apO (he : Enc enc sz) (hn : n = ys.length) (hb : (xs.length + n) * m ≤ 70368744177664) {tot : Nat} (ht : tot = ys.length * sz) : (tot = (ys.flatMap enc).length ∧ 0 + n * sz ≤ (ys.flatMap enc).length) ∧ xs.length * sz = (xs.flatMap enc).length ∧ xs.length * sz = (xs.flatMap enc).length ∧ (xs.length + n) * m ≤ 70368744177664 := by
  rw [row_len he, row_len he, hn, ht]; subst hn; exact ⟨⟨rfl, by omega⟩, rfl, rfl, hb⟩
theorem apOS (he : Enc enc sz) (hb : (xs.length + n) * m ≤ 70368744177664) : True ∧ xs.length * sz = (xs.flatMap enc).length ∧ xs.length * sz = (xs.flatMap enc).length ∧ (xs.length + n) * m ≤ 70368744177664 := by
  rw [row_len he]; exact ⟨trivial, rfl, rfl, hb⟩
theorem apO0 (he : Enc enc sz) (hn : n = ys.length) (hb : n * m ≤ 70368744177664) {tot : Nat} (ht : tot = ys.length * sz) : (tot = (ys.flatMap enc).length ∧ 0 + n * sz ≤ (ys.flatMap enc).length) ∧ n * m ≤ 70368744177664 := by
  rw [row_len he, hn, ht]; subst hn; exact ⟨⟨rfl, by omega⟩, hb⟩
theorem apV1 {x : α} : V.rf k 0 (xs.length + 1) sz (xs.length * sz + 1 * sz) = .rf k 0 (xs ++ [x]).length sz ((xs ++ [x]).length * sz) := by rw [List.length_append, List.length_singleton, Nat.add_mul]
theorem mkV {x : α} : V.rf k 0 n sz (n * sz) = .rf k 0 (List.replicate n x).length sz ((List.replicate n x).length * sz) := by rw [List.length_replicate]
theorem slS (he : Enc enc sz) {l h : Nat} (hl : l ≤ h) (hh : h ≤ xs.length) {t : Bool} : V.sl t (h - l) sz (((xs.flatMap enc).drop (l * sz)).take ((h - l) * sz)) = .sl t ((xs.drop l).take (h - l)).length sz (((xs.drop l).take (h - l)).flatMap enc) := by
  rw [row_drop he _ _ (by omega), row_take he, List.length_take, List.length_drop, Nat.min_eq_left (by omega)]
theorem setV {x : α} {i : Nat} : V.rf k 0 xs.length sz (xs.length * sz) = .rf k 0 (xs.set i x).length sz ((xs.set i x).length * sz) := by rw [List.length_set]
end
theorem ls {α : Type} {xs : List α} {i : Int} {n : Nat} {v : α} (h : i < (xs.length : Int)) : i < ((xs.set n v).length : Int) := by rw [List.length_set]; exact h
theorem at_set {α : Type} [Inhabited α] {xs : List α} {i : Int} {e : α} (h0 : 0 ≤ i) (h1 : i < (xs.length : Int)) : at_ (xs.set i.toNat e) i = e := by
  have h : i.toNat < xs.length := by omega
  simp [at_, List.getD_eq_getElem?_getD, h]
section
variable {α : Type} {enc : α → List V} {sz : Nat} [Inhabited α] {xs : List α} {i : Int} {e : α} {P : Program} {t : TypeId}
theorem st_row2 (he : Enc enc sz) {x' : α} {vs : List V} (j : Nat) (h0 : 0 ≤ i) (h1 : i < (xs.length : Int)) (hj : j + vs.length ≤ sz) (hx : spl (enc e) j vs = enc x') :
    spl ((xs.set i.toNat e).flatMap enc) (0 + i.toNat * sz + j) vs = (xs.set i.toNat x').flatMap enc := by
  have := st_row he (xs := xs.set i.toNat e) (x' := x') j h0 (ls h1) hj (by rw [at_set h0 h1]; exact hx)
  rw [List.set_set] at this
  exact this
theorem ldA0s (he : Enc enc sz) (ha : isAg P t = true) (hc : P.cellsOf t = sz) (h0 : 0 ≤ i) (h1 : i < (xs.length : Int)) : rdC P t (((xs.set i.toNat e).flatMap enc).drop (0 + i.toNat * sz)) = .ag (enc e) := by
  have := ldA0 (P := P) (t := t) (xs := xs.set i.toNat e) he ha hc h0 (ls h1)
  rw [at_set h0 h1] at this; exact this
theorem ldC0s (he : Enc enc sz) (j : Nat) (hj : j < sz) (ha : isAg P t = false) (h0 : 0 ≤ i) (h1 : i < (xs.length : Int)) : rdC P t (((xs.set i.toNat e).flatMap enc).drop (0 + i.toNat * sz + j)) = ((enc e).drop j).headD .un := by
  have := ldC0 (P := P) (t := t) (xs := xs.set i.toNat e) he j hj ha h0 (ls h1)
  rw [at_set h0 h1] at this; exact this
theorem ldC01s (he : Enc enc 1) (ha : isAg P t = false) (h0 : 0 ≤ i) (h1 : i < (xs.length : Int)) : rdC P t (((xs.set i.toNat e).flatMap enc).drop (0 + i.toNat * 1)) = (enc e).headD .un := by
  have := ldC01 (P := P) (t := t) (xs := xs.set i.toNat e) he ha h0 (ls h1)
  rw [at_set h0 h1] at this; exact this
end
-- all of two rows
theorem All2.refl {r : V → V → Prop} : ∀ {a : List V}, (∀ v, v ∈ a → r v v) → All2 r a a
  | [], _ => trivial
  | v :: a, h => ⟨h v (by simp), All2.refl fun u hu => h u (by simp [hu])⟩
theorem All2.app {r : V → V → Prop} : ∀ {a b c d : List V}, All2 r a b → All2 r c d → All2 r (a ++ c) (b ++ d)
  | [], [], c, d, _, h => h
  | _ :: _, _ :: _, c, d, h, h' => ⟨h.1, All2.app h.2 h'⟩
theorem All2.flat {α : Type} {r : V → V → Prop} {e e' : α → List V} (h : ∀ x, All2 r (e x) (e' x)) : ∀ xs : List α, All2 r (xs.flatMap e) (xs.flatMap e')
  | [] => trivial
  | x :: xs => by rw [List.flatMap_cons, List.flatMap_cons]; exact All2.app (h x) (All2.flat h xs)
theorem frz_slT {α : Type} {enc enc' : α → List V} {H : Nat → Option (List V)} {tb t t' : Bool} {bor : List Nat} {xs : List α} {n sz : Nat} (h : ∀ x, All2 (Frz H tb bor) (enc x) (enc' x)) (ht : t = true → t' = true) : Frz H tb bor (.sl t n sz (xs.flatMap enc)) (.sl t' n sz (xs.flatMap enc')) :=
  .sl (All2.flat h xs).len ht (fun i h1 h2 => (All2.flat h xs).at_ i h1 h2)
theorem frz_rfT {α : Type} {enc enc' : α → List V} {sz : Nat} {H : Nat → Option (List V)} {tb : Bool} {bor : List Nat} {xs : List α} {k n tot : Nat} (h : ∀ x, All2 (Frz H tb bor) (enc x) (enc' x)) (he : Enc enc sz) (hk : k ∈ bor) (hH : H k = some (xs.flatMap enc)) (hn : n = xs.length) (ht : tot = (xs.flatMap enc).length) (hm : mpk k = false := by rfl) :
    Frz H tb bor (.rf k 0 n sz tot) (.sl tb n sz (xs.flatMap enc')) := by
  have hl := row_len he xs
  have hf := All2.flat h xs
  refine .rf hm hk hH ht (by rw [hn, hl]; omega) (by rw [hf.len, hn, hl]) (fun i h1 h2 => ?_)
  have e : (xs.flatMap enc)[0 + i] = (xs.flatMap enc)[i]'(by omega) := by congr 1; omega
  rw [e]
  exact hf.at_ i _ _
theorem rowF {α : Type} {enc : α → List V} {sz : Nat} (he : Enc enc sz) (xs : List α) {H : Nat → Option (List V)} {tb : Bool} {bor : List Nat} {km : List (Nat × Nat)} : All2 (Cnv H tb bor km) (xs.flatMap enc) (xs.flatMap enc) :=
  All2.refl fun v hv => by obtain ⟨x, hx, h⟩ := List.mem_flatMap.1 hv; exact .z (he.self x v h H tb bor)
/-- A type's elements lead to nothing that was lent. -/
def EncC {α : Type} (b : Bool) (enc : α → List V) : Prop := ∀ x v, v ∈ enc x → Cln b v
theorem encI_c {b : Bool} : EncC b encI := fun x v h => by simp [encI] at h; subst h; exact .s
theorem encU_c {b : Bool} : EncC b encU := fun x v h => by simp [encU] at h; subst h; exact .s
theorem encB_c {b : Bool} : EncC b encB := fun x v h => by simp [encB] at h; subst h; exact .s
theorem encS_c {b : Bool} : EncC b encS := fun x v h => by simp [encS] at h; subst h; exact .s
theorem rowB {α : Type} {enc : α → List V} {b : Bool} (he : EncC b enc) (xs : List α) {km : List (Nat × Nat)} : All2 (Bck b km) (xs.flatMap enc) (xs.flatMap enc) :=
  All2.refl fun v hv => by obtain ⟨x, hx, h⟩ := List.mem_flatMap.1 hv; exact .z (he x v h)
theorem clnS {α : Type} {enc : α → List V} {b : Bool} (he : EncC b enc) {xs : List α} {t : Bool} {n sz : Nat} (ht : t = true → b = true) : Cln b (.sl t n sz (xs.flatMap enc)) :=
  .sl ht (fun v hv => by obtain ⟨x, hx, h⟩ := List.mem_flatMap.1 hv; exact he x v h)
theorem bck_ag {b : Bool} {km : List (Nat × Nat)} {cs cs' : List V} (h : All2 (Bck b km) cs cs') : Bck b km (.ag cs) (.ag cs') := .ag h.len h.at_
theorem bck_tp {b : Bool} {km : List (Nat × Nat)} {cs cs' : List V} (h : All2 (Bck b km) cs cs') : Bck b km (.tp cs) (.tp cs') := .tp h.len h.at_
def AllC (b : Bool) : List V → Prop
  | [] => True
  | v :: r => Cln b v ∧ AllC b r
theorem aln1 {b : Bool} : AllC b [] := trivial
theorem alc1 {b : Bool} {v : V} {r : List V} (h : Cln b v) (hr : AllC b r) : AllC b (v :: r) := ⟨h, hr⟩
theorem cln_ag {b : Bool} {cs : List V} (h : AllC b cs) : Cln b (.ag cs) := .ag (by
  induction cs with
  | nil => intro v hv; cases hv
  | cons c r ih => intro v hv; rcases List.mem_cons.1 hv with e | e; exact e ▸ h.1; exact ih h.2 v e)
-- fewer rows
def memP (l : List (Nat × Nat)) (p : Nat × Nat) : Bool := l.any fun q => Nat.beq q.1 p.1 && Nat.beq q.2 p.2
theorem memP_mem {l : List (Nat × Nat)} {p : Nat × Nat} (h : memP l p = true) : p ∈ l := by
  obtain ⟨q, h1, h2⟩ := List.any_eq_true.1 h
  rw [Bool.and_eq_true] at h2
  have e1 := Nat.eq_of_beq_eq_true h2.1
  have e2 := Nat.eq_of_beq_eq_true h2.2
  have : q = p := Prod.ext e1 e2
  rw [← this]; exact h1
/-- .. where a nil slice may become one that its cell alone leads to. -/
def CnvO (H : Nat → Option (List V)) (fz : List Nat) (km : List (Nat × Nat)) (v v' : V) : Prop := Cnv H false fz km v v' ∨ (v = .s (.slice none 0 0) ∧ ∃ z, v' = .on 0 z [])
theorem All2.imp {r r' : V → V → Prop} (h : ∀ a b, r a b → r' a b) : ∀ {a b : List V}, All2 r a b → All2 r' a b
  | [], [], _ => trivial
  | _ :: _, _ :: _, q => ⟨h _ _ q.1, All2.imp h q.2⟩
/-- Each row of H2 is one of H's, cell by cell. -/
def ShrL (H : Hp) (fz : List Nat) (km : List (Nat × Nat)) : Hp → Prop
  | [] => True
  | (k', cs2) :: r => (∃ k cs, memP km (k, k') = true ∧ hget H k = some cs ∧ (owk k' = true → owk k = true ∨ ∀ n sz ds, V.on n sz ds ∉ cs) ∧ All2 (CnvO (hget H) fz km) cs cs2) ∧ ShrL H fz km r
theorem shn {H : Hp} {fz : List Nat} {km : List (Nat × Nat)} : ShrL H fz km [] := trivial
theorem shc {H : Hp} {fz : List Nat} {km : List (Nat × Nat)} {k' : Nat} {cs cs2 : List V} {r : Hp} (k : Nat) (h : All2 (Cnv (hget H) false fz km) cs cs2) (hr : ShrL H fz km r) (hk : hget H k = some cs := by rfl) (hm : memP km (k, k') = true := by rfl) (ho : (!owk k' || owk k) = true := by rfl) : ShrL H fz km ((k', cs2) :: r) := ⟨⟨k, cs, hm, hk, fun g => .inl (by rw [g] at ho; simpa using ho), h.imp fun _ _ => .inl⟩, hr⟩
/-- A row becomes an owner row. -/
theorem shcA {H : Hp} {fz : List Nat} {km : List (Nat × Nat)} {k' : Nat} {cs cs2 : List V} {r : Hp} (k : Nat) (h : All2 (CnvO (hget H) fz km) cs cs2) (hn : noOn cs = true ∨ ∀ n sz ds, V.on n sz ds ∉ cs) (hr : ShrL H fz km r) (hk : hget H k = some cs := by rfl) (hm : memP km (k, k') = true := by rfl) : ShrL H fz km ((k', cs2) :: r) := ⟨⟨k, cs, hm, hk, fun _ => .inr (hn.elim noOn_mem id), h⟩, hr⟩
def fzOk (H H2 : Hp) (pk fz : List Nat) (km : List (Nat × Nat)) : Bool := (km.all fun p => (hget H2 p.2).isSome && (Nat.beq p.1 p.2 || (!(pk.any (Nat.beq p.1)) && (!opk p.1 || opk p.2) && (mpk p.1 == mpk p.2)))) && (fz.all fun k => (!(pk.any (Nat.beq k)) && !opk k) && !(km.any fun p => Nat.beq p.1 k)) && (pk.all fun k => (hget H k).isNone || memP km (k, k)) &&
  km.all fun p => km.all fun q => (Nat.beq p.1 q.1 == Nat.beq p.2 q.2)
theorem ShrL.get {H : Hp} {fz : List Nat} {km : List (Nat × Nat)} : ∀ {H2 : Hp} {k' : Nat} {cs2 : List V}, ShrL H fz km H2 → hget H2 k' = some cs2 → ∃ k cs, (k, k') ∈ km ∧ hget H k = some cs ∧ (owk k' = true → owk k = true ∨ ∀ n sz ds, V.on n sz ds ∉ cs) ∧ All2 (CnvO (hget H) fz km) cs cs2
  | (j, cs') :: r, k', cs2, h, hg => by
    by_cases e : j = k'
    · subst e
      simp only [hget, Nat.beq_refl, cond_true, Option.some.injEq] at hg
      subst hg
      obtain ⟨k, cs, h1, h2, h3, h4⟩ := h.1
      exact ⟨k, cs, memP_mem h1, h2, h3, h4⟩
    · simp only [hget, nbeq e, cond_false] at hg
      exact ShrL.get h.2 hg
theorem shr {H H2 : Hp} {pk fz : List Nat} {km : List (Nat × Nat)} (h : ShrL H fz km H2) (hb : fzOk H H2 pk fz km = true) : Shr H H2 pk fz km := by
  unfold fzOk at hb
  simp only [Bool.and_eq_true] at hb
  obtain ⟨⟨⟨b1, b2⟩, b3⟩, b4⟩ := hb
  have inj : ∀ p q, p ∈ km → q ∈ km → (Nat.beq p.1 q.1 == Nat.beq p.2 q.2) = true := fun p q hp hq => List.all_eq_true.1 (List.all_eq_true.1 b4 p hp) q hq
  exact {
    rows := fun k' cs2 hk => by
      obtain ⟨k, cs, h0, h1, h2, h3⟩ := h.get hk
      exact ⟨k, cs, h0, h1, h3.len, h2, h3.at_⟩
    dom := fun k k' hk => by
      have := List.all_eq_true.1 b1 _ hk
      rw [Bool.and_eq_true] at this
      exact this.1
    fz := fun k hk => by
      have := List.all_eq_true.1 b2 k hk
      rw [Bool.and_eq_true, Bool.and_eq_true, Bool.not_eq_true', Bool.not_eq_true', Bool.not_eq_true', List.any_eq_false, List.any_eq_false] at this
      exact ⟨⟨fun hm => this.1.1 k hm (Nat.beq_refl k), this.1.2⟩, fun k' hm => this.2 _ hm (Nat.beq_refl k)⟩
    pk := fun k hk hs => by
      have := List.all_eq_true.1 b3 k hk
      rw [Bool.or_eq_true] at this
      rcases this with h1 | h1
      · cases hq : hget H k with
        | none => rw [hq] at hs; cases hs
        | some _ => rw [hq] at h1; cases h1
      · exact memP_mem h1
    own := fun k k' hk => by
      have := List.all_eq_true.1 b1 _ hk
      rw [Bool.and_eq_true, Bool.or_eq_true, Bool.and_eq_true, Bool.and_eq_true, Bool.not_eq_true', List.any_eq_false] at this
      rcases this.2 with e | ⟨⟨e, e'⟩, e2⟩
      · exact .inl (Nat.eq_of_beq_eq_true e)
      · exact .inr ⟨fun hm => e k hm (Nat.beq_refl k), fun g => by rw [g] at e'; simpa using e', by simpa using e2⟩
    inj1 := fun k a c h1 h2 => by
      have := inj _ _ h1 h2
      rw [beq_iff_eq, Nat.beq_refl] at this
      exact Nat.eq_of_beq_eq_true this.symm
    inj2 := fun k a c h1 h2 => by
      have := inj _ _ h1 h2
      rw [beq_iff_eq, Nat.beq_refl] at this
      exact Nat.eq_of_beq_eq_true this }
/-- The slots as they stand behind it. -/
def EnvL (H : Hp) (fz : List Nat) (km : List (Nat × Nat)) (env : Env) : Env → Prop
  | [] => True
  | (t, v) :: r => Cnv (hget H) false fz km (eget env t) v ∧ EnvL H fz km env r
theorem enn {H : Hp} {fz : List Nat} {km : List (Nat × Nat)} {env : Env} : EnvL H fz km env [] := trivial
theorem enc_ {H : Hp} {fz : List Nat} {km : List (Nat × Nat)} {env : Env} {t : Nat} {u v : V} {r : Env} (h : Cnv (hget H) false fz km u v) (hr : EnvL H fz km env r) (hu : eget env t = u := by rfl) : EnvL H fz km env ((t, v) :: r) := ⟨by rw [hu]; exact h, hr⟩
theorem EnvL.mem {H : Hp} {fz : List Nat} {km : List (Nat × Nat)} {env : Env} : ∀ {e : Env}, EnvL H fz km env e → ∀ t v, (t, v) ∈ e → Cnv (hget H) false fz km (eget env t) v
  | (t', v') :: r, h, t, v, hm => by
    rcases List.mem_cons.1 hm with e | e
    · injection e with e1 e2; subst e1 e2; exact h.1
    · exact EnvL.mem h.2 t v e
section
variable {P : Program} {f : FuncId} {pk : List Nat} {K : List It} {env : Env} {H : Hp} {res : V} {hp' : Hp}
theorem J.wk' (fz : List Nat) (km : List (Nat × Nat)) (env2 : Env) (H2 : Hp) (h : ShrL H fz km H2) (he : EnvL H fz km env env2) (hr : J P (.run f pk K env2 H2 res hp')) (hb : fzOk H H2 pk fz km = true := by kernel_rfl) : J P (.run f pk K env H res hp') :=
  .wk fz km (shr h hb) he.mem hr
theorem J.eqs {env2 : Env} {H2 : Hp} (h1 : env = env2) (h2 : H = H2) (hr : J P (.run f pk K env2 H2 res hp')) : J P (.run f pk K env H res hp') := by subst h1 h2; exact hr
theorem J.nl' (k : Nat) (h : J P (.run f pk K env ((k, []) :: H) res hp')) (hk : hget H k = none := by kernel_rfl) (hpk : (pk.any (Nat.beq k)) = false := by kernel_rfl) : J P (.run f pk K env H res hp') :=
  .nl k hk (fun hm => by rw [List.any_eq_false] at hpk; exact hpk k hm (Nat.beq_refl k)) h
theorem J.fin' (fz : List Nat) (km : List (Nat × Nat)) (v : V) (ob : List Prop) (ho : AllP ob) (hs : ShrL H fz km hp') (hv : Cnv (hget H) false fz km v res) (he : endAt P f K = true := by kernel_rfl) (hr : resOf P f (eget env) (hget H) = some (v, ob) := by kernel_rfl) (hb : fzOk H hp' pk fz km = true := by kernel_rfl) : J P (.run f pk K env H res hp') :=
  .fin fz km v ob he hr ho (shr hs hb) hv
theorem J.cw' {args : List V} {hp hp2 : Hp} {res2 : V} (fz : List Nat) (km : List (Nat × Nat)) (h : J P (.call f args hp res hp')) (hs : ShrL hp' fz km hp2) (hv : Cnv (hget hp') false fz km res res2) (hb : fzOk hp' hp2 (hp.map (·.1)) fz km = true := by kernel_rfl) : J P (.call f args hp res2 hp2) :=
  .cw fz km (shr hs hb) hv h
end
theorem a2rept {r : V → V → Prop} {α : Type} {enc : α → List V} {x : α} {z : List V} (h : All2 r z (enc x)) (n : Nat) : All2 r (rept n z) ((List.replicate n x).flatMap enc) := by
  have e : rept n z = (List.replicate n z).flatten := by
    unfold rept
    split
    · rename_i v
      clear h
      induction n with
      | zero => rfl
      | succ n ih => rw [List.replicate_succ, List.replicate_succ, List.flatten_cons, ← ih]; rfl
    · rfl
  rw [e]
  clear e
  induction n with
  | zero => exact trivial
  | succ n ih => rw [List.replicate_succ, List.replicate_succ, List.flatten_cons, List.flatMap_cons]; exact All2.app h ih
-- calls that are handed rows, or hand rows back
def AllK (p : Nat → Nat → Prop) : List (Nat × Nat) → Prop
  | [] => True
  | (k, k') :: r => p k k' ∧ AllK p r
theorem akn {p : Nat → Nat → Prop} : AllK p [] := trivial
theorem akc {p : Nat → Nat → Prop} {k k' : Nat} {r : List (Nat × Nat)} (h : p k k') (hr : AllK p r) : AllK p ((k, k') :: r) := ⟨h, hr⟩
theorem AllK.mem {p : Nat → Nat → Prop} : ∀ {l : List (Nat × Nat)}, AllK p l → ∀ k k', (k, k') ∈ l → p k k'
  | (a, b) :: r, h, k, k', hm => by
    rcases List.mem_cons.1 hm with e | e
    · injection e with e1 e2; subst e1 e2; exact h.1
    · exact AllK.mem h.2 k k' e
def kmOk (hp post : Hp) (bor : List Nat) (km km' : List (Nat × Nat)) : Bool :=
  (hp.all fun q => km.any fun p => Nat.beq p.2 q.1) && (km.all fun p => !(bor.any (Nat.beq p.1))) && (km.all (memP km')) &&
  (km'.all fun p => km'.all fun q => (Nat.beq p.1 q.1 == Nat.beq p.2 q.2)) && (post.all fun q => km'.any fun p => Nat.beq p.1 q.1) && (km'.all fun p => (owk p.1 == owk p.2) && (!opk p.2 || opk p.1) && (mpk p.1 == mpk p.2))
theorem hget_key {h : Hp} {k : Nat} {cs : List V} (hk : hget h k = some cs) : ∃ q, q ∈ h ∧ q.1 = k := by
  induction h with
  | nil => cases hk
  | cons p r ih =>
    obtain ⟨k', c'⟩ := p
    by_cases e : k' = k
    · exact ⟨(k', c'), by simp, e⟩
    · simp only [hget, nbeq e, cond_false] at hk
      obtain ⟨q, h1, h2⟩ := ih hk
      exact ⟨q, by simp [h1], h2⟩
theorem cokW {H : Nat → Option (List V)} {A args : List V} {f : FuncId} {hp hp' post : Hp} {res v : V} {bor : List Nat} {km km' : List (Nat × Nat)} (b : Bool) (ha : All2 (Cnv H true bor km) A args)
    (hd : AllK (fun k k' => ∃ cs cs', H k = some cs ∧ hget hp k' = some cs' ∧ All2 (Cnv H true bor km) cs cs') km) (hn : AllK (fun k k' => memP km (k, k') = true ∨ H k = none) km')
    (hr : Bck b km' res v) (hrow : AllK (fun k k' => ∃ cs cs', hget hp' k' = some cs ∧ hget post k = some cs' ∧ All2 (Bck b km') cs cs') km') (hb : b = true → bor = []) (hk : kmOk hp post bor km km' = true := by kernel_rfl) : COK H A ⟨f, args, hp, res, hp', bor, km, km', v, post⟩ := by
  unfold kmOk at hk
  simp only [Bool.and_eq_true] at hk
  obtain ⟨⟨⟨⟨⟨k1, k2⟩, k3⟩, k4⟩, k5⟩, k6⟩ := hk
  have inj : ∀ p q, p ∈ km' → q ∈ km' → (Nat.beq p.1 q.1 == Nat.beq p.2 q.2) = true := fun p q hp hq => List.all_eq_true.1 (List.all_eq_true.1 k4 p hp) q hq
  exact {
    alen := ha.len
    args := ha.at_
    dom := fun k k' h => by
      obtain ⟨cs, cs', h1, h2, h3⟩ := hd.mem k k' h
      exact ⟨cs, cs', h1, h2, h3.len, h3.at_⟩
    hpd := fun k' cs' h => by
      obtain ⟨q, h1, h2⟩ := hget_key h
      obtain ⟨p, h3, h4⟩ := List.any_eq_true.1 (List.all_eq_true.1 k1 q h1)
      refine ⟨p.1, ?_⟩
      have : p.2 = k' := (Nat.eq_of_beq_eq_true h4).trans h2
      rw [← this]; exact h3
    apart := fun k k' h hm => by
      have := List.all_eq_true.1 k2 _ h
      rw [Bool.not_eq_true', List.any_eq_false] at this
      exact this k hm (Nat.beq_refl k)
    up := fun p h => memP_mem (List.all_eq_true.1 k3 p h)
    new := fun k k' h => (hn.mem k k' h).imp memP_mem id
    inj1 := fun k a c h1 h2 => by
      have := inj _ _ h1 h2
      rw [beq_iff_eq, Nat.beq_refl] at this
      exact Nat.eq_of_beq_eq_true this.symm
    inj2 := fun k a c h1 h2 => by
      have := inj _ _ h1 h2
      rw [beq_iff_eq, Nat.beq_refl] at this
      exact Nat.eq_of_beq_eq_true this
    res := ⟨b, hb, hr, fun k k' h => by
      obtain ⟨cs, cs', h1, h2, h3⟩ := hrow.mem k k' h
      exact ⟨cs, cs', h1, h2, h3.len, h3.at_⟩⟩
    post := fun k cs h => by
      obtain ⟨q, h1, h2⟩ := hget_key h
      obtain ⟨p, h3, h4⟩ := List.any_eq_true.1 (List.all_eq_true.1 k5 q h1)
      have : p.1 = k := (Nat.eq_of_beq_eq_true h4).trans h2
      exact ⟨p.2, by rw [← this]; exact h3⟩
    cls := fun k k' h => by
      have := List.all_eq_true.1 k6 _ h
      rw [Bool.and_eq_true, Bool.and_eq_true, beq_iff_eq, beq_iff_eq] at this
      exact ⟨this.1.1, fun g => by have q := this.1.2; rw [g] at q; simpa using q, this.2⟩ }
theorem nocal {P : Program} : ∀ C, C ∈ ([] : List Cal) → J P (.call C.f C.args C.hp C.res C.hp') := fun C h => by cases h
theorem acal {P : Program} {C : Cal} {r : List Cal} (h : J P (.call C.f C.args C.hp C.res C.hp')) (hr : ∀ C, C ∈ r → J P (.call C.f C.args C.hp C.res C.hp')) : ∀ D, D ∈ C :: r → J P (.call D.f D.args D.hp D.res D.hp') := fun D hD => by
  rcases List.mem_cons.1 hD with e | e
  · subst e; exact h
  · exact hr D e
-- owner rows
/-- A row of elements, one of which is told by its cells. -/
def foc {α : Type} (enc : α → List V) (xs : List α) (i : Nat) (vs : List V) : List V := (xs.take i).flatMap enc ++ (vs ++ (xs.drop (i + 1)).flatMap enc)
section
variable {α : Type} {enc : α → List V} {sz : Nat} {xs : List α} {i : Int} {vs us : List V} {P : Program} {t : TypeId}
theorem foc_pre (he : Enc enc sz) (h0 : 0 ≤ i) (h1 : i < (xs.length : Int)) : ((xs.take i.toNat).flatMap enc).length = i.toNat * sz := by rw [row_len he, List.length_take, Nat.min_eq_left (by omega)]
theorem foc_end (he : Enc enc sz) (h0 : 0 ≤ i) (h1 : i < (xs.length : Int)) (e : α) : foc enc xs i.toNat (enc e) = (xs.set i.toNat e).flatMap enc := by
  have hi : i.toNat < xs.length := by omega
  rw [List.set_eq_take_append_cons_drop, if_pos hi, List.flatMap_append, List.flatMap_cons]
  rfl
theorem app_get (he : Enc enc sz) (j : Nat) : (xs.flatMap enc ++ vs)[xs.length * sz + j]? = vs[j]? := by
  have := row_len he xs
  rw [List.getElem?_append_right (by omega), this, show xs.length * sz + j - xs.length * sz = j by omega]
theorem app_set (he : Enc enc sz) (j : Nat) (v : V) : (xs.flatMap enc ++ vs).set (xs.length * sz + j) v = xs.flatMap enc ++ vs.set j v := by
  have := row_len he xs
  rw [List.set_append_right _ _ (by omega), this, show xs.length * sz + j - xs.length * sz = j by omega]
theorem app_end (e : α) : xs.flatMap enc ++ enc e = (xs ++ [e]).flatMap enc := (row_app xs e).symm
theorem foc_len (he : Enc enc sz) (h0 : 0 ≤ i) (h1 : i < (xs.length : Int)) (hv : vs.length = sz) : (foc enc xs i.toNat vs).length = xs.length * sz := by
  unfold foc
  rw [List.length_append, List.length_append, foc_pre he h0 h1, row_len he, hv, List.length_drop]
  have : xs.length = i.toNat + 1 + (xs.length - (i.toNat + 1)) := by omega
  conv => rhs; rw [this, Nat.add_mul, Nat.add_mul, Nat.one_mul]
  omega
theorem foc_get (he : Enc enc sz) (h0 : 0 ≤ i) (h1 : i < (xs.length : Int)) (hv : vs.length = sz) (j : Nat) (hj : j < sz) : (foc enc xs i.toNat vs)[i.toNat * sz + j]? = vs[j]? := by
  have hp := foc_pre he h0 h1
  unfold foc
  rw [List.getElem?_append_right (by omega), hp, show i.toNat * sz + j - i.toNat * sz = j by omega, List.getElem?_append_left (by omega)]
theorem foc_set (he : Enc enc sz) (h0 : 0 ≤ i) (h1 : i < (xs.length : Int)) (hv : vs.length = sz) (j : Nat) (hj : j < sz) (v : V) : (foc enc xs i.toNat vs).set (i.toNat * sz + j) v = foc enc xs i.toNat (vs.set j v) := by
  have hp := foc_pre he h0 h1
  unfold foc
  rw [List.set_append_right _ _ (by omega), hp, show i.toNat * sz + j - i.toNat * sz = j by omega, List.set_append_left _ _ (by omega)]
theorem foc_spl (he : Enc enc sz) (h0 : 0 ≤ i) (h1 : i < (xs.length : Int)) (hv : vs.length = sz) (j : Nat) (hj : j + us.length ≤ sz) : spl (foc enc xs i.toNat vs) (0 + i.toNat * sz + j) us = foc enc xs i.toNat (spl vs j us) := by
  have hp := foc_pre he h0 h1
  unfold foc
  rw [Nat.zero_add, ← hp, spl_pre, spl_app _ _ _ _ (by omega)]
theorem foc_ld (he : Enc enc sz) (h0 : 0 ≤ i) (h1 : i < (xs.length : Int)) (hv : vs.length = sz) (j : Nat) (hj : j < sz) (ha : isAg P t = false) : rdC P t ((foc enc xs i.toNat vs).drop (0 + i.toNat * sz + j)) = (vs.drop j).headD .un := by
  have hp := foc_pre he h0 h1
  have hd : (foc enc xs i.toNat vs).drop (i.toNat * sz) = vs ++ (xs.drop (i.toNat + 1)).flatMap enc := by unfold foc; rw [← hp, List.drop_left]
  unfold rdC
  rw [ha, cond_false, Nat.zero_add, ← List.drop_drop, hd, List.drop_append_of_le_length (by omega)]
  cases hq : vs.drop j with
  | nil => have := congrArg List.length hq; rw [List.length_drop] at this; simp at this; omega
  | cons v r => rfl
theorem foc_ok {m j : Nat} (he : Enc enc sz) (h0 : 0 ≤ i) (h1 : i < (xs.length : Int)) (hv : vs.length = sz) (hj : j + m ≤ sz) : xs.length * sz = (foc enc xs i.toNat vs).length ∧ 0 + i.toNat * sz + j + m ≤ (foc enc xs i.toNat vs).length := by
  rw [foc_len he h0 h1 hv]
  have : (i.toNat + 1) * sz ≤ xs.length * sz := Nat.mul_le_mul_right _ (by omega)
  rw [Nat.succ_mul] at this
  exact ⟨rfl, by omega⟩
end
section
variable {α : Type} {enc : α → List V} {sz : Nat} [Inhabited α] {xs : List α} {i : Int} {vs us : List V} {P : Program} {t : TypeId}
theorem foc_self (he : Enc enc sz) (h0 : 0 ≤ i) (h1 : i < (xs.length : Int)) : xs.flatMap enc = foc enc xs i.toNat (enc (at_ xs i)) := by
  have hi : i.toNat < xs.length := by omega
  have e1 : xs = xs.take i.toNat ++ at_ xs i :: xs.drop (i.toNat + 1) := by
    have : at_ xs i :: xs.drop (i.toNat + 1) = xs.drop i.toNat := by
      rw [List.drop_eq_getElem_cons hi]
      congr 1
      simp [at_, List.getD_eq_getElem?_getD, hi]
    rw [this, List.take_append_drop]
  conv => lhs; rw [e1]
  rw [List.flatMap_append, List.flatMap_cons]
  rfl
/-- An element is stored whose cells lead to rows of one's own. -/
theorem foc_st (he : Enc enc sz) (h0 : 0 ≤ i) (h1 : i < (xs.length : Int)) (j : Nat) (hj : j + us.length ≤ sz) : spl (xs.flatMap enc) (0 + i.toNat * sz + j) us = foc enc xs i.toNat (spl (enc (at_ xs i)) j us) := by
  rw [foc_self he h0 h1]; exact foc_spl he h0 h1 (he.len _) j hj
theorem foc_st0 (he : Enc enc sz) (h0 : 0 ≤ i) (h1 : i < (xs.length : Int)) (hj : us.length = sz) : spl (xs.flatMap enc) (0 + i.toNat * sz) us = foc enc xs i.toNat us := by
  have := foc_st (us := us) he h0 h1 0 (by omega)
  have e : spl (enc (at_ xs i)) 0 us = us := by
    have hl := he.len (at_ xs i)
    refine List.ext_getElem? fun a => ?_
    by_cases g : a < us.length
    · rw [spl_in us _ 0 a (by omega) (by omega) (by omega), Nat.sub_zero]
    · rw [spl_get? us _ 0 a (by omega), List.getElem?_eq_none (by omega), List.getElem?_eq_none (by omega)]
  rw [e] at this
  exact this
theorem foc_op (he : Enc enc sz) (h0 : 0 ≤ i) (h1 : i < (xs.length : Int)) (j : Nat) (hj : j < sz) : (xs.flatMap enc)[i.toNat * sz + j]? = (enc (at_ xs i))[j]? := by
  rw [foc_self he h0 h1]; exact foc_get he h0 h1 (he.len _) j hj
theorem foc_ops (he : Enc enc sz) (h0 : 0 ≤ i) (h1 : i < (xs.length : Int)) (j : Nat) (hj : j < sz) (v : V) : (xs.flatMap enc).set (i.toNat * sz + j) v = foc enc xs i.toNat ((enc (at_ xs i)).set j v) := by
  conv => lhs; rw [foc_self he h0 h1]
  exact foc_set he h0 h1 (he.len _) j hj v
end
/-- Elements without addresses. -/
def EncS {α : Type} (enc : α → List V) : Prop := ∀ x v, v ∈ enc x → ∃ y, v = .s y
theorem encI_s : EncS encI := fun x v h => by simp [encI] at h; exact ⟨_, h⟩
theorem encU_s : EncS encU := fun x v h => by simp [encU] at h; exact ⟨_, h⟩
theorem encB_s : EncS encB := fun x v h => by simp [encB] at h; exact ⟨_, h⟩
theorem encS_s : EncS encS := fun x v h => by simp [encS] at h; exact ⟨_, h⟩
theorem rowS {α : Type} {enc : α → List V} (h : EncS enc) (xs : List α) : ∀ v, v ∈ xs.flatMap enc → ∃ y, v = .s y := fun v hv => by obtain ⟨x, hx, hq⟩ := List.mem_flatMap.1 hv; exact h x v hq
theorem Cln.nq {ks : List Nat} {b : Bool} {v : V} (h : Cln b v) : NQ ks v := by
  induction h with
  | s => exact .s
  | sl => exact .sl
  | ip => exact .ip
  | ag _ ih => exact .ag ih
  | un => exact .un
  | on => exact .on
def nq1 (ks : List Nat) : V → Bool
  | .s _ => true
  | .sl _ _ _ _ => true
  | .ip _ _ => true
  | .un => true
  | .on _ _ _ => true
  | .pt k _ _ => !(ks.any (Nat.beq k))
  | .rf k _ _ _ _ => !(ks.any (Nat.beq k))
  | _ => false
def nqb (ks : List Nat) : V → Bool
  | .ag cs => cs.all (nq1 ks)
  | .fn _ a b => a.all (nq1 ks) && b.all (nq1 ks)
  | v => nq1 ks v
theorem not_any {ks : List Nat} {k : Nat} (h : (!(ks.any (Nat.beq k))) = true) : k ∉ ks := fun hm => by
  rw [Bool.not_eq_true', List.any_eq_false] at h
  exact h k hm (Nat.beq_refl k)
theorem nq1_ok {ks : List Nat} {v : V} (h : nq1 ks v = true) : NQ ks v := by
  cases v with
  | s v => exact .s
  | sl t n sz cs => exact .sl
  | ip t cs => exact .ip
  | un => exact .un
  | on n sz cs => exact .on
  | pt k o t => exact .pt (not_any h)
  | rf k o n z t => exact .rf (not_any h)
  | ag cs => cases h
  | tp cs => cases h
  | fn f a b => cases h
theorem nqb_ok {ks : List Nat} {v : V} (h : nqb ks v = true) : NQ ks v := by
  cases v with
  | ag cs => exact .ag fun v hv => nq1_ok (List.all_eq_true.1 h v hv)
  | fn f a b =>
    have h : (a.all (nq1 ks) && b.all (nq1 ks)) = true := h
    rw [Bool.and_eq_true] at h
    exact .fn (fun v hv => nq1_ok (List.all_eq_true.1 h.1 v hv)) (fun v hv => nq1_ok (List.all_eq_true.1 h.2 v hv))
  | _ => exact nq1_ok h
def RowQ (ks : List Nat) (cs : List V) : Prop := ∀ v, v ∈ cs → NQ ks v
theorem rqL {ks : List Nat} {cs : List V} (h : cs.all (nqb ks) = true := by kernel_rfl) : RowQ ks cs := fun v hv => nqb_ok (List.all_eq_true.1 h v hv)
theorem rqE {α : Type} {enc : α → List V} {sz : Nat} (he : Enc enc sz) (xs : List α) {ks : List Nat} : RowQ ks (xs.flatMap enc) := fun v hv => by obtain ⟨x, hx, h⟩ := List.mem_flatMap.1 hv; exact (he.cln x v h).nq
theorem rqA {ks : List Nat} {a b : List V} (h : RowQ ks a) (h' : RowQ ks b) : RowQ ks (a ++ b) := fun v hv => (List.mem_append.1 hv).elim (h v) (h' v)
theorem rqF {α : Type} {enc : α → List V} {sz : Nat} (he : Enc enc sz) (xs : List α) (i : Nat) {ks : List Nat} {vs : List V} (h : vs.all (nqb ks) = true := by kernel_rfl) : RowQ ks (foc enc xs i vs) := rqA (rqE he _) (rqA (rqL h) (rqE he _))
def RowsQ (ks : List Nat) : Hp → Prop
  | [] => True
  | (_, cs) :: r => RowQ ks cs ∧ RowsQ ks r
theorem rsn {ks : List Nat} : RowsQ ks [] := trivial
theorem rsc {ks : List Nat} {k : Nat} {cs : List V} {r : Hp} (h : RowQ ks cs) (hr : RowsQ ks r) : RowsQ ks ((k, cs) :: r) := ⟨h, hr⟩
theorem RowsQ.get {ks : List Nat} : ∀ {H : Hp}, RowsQ ks H → ∀ j cs, hget H j = some cs → RowQ ks cs
  | (k, c) :: r, h, j, cs, hg => by
    by_cases e : k = j
    · subst e
      simp only [hget, Nat.beq_refl, cond_true, Option.some.injEq] at hg
      subst hg; exact h.1
    · simp only [hget, nbeq e, cond_false] at hg
      exact RowsQ.get h.2 j cs hg
def opOk (H : Hp) (pk : List Nat) (q k : Nat) : Bool := owk k && opk q && (!owk q && !mpk q) && (hget H q).isNone && !(pk.any (Nat.beq q))
def clOk (pk ks : List Nat) (q k : Nat) : Bool := owk k && (!owk q && !mpk q) && ks.any (Nat.beq q) && !(ks.any (Nat.beq k)) && ks.all fun x => !(pk.any (Nat.beq x))
section
variable {P : Program} {f : FuncId} {pk : List Nat} {K : List It} {env : Env} {H : Hp} {res : V} {hp' : Hp}
theorem J.opX (q k p n z : Nat) {cs cs' ds : List V} {H2 : Hp} (hi : cs[p]? = some (.on n z ds)) (hs : cs.set p (.rf q 0 n z (n * z)) = cs') (h : J P (.run f pk K env ((k, cs') :: (q, ds) :: H2) res hp')) (hk : hget H k = some cs := by rfl) (hb : opOk H pk q k = true := by kernel_rfl) (hd : drp [k] H = H2 := by rfl) : J P (.run f pk K env H res hp') := by
  unfold opOk at hb
  simp only [Bool.and_eq_true] at hb
  obtain ⟨⟨⟨⟨b1, b2⟩, b3⟩, b4⟩, b5⟩ := hb
  refine .op q k p n z cs ds hk hi b1 ⟨b2, by simpa using b3.1⟩ (by simpa using b3.2) (by simpa using b4) (not_any b5) ?_
  rw [hs, hd]; exact h
theorem J.clX (ks : List Nat) (q k p n z : Nat) {cs cs' ds : List V} {H2 : Hp} (hi : cs[p]? = some (.rf q 0 n z (n * z))) (hs : cs.set p (.on n z ds) = cs') (hl : ds.length = n * z) (hds : ∀ v, v ∈ ds → ∃ y, v = .s y) (hq : RowsQ ks ((k, cs') :: H2)) (h : J P (.run f pk K env ((k, cs') :: H2) res hp'))
    (hk : hget H k = some cs := by rfl) (hqd : hget H q = some ds := by rfl) (he : (env.all fun p => nqb ks p.2) = true := by kernel_rfl) (hb : clOk pk ks q k = true := by kernel_rfl) (hd : drp (k :: ks) H = H2 := by rfl) : J P (.run f pk K env H res hp') := by
  unfold clOk at hb
  simp only [Bool.and_eq_true] at hb
  obtain ⟨⟨⟨⟨b1, b2⟩, b3⟩, b4⟩, b5⟩ := hb
  obtain ⟨x, hx, hx2⟩ := List.any_eq_true.1 b3
  have ex := Nat.eq_of_beq_eq_true hx2
  refine .cl ks q k p n z cs ds hk hqd hi hl hds (by rw [ex]; exact hx) (not_any b4) (fun y hy => ?_) b1 (by simpa using b2.1) (by simpa using b2.2) (fun t v hm => nqb_ok (List.all_eq_true.1 he (t, v) hm)) (fun j cs1 hj v hv => ?_) ?_
  · exact not_any (List.all_eq_true.1 b5 y hy)
  · rw [hs, hd] at hj
    exact hq.get j cs1 hj v hv
  · rw [hs, hd]; exact h
end
/-- A whole row of nil slices becomes an owner row. -/
theorem a2reptO {H : Nat → Option (List V)} {fz : List Nat} {km : List (Nat × Nat)} {α : Type} {enc : α → List V} {x : α} {z : List V} (h : All2 (CnvO H fz km) z (enc x)) (n : Nat) : All2 (CnvO H fz km) (rept n z) ((List.replicate n x).flatMap enc) := a2rept h n
theorem rept_no {z : List V} (h : noOn z = true) (n : Nat) : ∀ m sz ds, V.on m sz ds ∉ rept n z := by
  intro m sz ds hm
  have e : rept n z = (List.replicate n z).flatten := by
    unfold rept
    split
    · rename_i v
      clear h hm
      induction n with
      | zero => rfl
      | succ n ih => rw [List.replicate_succ, List.replicate_succ, List.flatten_cons, ← ih]; rfl
    · rfl
  rw [e, List.mem_flatten] at hm
  obtain ⟨l, hl, hv⟩ := hm
  rw [List.eq_of_mem_replicate hl] at hv
  exact noOn_mem h _ _ _ hv
theorem row_no {α : Type} {enc : α → List V} (h : ∀ x, noOn (enc x) = true) (xs : List α) : ∀ m sz ds, V.on m sz ds ∉ xs.flatMap enc := by
  intro m sz ds hm
  obtain ⟨x, _, hv⟩ := List.mem_flatMap.1 hm
  exact noOn_mem (h x) _ _ _ hv
theorem cnvN {H : Nat → Option (List V)} {fz : List Nat} {km : List (Nat × Nat)} {z : Nat} : CnvO H fz km (.s (.slice none 0 0)) (.on 0 z []) := .inr ⟨rfl, z, rfl⟩
/-- An owner row is lent: what its cells lead to is lent, too. -/
theorem frz_rfO {α : Type} {enc enc' : α → List V} {sz : Nat} {H : Nat → Option (List V)} {tb : Bool} {bor : List Nat} {xs : List α} {k n tot : Nat} (h : ∀ x, All2 (fun v v' => (isOn v = false → Frz H tb bor v v') ∧ ∀ m z ds, v = .on m z ds → v' = .sl tb m z ds) (enc x) (enc' x)) (he : Enc enc sz) (hk : k ∈ bor) (hko : owk k = true) (hH : H k = some (xs.flatMap enc)) (hn : n = xs.length) (ht : tot = (xs.flatMap enc).length) :
    Frz H tb bor (.rf k 0 n sz tot) (.sl tb n sz (xs.flatMap enc')) := by
  have hl := row_len he xs
  have hf := All2.flat h xs
  refine .rfN hk hko hH ht (by rw [hn, hl]; omega) (by rw [hf.len, hn, hl]) (fun i h1 h2 => ?_) (fun i h1 h2 => ?_)
  · have e : (xs.flatMap enc)[0 + i] = (xs.flatMap enc)[i]'(by omega) := by congr 1; omega
    rw [e]
    exact (hf.at_ i _ _).1
  · have e : (xs.flatMap enc)[0 + i] = (xs.flatMap enc)[i]'(by omega) := by congr 1; omega
    rw [e]
    exact (hf.at_ i _ _).2
end Go.Proofs.Ytpjmefdpjlhkhaa.Eng

/- The engine, part 23: how a row's datum, read by the model's reader, is told as values of the engine; a law's call. -/
namespace Go.Proofs.Ytpjmefdpjlhkhaa.Eng
open Go.ChangeShapes Go.WideShapes Go.Deep Go.RowKit
set_option linter.unusedVariables false
set_option linter.unusedSimpArgs false
def okF (w : World) : Bool → Nat → Prop := fun _ b => b < w.heap.size
/-- Cells as the engine has them. -/
structure CellsR (w : World) (vs : List V) (cs : List Value) : Prop where
  len : cs.length = vs.length
  one : ∀ i, i < cs.length → (cs.getD i undef).oneCell' = true
  rel : ∀ i (h : i < vs.length), R0 (okF w) w vs[i] (cs.getD i undef)
theorem CellsR.app {w : World} {vs vs' : List V} {cs cs' : List Value} (h : CellsR w vs cs) (h' : CellsR w vs' cs') : CellsR w (vs ++ vs') (cs ++ cs') where
  len := by rw [List.length_append, List.length_append, h.len, h'.len]
  one := fun i hi => by
    rw [List.getD_eq_getElem?_getD]
    rcases Nat.lt_or_ge i cs.length with hl | hg
    · rw [List.getElem?_append_left hl, ← List.getD_eq_getElem?_getD]; exact h.one i hl
    · rw [List.getElem?_append_right hg, ← List.getD_eq_getElem?_getD]; exact h'.one _ (by rw [List.length_append] at hi; omega)
  rel := fun i hi => by
    have e := h.len
    rw [List.getD_eq_getElem?_getD]
    rcases Nat.lt_or_ge i vs.length with hl | hg
    · rw [List.getElem?_append_left (by omega), ← List.getD_eq_getElem?_getD, List.getElem_append_left hl]; exact h.rel i hl
    · rw [List.getElem?_append_right (by omega), ← List.getD_eq_getElem?_getD, List.getElem_append_right hg, e]; exact h'.rel _ _
theorem CellsR.one1 {w : World} {v : V} {x : Value} (h : R0 (okF w) w v x) (ho : x.oneCell' = true) : CellsR w [v] [x] where
  len := rfl
  one := fun i hi => by
    have : i = 0 := by simp at hi; omega
    subst this; exact ho
  rel := fun i hi => by
    have : i = 0 := by simp at hi; omega
    subst this; exact h
/-- What is read at type t is told by enc, and is right (ok). -/
def Tl (P : Program) (t : TypeId) {α : Type} (enc : α → List V) (ok : α → Prop) : Prop :=
  ∀ (H : Type) (eh : TypeId × Value → H) (w : World) (base : Nat) (spare : Nat → Bool) (held : Bool) (fuel : Nat) (cs : List Value) (y : DataW H × List MemPlace),
    DataW.trod eh P w base spare held fuel t cs = some y → ∃ x : α, CellsR w (enc x) cs ∧ ok x
/-- The same of fields in line, from the place off on. -/
def TlF (P : Program) (fs : List Field) (off : Nat) {α : Type} (enc : α → List V) (sz : Nat) (ok : α → Prop) : Prop :=
  ∀ (H : Type) (eh : TypeId × Value → H) (w : World) (base : Nat) (spare : Nat → Bool) (held : Bool) (fuel : Nat) (cs : List Value) (ys : List (DataW H × List MemPlace)),
    fs.mapM (fun f => DataW.trod eh P w base spare held fuel f.type ((cs.drop f.offset).take (P.cellsOf f.type))) = some ys → cs.length = off + sz → ∃ x : α, CellsR w (enc x) (cs.drop off) ∧ ok x
section
variable {P : Program}
theorem Tl.int {t : TypeId} (ht : P.underlying t = some (.int .i64)) : Tl P t encI (fun n => (Lit.int .i64 n).wf = true) := by
  intro H eh w base spare held fuel cs y h
  obtain ⟨n, rfl, _, hw⟩ := DataW.trod_int ht h
  exact ⟨n, .one1 (.s rfl) rfl, hw⟩
theorem Tl.u8 {t : TypeId} (ht : P.underlying t = some (.int .u8)) : Tl P t encU (fun n => (Lit.int .u8 n).wf = true) := by
  intro H eh w base spare held fuel cs y h
  obtain ⟨n, rfl, _, hw⟩ := DataW.trod_int ht h
  exact ⟨n, .one1 (.s rfl) rfl, hw⟩
theorem Tl.bool {t : TypeId} (ht : P.underlying t = some .bool) : Tl P t encB (fun _ => True) := by
  intro H eh w base spare held fuel cs y h
  obtain ⟨n, rfl, _⟩ := DataW.trod_bool ht h
  exact ⟨n, .one1 (.s rfl) rfl, trivial⟩
theorem Tl.string {t : TypeId} (ht : P.underlying t = some .string) : Tl P t encS (fun s => s.size ≤ maxLen) := by
  intro H eh w base spare held fuel cs y h
  obtain ⟨n, rfl, _, hw⟩ := DataW.trod_string ht h
  exact ⟨n, .one1 (.s rfl) rfl, hw⟩
theorem Tl.iso {α β : Type} {t : TypeId} {enc : α → List V} {enc' : β → List V} {ok : α → Prop} (h : Tl P t enc ok) (g : α → β) (he : ∀ a, enc' (g a) = enc a) (ok' : β → Prop) (hok : ∀ a, ok a → ok' (g a)) : Tl P t enc' ok' := by
  intro H eh w base spare held fuel cs y hy
  obtain ⟨x, hx, ho⟩ := h H eh w base spare held fuel cs y hy
  exact ⟨g x, by rw [he]; exact hx, hok _ ho⟩
theorem cell_spot {w : World} {a : Addr} {v : Value} (h : w.cell? (a.add 0) = some v) : a.spot = none ∧ a.block < w.heap.size := by
  have e : a.add 0 = a := by simp [Addr.add]
  rw [e] at h
  unfold World.cell? at h
  split at h
  · rename_i hh
    split at h
    · cases h
    · rename_i hs
      refine ⟨?_, (Array.getElem?_eq_some_iff.1 hh).1⟩
      cases e : a.spot with
      | none => rfl
      | some k => simp [e] at hs
  · cases h
theorem Tl.slice {α : Type} {t e : TypeId} {enc : α → List V} {sz : Nat} {ok : α → Prop} (tag : Bool) (ht : P.underlying t = some (.slice e)) (h : Tl P e enc ok) (he : Enc enc sz) (hc : P.cellsOf e = sz) (hpos : 0 < sz) :
    Tl P t (fun xs : List α => [V.sl tag xs.length sz (xs.flatMap enc)]) (fun l => l.length ≤ maxLen ∧ ∀ x ∈ l, ok x) := by
  intro H eh w base spare held fuel cs y hy
  rcases open_slice ht hy with ⟨rfl, _⟩ | ⟨a, len, cap, m, n, D, Pl, rfl, _, hl, hm, hmm, _, hi⟩
  · exact ⟨[], .one1 .sl0 rfl, by simp, by simp⟩
  · have hle : len ≤ m := by rw [hmm]; split <;> omega
    have hel : ∀ i, i < len → ∃ (x : α) (c : List Value), w.cells? base (a.add (i * P.cellsOf e)) (P.cellsOf e) = some c ∧ CellsR w (enc x) c ∧ ok x := by
      intro i hi'
      obtain ⟨c, hc, hd⟩ := hi i (by omega)
      obtain ⟨x, hx, ho⟩ := h H eh w base spare held n c _ hd
      exact ⟨x, c, hc, hx, ho⟩
    have hall : ∀ k, k ≤ len → ∃ (l : List α) (u : Nat → Value), l.length = k ∧ (∀ x ∈ l, ok x) ∧ (∀ i, i < k * sz → w.cell? (a.add i) = some (u i) ∧ (u i).oneCell' = true) ∧ ∀ i (h : i < (l.flatMap enc).length), R0 (okF w) w (l.flatMap enc)[i] (u i) := by
      intro k
      induction k with
      | zero => intro _; exact ⟨[], fun _ => undef, rfl, by simp, fun i hi => by omega, fun i hi => absurd hi (by simp)⟩
      | succ k ih =>
        intro hk
        obtain ⟨l, u, hl', h1, h2, h3⟩ := ih (by omega)
        obtain ⟨x, c, hcc, hK, ho⟩ := hel k (by omega)
        obtain ⟨_, hcl, hat⟩ := World.cells?_some hcc
        have hlen : (l.flatMap enc).length = k * sz := by rw [row_len he, hl']
        have hxl : (enc x).length = sz := he.len x
        refine ⟨l ++ [x], fun i => if i < k * sz then u i else c.getD (i - k * sz) undef, by simp [hl'], ?_, fun i hi' => ?_, fun i hi' => ?_⟩
        · intro y hy'
          rcases List.mem_append.1 hy' with e1 | e1
          · exact h1 y e1
          · rw [List.mem_singleton.1 e1]; exact ho
        · rw [Nat.succ_mul] at hi'
          show w.cell? (a.add i) = some (if i < k * sz then u i else c.getD (i - k * sz) undef) ∧ (if i < k * sz then u i else c.getD (i - k * sz) undef).oneCell' = true
          by_cases e1 : i < k * sz
          · rw [if_pos e1]; exact h2 i e1
          · rw [if_neg e1]
            have hlt : i - k * sz < c.length := by omega
            refine ⟨?_, hK.one _ hlt⟩
            have := hat (i - k * sz) (by omega)
            rw [Go.Deep.add_add, hc, show k * sz + (i - k * sz) = i by omega] at this
            rw [this, List.getElem?_eq_getElem hlt, List.getD_eq_getElem?_getD, List.getElem?_eq_getElem hlt]; rfl
        · have e0 : ((l ++ [x]).flatMap enc) = l.flatMap enc ++ enc x := by simp
          have hi2 : i < (l.flatMap enc ++ enc x).length := by rw [← e0]; exact hi'
          have e2 : ((l ++ [x]).flatMap enc)[i] = (l.flatMap enc ++ enc x)[i] := by congr 1
          rw [e2]
          show R0 (okF w) w _ (if i < k * sz then u i else c.getD (i - k * sz) undef)
          by_cases e1 : i < k * sz
          · rw [if_pos e1, List.getElem_append_left (by omega)]; exact h3 i (by omega)
          · rw [if_neg e1, List.getElem_append_right (by omega)]
            have hlt : i - (l.flatMap enc).length < (enc x).length := by rw [List.length_append] at hi2; omega
            have := hK.rel _ hlt
            rw [← hlen]
            exact this
    obtain ⟨l, u, hll, h1, h2, h3⟩ := hall len (Nat.le_refl _)
    refine ⟨l, .one1 ?_ rfl, by omega, h1⟩
    rcases Nat.eq_zero_or_pos len with h0 | hp
    · subst h0
      have : l = [] := List.eq_nil_of_length_eq_zero hll
      subst this
      exact .sl0
    · have hps : 0 < len * sz := Nat.mul_pos hp hpos
      obtain ⟨s1, s2⟩ := cell_spot (h2 0 hps).1
      obtain ⟨b, off, sp⟩ := a
      simp only at s1 s2
      subst s1
      rw [hll]
      exact .sl u s2 hl (by rw [row_len he, hll]) (fun i hi' => by
        have := (h2 i (by rw [row_len he, hll] at hi'; exact hi')).1
        rw [add_at] at this; exact this) (fun i hi' => (h2 i (by rw [row_len he, hll] at hi'; exact hi')).2) h3
theorem TlF.one {α : Type} {f : Field} {off sz : Nat} {enc : α → List V} {ok : α → Prop} (h : Tl P f.type enc ok) (ho : f.offset = off) (hs : P.cellsOf f.type = sz) : TlF P [f] off enc sz ok := by
  intro H eh w base spare held fuel cs ys hy hl
  simp only [List.mapM_cons, List.mapM_nil, Option.pure_def, Option.bind_eq_bind, Option.bind_eq_some_iff] at hy
  obtain ⟨y, h1, _⟩ := hy
  rw [ho, hs, List.take_of_length_le (by rw [List.length_drop]; omega)] at h1
  exact h H eh w base spare held fuel _ y h1
theorem TlF.cons {α β : Type} {f : Field} {fs : List Field} {off sz sz' : Nat} {enc : α → List V} {enc' : β → List V} {ok : α → Prop} {ok' : β → Prop} (h : Tl P f.type enc ok) (ho : f.offset = off) (hs : P.cellsOf f.type = sz)
    (h' : TlF P fs (off + sz) enc' sz' ok') : TlF P (f :: fs) off (fun x : α × β => enc x.1 ++ enc' x.2) (sz + sz') (fun x => ok x.1 ∧ ok' x.2) := by
  intro H eh w base spare held fuel cs ys hy hl
  simp only [List.mapM_cons, Option.pure_def, Option.bind_eq_bind, Option.bind_eq_some_iff] at hy
  obtain ⟨y, h1, ys', h2, _⟩ := hy
  obtain ⟨x, hx, hox⟩ := h H eh w base spare held fuel _ y h1
  obtain ⟨x', hx', hox'⟩ := h' H eh w base spare held fuel cs ys' h2 (by omega)
  refine ⟨(x, x'), ?_, hox, hox'⟩
  have := hx.app hx'
  rw [ho, hs, ← List.drop_drop, List.take_append_drop] at this
  exact this
theorem Tl.struct {α : Type} {t : TypeId} {fs : Array Field} {enc : α → List V} {sz : Nat} {ok : α → Prop} (ht : P.underlying t = some (.struct fs)) (hs : P.cellsOf t = sz) (h : TlF P fs.toList 0 enc sz ok) : Tl P t enc ok := by
  intro H eh w base spare held fuel cs y hy
  cases fuel with
  | zero => simp [DataW.trod] at hy
  | succ fuel =>
    unfold DataW.trod at hy
    simp only [ht] at hy
    split at hy
    · rename_i hl
      obtain ⟨ys, h1, _⟩ := Option.map_eq_some_iff.1 hy
      have := h H eh w base spare held fuel cs ys h1 (by omega)
      simpa using this
    · cases hy
theorem R0.ag' {w : World} {vs : List V} {cs : List Value} (h : CellsR w vs cs) : R0 (okF w) w (.ag vs) (.agg cs.toArray) :=
  .ag (by simpa using h.len) (fun i hi => by
    have := h.one i (by rw [h.len]; exact hi)
    rwa [List.getD_eq_getElem?_getD, ← List.getElem?_toArray, ← Array.getD_eq_getD_getElem?] at this) (fun i hi => by
    have := h.rel i hi
    rwa [List.getD_eq_getElem?_getD, ← List.getElem?_toArray, ← Array.getD_eq_getD_getElem?] at this)
/-- A law's call. -/
theorem law_calls (hm : P.follows .mixedOrders = true) {f : FuncId} {args : List V} {xs : Array Value} {w : World} (h : J P (.call f args [] (B true) [])) (hx : xs.size = args.length) (hr : ∀ i (h : i < args.length), R0 (okF w) w args[i] (xs.getD i undef)) (hlib : LibG P w := by exact trivial) (hglo : glo P ≤ w.heap.size := by exact Nat.zero_le _) :
    Calls P f xs w fun e w' => e = .returned (.bool true) ∧ Below w.heap.size w w' := by
  have hs : Sim ⟨fun _ => none, fun _ => 0, okF w, fun _ _ => none⟩ (hget []) w (OwOf ⟨fun _ => none, fun _ => 0, okF w, fun _ _ => none⟩ [] w) :=
    { obj := fun k cs hk => by simp [hget] at hk
      own := fun k cs b hk => by simp [hget] at hk
      inj := fun k k' cs cs' b hk => by simp [hget] at hk
      okb := fun t b hb => hb
      fresh := fun k b hb => .inl hb
      mono := fun b hb => hb
      nest := Nest.nil fun k cs hk => by simp [hget] at hk }
  refine (J.spec hm h _ w xs ⟨hlib, hglo, fun k b hb => by
    rcases hb with hb | ⟨⟨cs, hb⟩, _⟩ | ⟨_, _, _, _, _, _, ⟨_, hb, _⟩, _⟩
    · omega
    · cases hb
    · cases hb⟩ hs hx (fun i hi => .i (hr i hi))).mono ?_
  rintro e w2 ⟨x, c2, rfl, h1, _, _, hk, _⟩
  refine ⟨by rw [h1.s_inv.1], ?_⟩
  exact ⟨hk.os, hk.tape, hk.output, hk.size, fun b hb => hk.block b (fun j hj => by
    rcases hj with hj | ⟨⟨cs, hj⟩, _⟩ | ⟨_, _, _, _, _, _, ⟨_, hj, _⟩, _⟩
    · omega
    · cases hj
    · cases hj)⟩
/-- A library function that leaves the world as it was. -/
theorem lib_quiet1 {f : FuncId} {x y : Value} (hy : y.oneCell' = true) (h : ∀ w, Calls P f #[x] w fun e w' => e = .returned y ∧ w' = w) : J P (.call f [.s x] [] (.s y) []) := by
  refine .lib fun c w xs _ hs hx hr => ?_
  have e : xs = #[x] := by
    have h0 := (hr 0 (by simp)).s_inv.1
    have h1 : xs.size = 1 := hx
    refine Array.ext (by rw [h1]; rfl) fun i hi hi' => ?_
    obtain rfl : i = 0 := by omega
    have h2 : xs.getD 0 undef = xs[0] := by simp [Array.getD_eq_getD_getElem?, hi]
    rw [← h2, h0]
    rfl
  subst e
  refine (h w).mono ?_
  rintro e w2 ⟨rfl, rfl⟩
  exact ⟨y, c, rfl, .i (.s hy), hs, Ext.refl _ _ _, Keep.refl _ _, fun t b hb => .inl hb⟩
/-- .. that makes blocks of its own and leaves the older ones as they were. -/
theorem lib_below1 {f : FuncId} {x y : Value} (hy : y.oneCell' = true) (h : ∀ w, LibG P w → Calls P f #[x] w fun e w' => e = .returned y ∧ Below w.heap.size w w') : J P (.call f [.s x] [] (.s y) []) := by
  refine .lib fun c w xs hg hs hx hr => ?_
  have e : xs = #[x] := by
    have h0 := (hr 0 (by simp)).s_inv.1
    have h1 : xs.size = 1 := hx
    refine Array.ext (by rw [h1]; rfl) fun i hi hi' => ?_
    obtain rfl : i = 0 := by omega
    have h2 : xs.getD 0 undef = xs[0] := by simp [Array.getD_eq_getD_getElem?, hi]
    rw [← h2, h0]
    rfl
  subst e
  refine (h w hg.lib).mono ?_
  rintro e w2 ⟨rfl, hb⟩
  obtain ⟨s2, s1⟩ := hs.on (w' := w2) (fun b hlt => hb.block b hlt) hb.size
  exact ⟨y, c, rfl, .i (.s hy), s1, s2, ⟨hb.os, hb.tape, hb.output, hb.size, fun b hno => hb.block b (by
    rcases Nat.lt_or_ge b w.heap.size with g | g
    · exact g
    · exact absurd (.inl g) (hno 0))⟩, fun t b hq => .inl hq⟩
theorem flatS : ∀ xs : List ByteArray, xs.flatMap encS = xs.map S
  | [] => rfl
  | x :: r => by rw [List.flatMap_cons, List.map_cons, flatS r]; rfl
theorem two_args {c : Cx} {L : Nat → Option Nat} {w : World} {x y : Value} {xs : Array Value} (hx : xs.size = 2) (hr : ∀ i (h : i < [V.s x, V.s y].length), R c L w [V.s x, V.s y][i] (xs.getD i undef)) : xs = #[x, y] := by
  have h0 := (hr 0 (by simp)).s_inv.1
  have h1 := (hr 1 (by simp)).s_inv.1
  refine Array.ext (by rw [hx]; rfl) fun i hi hi' => ?_
  have h2 : xs.getD i undef = xs[i] := by simp [Array.getD_eq_getD_getElem?, hi]
  rcases (by omega : i = 0 ∨ i = 1) with rfl | rfl
  · rw [← h2, h0]; rfl
  · rw [← h2, h1]; rfl
/-- .. that gives texts: a new row that nobody writes. -/
theorem lib_strs2 {f : FuncId} {a b : ByteArray} {xs : List ByteArray} {ty : TypeId} (h : ∀ w, LibG P w → Calls P f #[.string a, .string b] w fun e w' => e = .returned (.slice (some ⟨w.heap.size, 0, none⟩) xs.length xs.length) ∧ w' = w.alloc (.cells (xs.map Value.string).toArray ty)) : J P (.call f [S a, S b] [] (.sl false xs.length 1 (xs.flatMap encS)) []) := by
  refine .lib fun c w as hg hs hx hr => ?_
  have e := two_args hx hr
  subst e
  refine (h w hg.lib).mono ?_
  rintro e w2 ⟨rfl, rfl⟩
  obtain ⟨c2, hc2⟩ : ∃ c2 : Cx, c2 = { φ := c.φ, ph := c.ph, ok := fun t q => c.ok t q ∨ q = w.heap.size, ψ := c.ψ } := ⟨_, rfl⟩
  have hold : ∀ q, q < w.heap.size → (w.alloc (.cells (xs.map Value.string).toArray ty)).heap[q]? = w.heap[q]? := fun q hq => Below.heap_alloc w _ q hq
  have hnew : (w.alloc (.cells (xs.map Value.string).toArray ty)).heap[w.heap.size]? = some (.cells (xs.map Value.string).toArray ty) := by show (w.heap.push _)[w.heap.size]? = _; simp
  have hsz : (w.alloc (.cells (xs.map Value.string).toArray ty)).heap.size = w.heap.size + 1 := by simp
  have hok : ∀ t q, c2.ok t q ↔ (c.ok t q ∨ q = w.heap.size) := by intro t q; rw [hc2]
  have hfl : xs.flatMap encS = xs.map S := flatS xs
  have he : Ext c (ln (hget [])) w c2 (ln (hget [])) (w.alloc (.cells (xs.map Value.string).toArray ty)) :=
    ⟨fun t q hq => ⟨(hok t q).2 (.inl hq), hold q (hs.okb t q hq)⟩, fun k l hl => by simp [ln, hget] at hl⟩
  refine ⟨_, c2, rfl, .i (.sl (u := fun i => .string (xs.getD i ByteArray.empty)) ((hok _ _).2 (.inr rfl)) (Nat.le_refl _) (by rw [hfl]; simp) (fun i hi => ?_) (fun i _ => rfl) (fun i hi => ?_)),
    ⟨fun k cs hk => by simp [hget] at hk, fun k cs b hk => by simp [hget] at hk, fun k k' cs cs' b hk => by simp [hget] at hk, fun t q hq => ?_, fun k q hq => hs.fresh k q (by omega), fun q hq => ?_, Nest.nil fun k cs hk => by simp [hget] at hk⟩, he, ⟨rfl, rfl, rfl, by omega, fun q hno => hold q ?_⟩, fun t q hq => ?_⟩
  · have hi' : i < xs.length := by rw [hfl, List.length_map] at hi; exact hi
    have hn : w.heap.size < (w.alloc (.cells (xs.map Value.string).toArray ty)).heap.size := by omega
    show World.cell? _ ⟨w.heap.size, 0 + i, none⟩ = _
    unfold World.cell?
    rw [show (⟨w.heap.size, 0 + i, none⟩ : Addr).block = w.heap.size from rfl, hnew]
    simp [hi']
  · have hi' : i < xs.length := by rw [hfl, List.length_map] at hi; exact hi
    have : (xs.flatMap encS)[i] = S (xs.getD i ByteArray.empty) := by
      have h1 : (xs.flatMap encS)[i]? = some (S (xs.getD i ByteArray.empty)) := by rw [hfl]; simp [hi']
      exact (List.getElem?_eq_some_iff.1 h1).2
    rw [this]
    exact .s rfl
  · rcases (hok t q).1 hq with h | h
    · have := hs.okb t q h; omega
    · omega
  · rcases (hok false q).1 hq with h | h
    · exact (hok true q).2 (.inl (hs.mono q h))
    · exact (hok true q).2 (.inr h)
  · rcases Nat.lt_or_ge q w.heap.size with g | g
    · exact g
    · exact absurd (.inl g) (hno 0)
  · rcases (hok t q).1 hq with h | h
    · exact .inl h
    · exact .inr ⟨by omega, (hok false q).2 (.inr h)⟩
/-- .. that gives two texts and a truth value. -/
theorem lib_cut2 {f : FuncId} {a b : ByteArray} {x y : ByteArray} {t : Bool} (h : ∀ w, LibG P w → Calls P f #[.string a, .string b] w fun e w' => e = .returned (.tuple #[.string x, .string y, .bool t]) ∧ ∃ n, w' = w.drewN n) : J P (.call f [S a, S b] [] (.tp [S x, S y, B t]) []) := by
  refine .lib fun c w as hg hs hx hr => ?_
  have e := two_args hx hr
  subst e
  refine (h w hg.lib).mono ?_
  rintro e w2 ⟨rfl, n, rfl⟩
  obtain ⟨s2, s1⟩ := hs.on (w' := w.drewN n) (fun b hlt => rfl) (Nat.le_refl _)
  refine ⟨_, c, rfl, .tp rfl (fun i hi => ?_), s1, s2, ⟨rfl, rfl, rfl, Nat.le_refl _, fun _ _ => rfl⟩, fun t b hq => .inl hq⟩
  rcases (by have : i < 3 := hi; omega : i = 0 ∨ i = 1 ∨ i = 2) with rfl | rfl | rfl
  · exact .i (.s rfl)
  · exact .i (.s rfl)
  · exact .i (.s rfl)
end
end Go.Proofs.Ytpjmefdpjlhkhaa.Eng

/- The engine, part 24: plain laws of rounds, for the pure proofs: what holds from some number of rounds on; loops that count up, fill a list, compare two lists. -/
namespace Go.Proofs.Ytpjmefdpjlhkhaa.Eng
open Go.RowKit
set_option linter.unusedVariables false
set_option linter.unusedSimpArgs false
/-- From some number of rounds on the answer is r. -/
def Ev {α : Type} (g : Nat → Option α) (r : α) : Prop := ∃ K, ∀ k, K ≤ k → g k = some r
section
variable {α β : Type}
theorem Ev.now (r : α) : Ev (fun _ => some r) r := ⟨0, fun _ _ => rfl⟩
theorem Ev.rounds {g : Nat → Option α} {r : α} (h : Ev g r) : ∃ k, g k = some r := by
  obtain ⟨K, hK⟩ := h
  exact ⟨K, hK K (Nat.le_refl _)⟩
theorem Ev.bind {g : Nat → Option α} {f : Nat → α → Option β} {a : α} {r : β} (h : Ev g a) (k : Ev (fun n => f n a) r) : Ev (fun n => (g n).bind (f n)) r := by
  obtain ⟨K, hK⟩ := h
  obtain ⟨K', hK'⟩ := k
  exact ⟨max K K', fun n hn => by show (g n).bind (f n) = some r; rw [hK n (by omega)]; exact hK' n (by omega)⟩
theorem Ev.step {g f : Nat → Option α} {r : α} (h : ∀ k, g (k + 1) = f k) (k : Ev f r) : Ev g r := by
  obtain ⟨K, hK⟩ := k
  refine ⟨K + 1, fun n hn => ?_⟩
  obtain ⟨m, rfl⟩ : ∃ m, n = m + 1 := ⟨n - 1, by omega⟩
  rw [h]; exact hK m (by omega)
theorem Ev.congr {g f : Nat → Option α} {r : α} (h : ∀ k, g k = f k) (k : Ev f r) : Ev g r := by
  obtain ⟨K, hK⟩ := k
  exact ⟨K, fun n hn => by rw [h]; exact hK n hn⟩
theorem Ev.ite {c : Prop} [Decidable c] {g f : Nat → Option α} {r : α} (h : c → Ev g r) (h' : ¬ c → Ev f r) : Ev (fun k => if c then g k else f k) r := by
  by_cases hc : c
  · simp only [if_pos hc]; exact h hc
  · simp only [if_neg hc]; exact h' hc
theorem Ev.pos {c : Prop} [Decidable c] {g f : Nat → Option α} {r : α} (hc : c) (h : Ev g r) : Ev (fun k => if c then g k else f k) r := by simp only [if_pos hc]; exact h
theorem Ev.neg {c : Prop} [Decidable c] {g f : Nat → Option α} {r : α} (hc : ¬ c) (h : Ev f r) : Ev (fun k => if c then g k else f k) r := by simp only [if_neg hc]; exact h
theorem Ev.val {a r : α} {f : Nat → α → Option β} {b : β} (h : a = r) (k : Ev (fun n => f n r) b) : Ev (fun n => (some a).bind (f n)) b := by subst h; exact k
theorem Ev.opt {g : Option α} {f : Nat → α → Option β} {a : α} {b : β} (h : g = some a) (k : Ev (fun n => f n a) b) : Ev (fun n => g.bind (f n)) b := by subst h; exact k
end
theorem wrap_id {x : Int} (h0 : -9223372036854775808 ≤ x) (h1 : x < 9223372036854775808) : wrap64 x = x := by unfold wrap64; omega
theorem wrap_succ {i n : Nat} (h : i < n) (hn : n ≤ 9223372036854775807) : wrap64 ((i : Int) + 1) = ((i + 1 : Nat) : Int) := by unfold wrap64; omega
theorem wf_lo {x : Int} (h : (Lit.int .i64 x).wf = true) : -9223372036854775808 ≤ x := by
  simp only [Lit.wf, Bool.and_eq_true, decide_eq_true_eq] at h
  have h1 : IntKind.i64.min = -9223372036854775808 := by decide
  omega
theorem wf_hi {x : Int} (h : (Lit.int .i64 x).wf = true) : x ≤ 9223372036854775807 := by
  simp only [Lit.wf, Bool.and_eq_true, decide_eq_true_eq] at h
  have h1 : IntKind.i64.max = 9223372036854775807 := by decide
  omega
theorem getD_nat {α : Type} {xs : List α} {i : Nat} (z : α) (h : i < xs.length) : xs.getD (i : Int).toNat z = xs[i] := by
  rw [Int.toNat_natCast, List.getD_eq_getElem?_getD, List.getElem?_eq_getElem h]
  rfl
theorem at_nat {α : Type} [Inhabited α] {xs : List α} {i : Nat} (h : i < xs.length) : at_ xs (i : Int) = xs[i] := getD_nat default h
theorem bool_of {b : Bool} {P : Prop} (hb : b = true ↔ P) (h : P) : b = true := hb.2 h
theorem bool_not {b : Bool} {P : Prop} (hb : b = true ↔ P) (h : ¬ P) : b = false := by
  cases b with
  | false => rfl
  | true => exact absurd (hb.1 rfl) h
/-- The answer is the same. -/
theorem Ev.cast {R : Type} {g : Nat → Option R} {r r' : R} (h : Ev g r) (e : r = r') : Ev g r' := e ▸ h
theorem ev_val {R : Type} {a r : R} (e : a = r) : Ev (fun _ => some a) r := ⟨0, fun _ _ => by rw [e]⟩
theorem ev_opt {R : Type} {a : Option R} {r : R} (e : a = some r) : Ev (fun _ => a) r := ⟨0, fun _ _ => e⟩
/-- A loop that counts up: it stops at the first place where c holds, or at the end. -/
theorem ev_run {R : Type} (G : Nat → Nat → Option R) (c : Nat → Bool) (n : Nat) {r : R}
    (h : ∀ i, i < n → c i = false → Ev (fun k => G k (i + 1)) r → Ev (fun k => G k i) r)
    (hex : ∀ i, i < n → c i = true → (∀ j, j < i → c j = false) → Ev (fun k => G k i) r)
    (hend : (∀ j, j < n → c j = false) → Ev (fun k => G k n) r) : Ev (fun k => G k 0) r := by
  have key : ∀ d i, i + d = n → (∀ j, j < i → c j = false) → Ev (fun k => G k i) r := by
    intro d
    induction d with
    | zero =>
      intro i hi hc
      obtain rfl : i = n := by omega
      exact hend hc
    | succ d ih =>
      intro i hi hc
      cases hci : c i with
      | true => exact hex i (by omega) hci hc
      | false =>
        refine h i (by omega) hci (ih (i + 1) (by omega) fun j hj => ?_)
        rcases Nat.lt_or_ge j i with hl | hg
        · exact hc j hl
        · obtain rfl : j = i := by omega
          exact hci
  exact key n 0 (by omega) (fun j hj => absurd hj (Nat.not_lt_zero _))
/-- A loop that counts up and never stops ahead of the end. -/
theorem ev_fold {R : Type} (G : Nat → Nat → Option R) (n : Nat) {r : R}
    (h : ∀ i, i < n → Ev (fun k => G k (i + 1)) r → Ev (fun k => G k i) r) (hend : Ev (fun k => G k n) r) : Ev (fun k => G k 0) r :=
  ev_run G (fun _ => false) n (fun i hi _ => h i hi) (fun _ _ h => by cases h) (fun _ => hend)
theorem fill_step {α β : Type} (xs : List α) (f : α → β) (z : β) (i : Nat) (hi : i < xs.length) :
    ((xs.take i).map f ++ List.replicate (xs.length - i) z).set i (f xs[i]) = (xs.take (i + 1)).map f ++ List.replicate (xs.length - (i + 1)) z := by
  have hl : ((xs.take i).map f).length = i := by simp; omega
  rw [List.set_append_right _ _ (by omega), hl, Nat.sub_self]
  have hr : xs.length - i = (xs.length - (i + 1)) + 1 := by omega
  rw [hr, List.replicate_succ, List.set_cons_zero, List.take_succ_eq_append_getElem hi, List.map_append]
  simp
/-- A list is filled place by place. -/
theorem ev_fill {R α β : Type} (xs : List α) (f : α → β) (z : β) (G : Nat → List β → Nat → Option R) {r : R}
    (h : ∀ i (hi : i < xs.length) (s : List β), s.length = xs.length → Ev (fun k => G k (s.set i (f xs[i])) (i + 1)) r → Ev (fun k => G k s i) r)
    (hend : Ev (fun k => G k (xs.map f) xs.length) r) : Ev (fun k => G k (List.replicate xs.length z) 0) r := by
  have := ev_fold (fun k i => G k ((xs.take i).map f ++ List.replicate (xs.length - i) z) i) xs.length (r := r)
    (fun i hi hn => h i hi _ (by simp; omega) (by rw [fill_step xs f z i hi]; exact hn)) (by simpa using hend)
  simpa using this
/-- Two lists of one length are compared place by place. -/
theorem ev_same {α : Type} (xs ys : List α) (hl : xs.length = ys.length) (G : Nat → Nat → Option Bool) {b : Bool} (hb : b = true ↔ xs = ys)
    (hstep : ∀ i (hi : i < xs.length) (hi' : i < ys.length), xs[i] = ys[i] → Ev (fun k => G k (i + 1)) b → Ev (fun k => G k i) b)
    (hbad : ∀ i (hi : i < xs.length) (hi' : i < ys.length), xs[i] ≠ ys[i] → Ev (fun k => G k i) false)
    (hend : Ev (fun k => G k xs.length) true) : Ev (fun k => G k 0) b := by
  classical
  refine ev_run G (fun i => decide (∃ h : i < xs.length, ∃ h' : i < ys.length, xs[i] ≠ ys[i])) xs.length ?_ ?_ ?_
  · intro i hi hc hn
    have hc := of_decide_eq_false hc
    exact hstep i hi (hl ▸ hi) (Classical.not_not.1 fun hne => hc ⟨hi, hl ▸ hi, hne⟩) hn
  · intro i hi hc _
    obtain ⟨h1, h2, hne⟩ := of_decide_eq_true hc
    refine Ev.cast (hbad i h1 h2 hne) (bool_not hb fun e => hne ?_).symm
    subst e
    rfl
  · intro hc
    refine Ev.cast hend (bool_of hb ?_).symm
    refine List.ext_getElem hl fun i h1 h2 => ?_
    exact Classical.not_not.1 fun hne => of_decide_eq_false (hc i h1) ⟨h1, h2, hne⟩
/-- All elements are right, or one is not. -/
theorem ev_all {α : Type} (xs : List α) (p : α → Prop) (G : Nat → Nat → Option Bool) {b : Bool} (Q : Prop) (hb : b = true ↔ (∀ x ∈ xs, p x) ∧ Q)
    (hstep : ∀ i (hi : i < xs.length), p xs[i] → Ev (fun k => G k (i + 1)) b → Ev (fun k => G k i) b)
    (hbad : ∀ i (hi : i < xs.length), ¬ p xs[i] → Ev (fun k => G k i) false)
    (hend : (∀ x ∈ xs, p x) → (b = true ↔ Q) → Ev (fun k => G k xs.length) b) : Ev (fun k => G k 0) b := by
  classical
  refine ev_run G (fun i => decide (∃ h : i < xs.length, ¬ p xs[i])) xs.length ?_ ?_ ?_
  · intro i hi hc hn
    have hc := of_decide_eq_false hc
    exact hstep i hi (Classical.not_not.1 fun hne => hc ⟨hi, hne⟩) hn
  · intro i hi hc _
    obtain ⟨h1, hne⟩ := of_decide_eq_true hc
    exact Ev.cast (hbad i h1 hne) (bool_not hb fun e => hne (e.1 _ (List.getElem_mem h1))).symm
  · intro hc
    have hp : ∀ x ∈ xs, p x := by
      intro x hx
      obtain ⟨i, hi, rfl⟩ := List.getElem_of_mem hx
      exact Classical.not_not.1 fun hne => of_decide_eq_false (hc i hi) ⟨hi, hne⟩
    exact hend hp ⟨fun h => (hb.1 h).2, fun h => hb.2 ⟨hp, h⟩⟩
theorem wrap_pred {i : Nat} (h : 0 < i) (hn : i ≤ 9223372036854775807) : wrap64 ((i : Int) - 1) = ((i - 1 : Nat) : Int) := by unfold wrap64; omega
/-- All places are right, or one is not. -/
theorem ev_allI (n : Nat) (P : Nat → Prop) (G : Nat → Nat → Option Bool) {b : Bool} (Q : Prop) (hb : b = true ↔ (∀ i, i < n → P i) ∧ Q)
    (hstep : ∀ i, i < n → P i → Ev (fun k => G k (i + 1)) b → Ev (fun k => G k i) b)
    (hbad : ∀ i, i < n → ¬ P i → Ev (fun k => G k i) false)
    (hend : (∀ i, i < n → P i) → (b = true ↔ Q) → Ev (fun k => G k n) b) : Ev (fun k => G k 0) b := by
  classical
  refine ev_run G (fun i => decide (¬ P i)) n ?_ ?_ ?_
  · intro i hi hc hn
    exact hstep i hi (Classical.not_not.1 (of_decide_eq_false hc)) hn
  · intro i hi hc _
    have hne := of_decide_eq_true hc
    exact Ev.cast (hbad i hi hne) (bool_not hb fun e => hne (e.1 i hi)).symm
  · intro hc
    have hp : ∀ i, i < n → P i := fun i hi => Classical.not_not.1 (of_decide_eq_false (hc i hi))
    exact hend hp ⟨fun h => (hb.1 h).2, fun h => hb.2 ⟨hp, h⟩⟩
theorem least_of {p : Nat → Prop} (h : ∃ n, p n) : ∃ n, p n ∧ ∀ m, m < n → ¬ p m := by
  classical
  obtain ⟨n, hn⟩ := h
  induction n using Nat.strongRecOn with
  | ind n ih =>
    by_cases hm : ∃ m, m < n ∧ p m
    · obtain ⟨m, h1, h2⟩ := hm
      exact ih m h1 h2
    · exact ⟨n, hn, fun m h1 h2 => hm ⟨m, h1, h2⟩⟩
/-- The first place where c holds, or none. -/
def FindR {R : Type} (n : Nat) (c : Nat → Prop) (out : Nat → R) (fin r : R) : Prop :=
  (r = fin ∧ ∀ i, i < n → ¬ c i) ∨ ∃ i, i < n ∧ c i ∧ (∀ j, j < i → ¬ c j) ∧ r = out i
theorem FindR.exists {R : Type} (n : Nat) (c : Nat → Prop) (out : Nat → R) (fin : R) : ∃ r, FindR n c out fin r := by
  classical
  by_cases h : ∃ i, i < n ∧ c i
  · obtain ⟨i, ⟨h1, h2⟩, hm⟩ := least_of h
    exact ⟨out i, .inr ⟨i, h1, h2, fun j hj hc => hm j hj ⟨Nat.lt_trans hj h1, hc⟩, rfl⟩⟩
  · exact ⟨fin, .inl ⟨rfl, fun i hi hc => h ⟨i, hi, hc⟩⟩⟩
theorem ev_find {R : Type} (n : Nat) (c : Nat → Prop) (out : Nat → R) (fin r : R) (G : Nat → Nat → Option R) (hr : FindR n c out fin r)
    (hstep : ∀ i, i < n → ¬ c i → Ev (fun k => G k (i + 1)) r → Ev (fun k => G k i) r)
    (hx : ∀ i, i < n → c i → (∀ j, j < i → ¬ c j) → Ev (fun k => G k i) (out i)) (hend : (∀ i, i < n → ¬ c i) → Ev (fun k => G k n) fin) : Ev (fun k => G k 0) r := by
  classical
  refine ev_run G (fun i => decide (c i)) n ?_ ?_ ?_
  · intro i hi hc hn
    exact hstep i hi (of_decide_eq_false hc) hn
  · intro i hi hc hno
    have hci := of_decide_eq_true hc
    have hno' : ∀ j, j < i → ¬ c j := fun j hj => of_decide_eq_false (hno j hj)
    refine Ev.cast (hx i hi hci hno') ?_
    rcases hr with ⟨_, h⟩ | ⟨i0, h1, h2, h3, h4⟩
    · exact absurd hci (h i hi)
    · rcases Nat.lt_trichotomy i0 i with hl | he | hg
      · exact absurd h2 (hno' i0 hl)
      · rw [h4, he]
      · exact absurd hci (h3 i hg)
  · intro hc
    have hno : ∀ i, i < n → ¬ c i := fun i hi => of_decide_eq_false (hc i hi)
    refine Ev.cast (hend hno) ?_
    rcases hr with ⟨h, _⟩ | ⟨i0, h1, h2, _⟩
    · exact h.symm
    · exact absurd h2 (hno i0 h1)
end Go.Proofs.Ytpjmefdpjlhkhaa.Eng

/- The engine, part 25: rows whose elements are arrays of numbers; arrays as values. -/
namespace Go.Proofs.Ytpjmefdpjlhkhaa.Eng
open Go.RowKit
set_option linter.unusedVariables false
set_option linter.unusedSimpArgs false
/-- An array of m numbers, read off a list. -/
def encA (m : Nat) (x : List Int) : List V := (List.range m).map fun (j : Nat) => I (at_ x (j : Int))
def arr (m : Nat) (x : List Int) : List Int := (List.range m).map fun (j : Nat) => at_ x (j : Int)
def aset (m : Nat) (x : List Int) (n v : Int) : List Int := (List.range m).map fun (j : Nat) => if (j : Int) = n then v else at_ x (j : Int)
@[simp] theorem arr_len (m : Nat) (x : List Int) : (arr m x).length = m := by simp [arr]
@[simp] theorem aset_len (m : Nat) (x : List Int) (n v : Int) : (aset m x n v).length = m := by simp [aset]
theorem encA_ok (m : Nat) : Enc (encA m) m where
  len := fun x => by simp [encA]
  self := fun x v h H tb bor => by
    obtain ⟨j, _, rfl⟩ := List.mem_map.1 h
    exact .s
  cln := fun x v h => by
    obtain ⟨j, _, rfl⟩ := List.mem_map.1 h
    exact .s
theorem encA_c {b : Bool} (m : Nat) : EncC b (encA m) := fun x v h => by
  obtain ⟨j, _, rfl⟩ := List.mem_map.1 h
  exact .s
theorem encA_s (m : Nat) : EncS (encA m) := fun x v h => by
  obtain ⟨j, _, rfl⟩ := List.mem_map.1 h
  exact ⟨_, rfl⟩
theorem encA_get {m : Nat} {x : List Int} {n : Int} (h0 : 0 ≤ n) (h1 : n < (m : Int)) : (encA m x)[n.toNat]? = some (I (at_ x n)) := by
  have h : n.toNat < m := by omega
  have e : ((n.toNat : Nat) : Int) = n := by omega
  simp [encA, h, e]
theorem arr_at {m : Nat} {x : List Int} {n : Int} (h0 : 0 ≤ n) (h1 : n < (m : Int)) : at_ (arr m x) n = at_ x n := by
  have h : n.toNat < m := by omega
  have e : ((n.toNat : Nat) : Int) = n := by omega
  unfold at_ arr
  rw [List.getD_eq_getElem?_getD, List.getElem?_map, List.getElem?_range h]
  simp only [Option.map_some, Option.getD_some, Int.toNat_natCast]
  rfl
theorem aset_at {m : Nat} {x : List Int} {n v : Int} {j : Int} (h0 : 0 ≤ j) (h1 : j < (m : Int)) : at_ (aset m x n v) j = if j = n then v else at_ x j := by
  have h : j.toNat < m := by omega
  have e : ((j.toNat : Nat) : Int) = j := by omega
  unfold aset
  rw [at_, List.getD_eq_getElem?_getD, List.getElem?_map, List.getElem?_range h]
  simp only [Option.map_some, Option.getD_some, e]
theorem encA_set {m : Nat} {x : List Int} {n v : Int} (h0 : 0 ≤ n) (h1 : n < (m : Int)) : spl (encA m x) n.toNat [I v] = encA m (aset m x n v) := by
  show (encA m x).set n.toNat (I v) = _
  refine List.ext_getElem? fun j => ?_
  by_cases hj : j < m
  · have ha := aset_at (m := m) (x := x) (n := n) (v := v) (j := (j : Int)) (by omega) (by omega)
    have g : (encA m (aset m x n v))[j]? = some (I (at_ (aset m x n v) (j : Int))) := by simp [encA, hj]
    rw [g, ha]
    by_cases e : n.toNat = j
    · subst e
      rw [List.getElem?_set_self (by rw [(encA_ok m).len]; exact hj), if_pos (by omega)]
    · rw [List.getElem?_set_ne e, if_neg (by omega)]
      simp [encA, hj]
  · rw [List.getElem?_eq_none (by rw [List.length_set, (encA_ok m).len]; omega), List.getElem?_eq_none (by rw [(encA_ok m).len]; omega)]
section
variable {P : Program} {t : TypeId} {m : Nat} {xs : List (List Int)} {i n : Int}
/-- A cell of an array of the row is read. -/
theorem ldAA (ha : isAg P t = false) (h0 : 0 ≤ i) (h1 : i < (xs.length : Int)) (g0 : 0 ≤ n) (g1 : n < (m : Int)) : rdC P t ((xs.flatMap (encA m)).drop (0 + i.toNat * m + n.toNat * 1)) = I (at_ (at_ xs i) n) := by
  rw [Nat.mul_one, ldC0 (encA_ok m) n.toNat (by omega) ha h0 h1]
  have h := encA_get (x := at_ xs i) g0 g1
  rw [List.headD_eq_head?_getD, List.head?_drop, h]
  rfl
theorem okAA (h0 : 0 ≤ i) (h1 : i < (xs.length : Int)) (g0 : 0 ≤ n) (g1 : n < (m : Int)) : xs.length * m = (xs.flatMap (encA m)).length ∧ 0 + i.toNat * m + n.toNat * 1 + 1 ≤ (xs.flatMap (encA m)).length := by
  rw [Nat.mul_one]
  exact okA (encA_ok m) h0 h1 (by omega)
/-- .. is written. -/
theorem stAA {v : Int} (h0 : 0 ≤ i) (h1 : i < (xs.length : Int)) (g0 : 0 ≤ n) (g1 : n < (m : Int)) : spl (xs.flatMap (encA m)) (0 + i.toNat * m + n.toNat * 1) [I v] = (xs.set i.toNat (aset m (at_ xs i) n v)).flatMap (encA m) := by
  rw [Nat.mul_one]
  exact st_row (encA_ok m) n.toNat h0 h1 (by simp only [List.length_singleton]; omega) (encA_set g0 g1)
end
theorem row_reptA {m : Nat} {z : List V} (hm : m ≠ 1) (hz : z = List.replicate m (I 0)) (n : Nat) : rept n z = (List.replicate n (List.replicate m (0 : Int))).flatMap (encA m) := by
  have e : z = encA m (List.replicate m (0 : Int)) := by
    rw [hz]
    refine List.ext_getElem? fun j => ?_
    by_cases hj : j < m
    · simp [encA, hj, at_]
    · rw [List.getElem?_eq_none (by rw [List.length_replicate]; omega), List.getElem?_eq_none (by rw [(encA_ok m).len]; omega)]
  rw [e]
  exact row_rept (by rw [(encA_ok m).len]; exact hm) n
/-- A whole array is written over another. -/
theorem spl_all : ∀ (vs cs p : List V), cs.length = vs.length → spl (p ++ cs) p.length vs = p ++ vs
  | [], cs, p, h => by
    have : cs = [] := List.eq_nil_of_length_eq_zero h
    subst this
    rfl
  | v :: r, [], p, h => by simp at h
  | v :: r, c :: cs, p, h => by
    rw [spl, List.set_append_right _ _ (by omega), Nat.sub_self, List.set_cons_zero]
    have := spl_all r cs (p ++ [v]) (by simpa using h)
    simp only [List.length_append, List.length_singleton, List.append_assoc, List.singleton_append] at this
    exact this
theorem arr_flat (m : Nat) (x : List Int) : (arr m x).flatMap encI = encA m x := by
  unfold arr encA
  rw [List.flatMap_map]
  induction (List.range m) with
  | nil => rfl
  | cons j r ih => rw [List.flatMap_cons, List.map_cons, ih]; rfl
theorem stAll {m : Nat} {ys x : List Int} (h : ys.length = m) : spl (ys.flatMap encI) 0 (encA m x) = (arr m x).flatMap encI := by
  rw [arr_flat]
  have := spl_all (encA m x) (ys.flatMap encI) [] (by rw [(encA_ok m).len, row_len encI_ok, h]; omega)
  simpa using this
theorem okAllS {m : Nat} {ys x : List Int} (h : ys.length = m) : m = (ys.flatMap encI).length ∧ 0 + (encA m x).length ≤ (ys.flatMap encI).length := by
  rw [(encA_ok m).len, row_len encI_ok, h]; omega
section
variable {α : Type} {enc : α → List V} {P : Program} {t : TypeId} {m : Nat} {xs : List α}
/-- A whole row of m cells is read as an array. -/
theorem ldAll (he : Enc enc 1) (ha : isAg P t = true) (hc : P.cellsOf t = m) (h : xs.length = m) : rdC P t ((xs.flatMap enc).drop 0) = .ag (xs.flatMap enc) := by
  unfold rdC
  rw [ha, cond_true, hc, List.drop_zero, List.take_of_length_le (by rw [row_len he]; omega)]
theorem okAll (he : Enc enc 1) (h : xs.length = m) : xs.length * 1 = (xs.flatMap enc).length ∧ 0 + m ≤ (xs.flatMap enc).length := by
  rw [row_len he]; omega
theorem okAll0 (he : Enc enc 1) (h : xs.length = m) : m = (xs.flatMap enc).length ∧ 0 + m ≤ (xs.flatMap enc).length := by
  rw [row_len he]; omega
theorem ixAll [Inhabited α] (he : Enc enc 1) {i : Int} {v : V} (h0 : 0 ≤ i) (h1 : i < (xs.length : Int)) (hv : enc (at_ xs i) = [v]) : (xs.flatMap enc).getD i.toNat .un = v := by
  obtain ⟨rest, h⟩ := row_at he h0 h1
  rw [Nat.mul_one, hv] at h
  have : (xs.flatMap enc)[i.toNat]? = some v := by
    rw [← List.head?_drop, h]; rfl
  rw [List.getD_eq_getElem?_getD, this]; rfl
theorem okIx (he : Enc enc 1) {i : Int} (h0 : 0 ≤ i) (h1 : i < (m : Int)) (h : xs.length = m) : (0 : Int) ≤ i ∧ i < (m : Int) ∧ m = (xs.flatMap enc).length := by
  rw [row_len he]; omega
theorem frz_arf (he : Enc enc 1) {H : Nat → Option (List V)} {tb : Bool} {bor : List Nat} : Frz H tb bor (.ag (xs.flatMap enc)) (.ag (xs.flatMap enc)) := frz_ag (All2.refl fun v hv => by
  obtain ⟨x, _, hx⟩ := List.mem_flatMap.1 hv
  exact he.self x v hx _ _ _)
end
theorem frz_ar (m : Nat) {x : List Int} {H : Nat → Option (List V)} {tb : Bool} {bor : List Nat} : Frz H tb bor (.ag (encA m x)) (.ag (encA m x)) := frz_ag (All2.refl fun v hv => (encA_ok m).self x v hv _ _ _)
end Go.Proofs.Ytpjmefdpjlhkhaa.Eng

/- The engine, part 26: maps of keys that are arrays of numbers, as printed proofs tell them. -/
namespace Go.Proofs.Ytpjmefdpjlhkhaa.Eng
open Go.RowKit
set_option linter.unusedVariables false
set_option linter.unusedSimpArgs false
def kV (x : List Int) : V := .ag (x.flatMap encI)
/-- A map's row: its keys. -/
def mrow (xs : List (List Int)) : List V := [.fn (.func 0) [] (xs.map kV)]
def kHas (xs : List (List Int)) (x : List Int) : Bool := xs.any fun y => decide (x = y)
def kIns (xs : List (List Int)) (x : List Int) : List (List Int) := if kHas xs x then xs else xs ++ [x]
def kOk1 (m : Nat) (x : List Int) : Bool := decide (x.length = m) && x.all fun n => (Lit.int .i64 n).wf
def kOk (m : Nat) (xs : List (List Int)) : Bool := xs.all (kOk1 m)
theorem encI_map (x : List Int) : x.flatMap encI = x.map fun n => V.s (.int .i64 n) := by
  induction x with
  | nil => rfl
  | cons n r ih => rw [List.flatMap_cons, ih]; rfl
theorem hasK_kV (xs : List (List Int)) (x : List Int) : hasK (xs.map kV) (x.flatMap encI) = kHas xs x := by
  unfold hasK kHas
  rw [List.any_map]
  congr 1
  funext y
  show sameK (x.flatMap encI) (kV y) = _
  unfold kV
  rw [encI_map, encI_map, sameK_key]
theorem lkV (xs : List (List Int)) (x : List Int) : (B (hasK (xs.map kV) (x.flatMap encI)) : V) = B (kHas xs x) := by rw [hasK_kV]
theorem upV (xs : List (List Int)) (x : List Int) : [V.fn (.func 0) [] (bif hasK (xs.map kV) (x.flatMap encI) then xs.map kV else xs.map kV ++ [.ag (x.flatMap encI)])] = mrow (kIns xs x) := by
  rw [hasK_kV]
  unfold mrow kIns
  cases kHas xs x with
  | true => rfl
  | false => simp [kV]
theorem keyP_of {m : Nat} {x : List Int} (h : kOk1 m x = true) : KeyP m (.ag (x.flatMap encI)) := by
  unfold kOk1 at h
  rw [Bool.and_eq_true, decide_eq_true_eq, List.all_eq_true] at h
  exact ⟨x, by rw [encI_map], h.1, h.2⟩
theorem kob {m : Nat} {xs : List (List Int)} {x : List Int} (h : kOk m xs = true) (h1 : kOk1 m x = true) : (∀ v, v ∈ xs.map kV → KeyP m v) ∧ KeyP m (.ag (x.flatMap encI)) := by
  refine ⟨fun v hv => ?_, keyP_of h1⟩
  obtain ⟨y, hy, rfl⟩ := List.mem_map.1 hv
  unfold kOk at h
  exact keyP_of (List.all_eq_true.1 h y hy)
theorem frz_k {H : Nat → Option (List V)} {tb : Bool} {bor : List Nat} {v : V} {xs : List (List Int)} (h : v ∈ xs.map kV) : Frz H tb bor v v := by
  obtain ⟨y, hy, rfl⟩ := List.mem_map.1 h
  exact frz_arf encI_ok
theorem mrowC {H : Nat → Option (List V)} {tb : Bool} {bor : List Nat} {km : List (Nat × Nat)} (xs : List (List Int)) : All2 (Cnv H tb bor km) (mrow xs) (mrow xs) :=
  a2c (cnv_fn a2n (All2.refl fun v hv => .z (frz_k hv))) a2n
theorem bck_fn {b : Bool} {km : List (Nat × Nat)} {f : Fn} {x x' y y' : List V} (h : All2 (Bck b km) x x') (h2 : All2 (Bck b km) y y') : Bck b km (.fn f x y) (.fn f x' y') := .fn h.len h2.len h.at_ h2.at_
theorem cln_k {b : Bool} {v : V} {xs : List (List Int)} (h : v ∈ xs.map kV) : Cln b v := by
  obtain ⟨y, hy, rfl⟩ := List.mem_map.1 h
  refine .ag fun v hv => ?_
  obtain ⟨n, _, hn⟩ := List.mem_flatMap.1 hv
  exact encI_c n v hn
theorem mrowB {b : Bool} {km : List (Nat × Nat)} (xs : List (List Int)) : All2 (Bck b km) (mrow xs) (mrow xs) :=
  a2c (bck_fn a2n (All2.refl fun v hv => .z (cln_k hv))) a2n
end Go.Proofs.Ytpjmefdpjlhkhaa.Eng

