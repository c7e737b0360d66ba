/- How a row's datum, read by the model's reader, tells a value of a printed kind: whole numbers, bools, strings, slices and structs, nested as they may be. -/
import Derived.Test.YtomkglmlhoaniaaVFnExactLateness
import Derived.Deep.Slices
import Derived.ChangeSame
import Derived.ChangeArms
namespace Go.Proofs.Ytomkglmlhoaniaa.Tells
open Go.ChangeShapes Go.WideShapes Go.Deep Go.Proofs.YtomkglmlhoaniaaW.PrintWords
/-- What is read at type t is of the kind d, and is right (ok). -/
def Tells (P : Program) (t : TypeId) {α : Type} (d : Kd α) (ok : α → Prop) : Prop :=
  ∀ (H : Type) (enc : TypeId × Value → H) (w : World) (base : Nat) (spare : Nat → Bool) (held : Bool) (fuel : Nat) (cs : List Value) (y : DataW H × List MemPlace),
    DataW.trod enc P w base spare held fuel t cs = some y → ∃ x : α, d.K w x cs ∧ ok x
/-- The same of fields in line, from the place off on. -/
def TellsF (P : Program) (fs : List Field) (off : Nat) {α : Type} (d : Kd α) (ok : α → Prop) : Prop :=
  ∀ (H : Type) (enc : TypeId × Value → H) (w : World) (base : Nat) (spare : Nat → Bool) (held : Bool) (fuel : Nat) (cs : List Value) (ys : List (DataW H × List MemPlace)),
    fs.mapM (fun f => DataW.trod enc P w base spare held fuel f.type ((cs.drop f.offset).take (P.cellsOf f.type))) = some ys → cs.length = off + d.sz → ∃ x : α, d.K w x (cs.drop off) ∧ ok x
variable {P : Program}
theorem Tells.int {t : TypeId} {k : IntKind} (ht : P.underlying t = some (.int k)) : Tells P t (Kd.int k) (fun n => (Lit.int k n).wf = true) := by
  intro H enc w base spare held fuel cs y h
  obtain ⟨n, rfl, _, hw⟩ := DataW.trod_int ht h
  exact ⟨n, rfl, hw⟩
theorem Tells.bool {t : TypeId} (ht : P.underlying t = some .bool) : Tells P t Kd.bool (fun _ => True) := by
  intro H enc w base spare held fuel cs y h
  obtain ⟨n, rfl, _⟩ := DataW.trod_bool ht h
  exact ⟨n, rfl, trivial⟩
theorem Tells.string {t : TypeId} (ht : P.underlying t = some .string) : Tells P t Kd.string (fun s => s.size ≤ maxLen) := by
  intro H enc w base spare held fuel cs y h
  obtain ⟨n, rfl, _, hw⟩ := DataW.trod_string ht h
  exact ⟨n, rfl, hw⟩
theorem Tells.iso {α β : Type} {t : TypeId} {d : Kd α} {ok : α → Prop} (h : Tells P t d ok) (f : β → α) (g : α → β) (hg : ∀ a, f (g a) = a) (ok' : β → Prop) (hok : ∀ b, ok (f b) → ok' b) : Tells P t (Kd.iso d f) ok' := by
  intro H enc w base spare held fuel cs y hy
  obtain ⟨x, hx, ho⟩ := h H enc w base spare held fuel cs y hy
  exact ⟨g x, by show d.K w (f (g x)) cs; rw [hg]; exact hx, hok _ (by rw [hg]; exact ho)⟩
theorem Tells.slice {α : Type} {t e q : TypeId} {d : Kd α} {ok : α → Prop} (ht : P.underlying t = some (.slice e)) (h : Tells P e d ok) (hsz : P.cellsOf e = d.sz) : Tells P t (Kd.slice q d) (fun l => l.length ≤ maxLen ∧ ∀ x ∈ l, ok x) := by
  intro H enc w base spare held fuel cs y hy
  rcases open_slice ht hy with ⟨rfl, _⟩ | ⟨a, len, cap, m, n, D, Pl, rfl, _, hl, hm, hmm, _, hi⟩
  · exact ⟨[], ⟨none, 0, rfl, Nat.le_refl _, rfl, by simp, fun hn => absurd hn (by simp)⟩, by simp, by simp⟩
  · have hle : len ≤ m := by rw [hmm]; split <;> omega
    have hel : ∀ i, i < len → ∃ (x : α) (c : List Value), w.cells? base (a.add (i * P.cellsOf e)) (P.cellsOf e) = some c ∧ d.K w x c ∧ ok x := by
      intro i hi'
      obtain ⟨c, hc, hd⟩ := hi i (by omega)
      obtain ⟨x, hx, ho⟩ := h H enc w base spare held n c _ hd
      exact ⟨x, c, hc, hx, ho⟩
    have hall : ∀ k, k ≤ len → ∃ l : List α, l.length = k ∧ ∀ i x, l[i]? = some x → ok x ∧ ∃ c, w.cells? base (a.add (i * P.cellsOf e)) (P.cellsOf e) = some c ∧ d.K w x c := by
      intro k
      induction k with
      | zero => intro _; exact ⟨[], rfl, fun i x hx => by simp at hx⟩
      | succ k ih =>
        intro hk
        obtain ⟨l, hl', hx⟩ := ih (by omega)
        obtain ⟨x, c, hc, hK, ho⟩ := hel k (by omega)
        refine ⟨l ++ [x], by simp [hl'], fun i z hz => ?_⟩
        rcases Nat.lt_or_ge i l.length with hlt | hge
        · rw [List.getElem?_append_left hlt] at hz
          exact hx i z hz
        · have hik : i = k := by
            have := (List.getElem?_eq_some_iff.1 hz).1
            simp at this
            omega
          subst hik
          have hzx : x = z := by
            rw [List.getElem?_append_right hge, hl'] at hz
            simpa using hz
          subst hzx
          exact ⟨ho, c, hc, hK⟩
    obtain ⟨l, hll, hx⟩ := hall len (Nat.le_refl _)
    have hmx : len ≤ 9223372036854775807 := by simp only [maxLen] at hm; omega
    refine ⟨l, ⟨some a, cap, by rw [hll], by omega, ?_⟩, by omega, fun x hm' => ?_⟩
    · rw [hll]
      refine ⟨hll, hmx, fun _ => ⟨a, rfl, fun j p hj => ?_⟩⟩
      obtain ⟨_, c, hc, hK⟩ := hx j p hj
      refine ⟨c, d.K_len hK, hK, fun i u hu => ?_⟩
      obtain ⟨_, hcl, hat⟩ := World.cells?_some hc
      have hlt := (List.getElem?_eq_some_iff.1 hu).1
      have := hat i (by omega)
      rw [← hsz, ← Go.Deep.add_add, this, hu]
    · obtain ⟨i, hi'⟩ := List.getElem?_of_mem hm'
      exact (hx i x hi').1
theorem TellsF.one {α : Type} {f : Field} {off : Nat} {d : Kd α} {ok : α → Prop} (h : Tells P f.type d ok) (ho : f.offset = off) (hs : P.cellsOf f.type = d.sz) : TellsF P [f] off d ok := by
  intro H enc w base spare held fuel cs ys hy hl
  simp only [List.mapM_cons, List.mapM_nil, Option.pure_def, Option.bind_eq_bind, Option.bind_eq_some_iff] at hy
  obtain ⟨y, h1, _⟩ := hy
  rw [ho, hs, List.take_of_length_le (by rw [List.length_drop]; omega)] at h1
  exact h H enc w base spare held fuel _ y h1
theorem TellsF.cons {α β : Type} {f : Field} {fs : List Field} {off : Nat} {d : Kd α} {d' : Kd β} {ok : α → Prop} {ok' : β → Prop} (h : Tells P f.type d ok) (ho : f.offset = off) (hs : P.cellsOf f.type = d.sz)
    (h' : TellsF P fs (off + d.sz) d' ok') : TellsF P (f :: fs) off (Kd.pair d d') (fun x => ok x.1 ∧ ok' x.2) := by
  intro H enc w base spare held fuel cs ys hy hl
  have hsz : (Kd.pair d d').sz = d.sz + d'.sz := rfl
  rw [hsz] at hl
  simp only [List.mapM_cons, Option.pure_def, Option.bind_eq_bind, Option.bind_eq_some_iff] at hy
  obtain ⟨y, h1, ys', h2, _⟩ := hy
  obtain ⟨x, hx, hox⟩ := h H enc w base spare held fuel _ y h1
  obtain ⟨x', hx', hox'⟩ := h' H enc w base spare held fuel cs ys' h2 (by omega)
  refine ⟨(x, x'), ⟨_, _, ?_, hx, hx'⟩, hox, hox'⟩
  rw [ho, hs, ← List.drop_drop, List.take_append_drop]
theorem Tells.struct {α : Type} {t : TypeId} {fs : Array Field} {d : Kd α} {ok : α → Prop} (ht : P.underlying t = some (.struct fs)) (hs : P.cellsOf t = d.sz) (h : TellsF P fs.toList 0 d ok) : Tells P t d ok := by
  intro H enc w base spare held fuel cs y hy
  cases fuel with
  | zero => simp [DataW.trod] at hy
  | succ fuel =>
    unfold DataW.trod at hy
    simp only [ht] at hy
    split at hy
    · rename_i hl
      obtain ⟨ys, h1, _⟩ := Option.map_eq_some_iff.1 hy
      have := h H enc w base spare held fuel cs ys h1 (by omega)
      simpa using this
    · cases hy
end Go.Proofs.Ytomkglmlhoaniaa.Tells
