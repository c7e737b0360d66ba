/- The law FnExactClockface holds: for every input that can be read the call returns true, and each argument reads as it read. -/
import Derived.Test.YtjlickinmkafbaaDoorRows
import Derived.Deep.DeepHandedRow
import Derived.Deep.DeepWitnessRowRef
import Derived.Lib.LaidTab
import Derived.Shelf.Vars
import Derived.Test.YtjlickinmkafbaaDoorTie
import Derived.Test.YtjlickinmkafbaaDoorCards
import Derived.SevenTiedAt
import Derived.Stop.LaidErr
import Derived.Lay
import Derived.JoinedCond
import Derived.Test.YtjlickinmkafbaaDoorSFnExactClockface
import Derived.Test.YtjlickinmkafbaaDoorPureFnExactClockface
import Derived.WalkKit
import Derived.ProofKit
import Derived.OpenShut
import Derived.ShutString
import Derived.ChangeOld
import Derived.Below
import Derived.SizedLaws
import Derived.Lib.SmallJoins
namespace Go.Proofs.YtjlickinmkafbaaDoor.fnExactClockface
open Go.ChangeShapes Go.WideShapes Go.ChangeAt Go.RowKit Go.Joins Go.Deep Go.Proofs.YtjlickinmkafbaaDoor.Fns Go.Proofs.YtjlickinmkafbaaDoor.Eng
open Go.ChangeMaps (open_string shut_string)
set_option linter.unusedVariables false
set_option linter.unusedSimpArgs false
theorem own : ownKnob Tryd.prog.godebug = none := by kernel_rfl
theorem laidOut : laidOutB Tryd.prog = true := by kernel_rfl
noncomputable def start (os : Os) : World := World.laidAll Tryd.prog os Rows.fnExactClockfaceRow.laid
theorem start_met (os : Os) : laidMet Tryd.prog Rows.fnExactClockfaceRow.laid ((start os).forCall (fun _ _ => 0) ⟨#[], #[.agg #[.string ByteArray.empty, .slice none 0 0], .int .i64 0, .int .i64 0], []⟩).memory := laidMet_laidAll _ (by kernel_rfl) (by kernel_rfl)
set_option maxRecDepth 100000 in
theorem witness_row (os : Os) {H : Type} (enc : TypeId × Value → H) : OpenSpec.preRow enc Tryd.prog Tryd.f4 (OpenSpec.ofChange Rows.fnExactClockfaceSpec) Rows.fnExactClockfaceRow.domain false Rows.fnExactClockfaceRow.laid ((start os).forCall (fun _ _ => 0) ⟨#[], #[.agg #[.string ByteArray.empty, .slice none 0 0], .int .i64 0, .int .i64 0], []⟩).memory #[.agg #[.string ByteArray.empty, .slice none 0 0], .int .i64 0, .int .i64 0] := by
  cases hx : DataW.whole enc Tryd.prog ((start os).forCall (fun _ _ => 0) ⟨#[], #[.agg #[.string ByteArray.empty, .slice none 0 0], .int .i64 0, .int .i64 0], []⟩).memory Tryd.f4.params.toList (OpenSpec.ofChange Rows.fnExactClockfaceSpec).vars false (#[.agg #[.string ByteArray.empty, .slice none 0 0], .int .i64 0, .int .i64 0] : Array Value).toList 8 with
  | none =>
    have hw : (DataW.whole enc Tryd.prog ((start os).forCall (fun _ _ => 0) ⟨#[], #[.agg #[.string ByteArray.empty, .slice none 0 0], .int .i64 0, .int .i64 0], []⟩).memory Tryd.f4.params.toList (OpenSpec.ofChange Rows.fnExactClockfaceSpec).vars false (#[.agg #[.string ByteArray.empty, .slice none 0 0], .int .i64 0, .int .i64 0] : Array Value).toList 8).isSome = true := by kernel_rfl
    rw [hx] at hw; cases hw
  | some x => exact OpenSpec.preRow_of_cond 8 hx rfl (fun k hk => by cases hk) (by kernel_rfl) (start_met os)
set_option maxRecDepth 100000 in
theorem lifted (os : Os) (started : os.Started) (H : Type) (enc : TypeId × Value → H) (F : Stop.Interp) :
    ReturnsInHanded {} Tryd.checked os 4 .any (OpenSpec.preRow enc Tryd.prog Tryd.f4 (OpenSpec.ofChange Rows.fnExactClockfaceSpec) Rows.fnExactClockfaceRow.domain false Rows.fnExactClockfaceRow.laid) (((OpenSpec.ofChange Rows.fnExactClockfaceSpec).at F).post enc Tryd.prog Tryd.f4 false true false false) := by
  refine returnsInHanded_of_row (C := Tryd.checked) (s := (OpenSpec.ofChange Rows.fnExactClockfaceSpec)) own started (by kernel_rfl) Tryd.func4
    (witness_row_atRef (enc := enc) (C := Tryd.checked) false (start os) #[.agg #[.string ByteArray.empty, .slice none 0 0], .int .i64 0, .int .i64 0] (World.laidAll_os _ _ _) (by kernel_rfl) (by kernel_rfl) (by kernel_rfl) (witness_row os enc)) ?_
  intro W base args ds gs before hval0 hW _ _ hsz0 hL hsh _
  have hval : ∀ (j : Nat) t v, Tryd.f4.params[j]? = some t → args[j]? = some v → Value.okWide Tryd.prog W .any base t v := hval0
  have hW' := hW
  obtain ⟨p, q, hA0, hV, rfl, hfz, hnd⟩ := hW
  have hA : DataW.TrodAll enc Tryd.prog W 0 (fun _ => true) true Tryd.f4.params.toList args.toList ds p := hA0
  rw [Tryd.params4] at hA hval
  obtain ⟨v0, vs0, d0, ds0, p0, q0, hargs, rfl, rfl, h0, r0⟩ := trodAll_cons hA
  obtain ⟨v1, vs1, d1, ds1, p1, q1, rfl, rfl, rfl, h1, r1⟩ := trodAll_cons r0
  obtain ⟨v2, vs2, d2, ds2, p2, q2, rfl, rfl, rfl, h2, r2⟩ := trodAll_cons r1
  obtain ⟨rfl, rfl, rfl⟩ := trodAll_nil r2
  obtain rfl : args = #[v0, v1, v2] := by cases args; simp_all
  obtain ⟨rfl, rfl⟩ := trodVars_none hV
  have k0_ := h0
  have lt0 : ∀ x ∈ p0, x.block < W.heap.size := by obtain ⟨m, hm⟩ := k0_; exact DataW.trod_lt m _ _ _ hm
  obtain ⟨cs0, rfl, hsz0⟩ := okWide_struct Tryd.underlying24 (hval 0 24 v0 rfl rfl)
  obtain ⟨cl0⟩ := cs0
  obtain ⟨fuel0, hf0⟩ := h0
  obtain ⟨x0, K0, o0⟩ := tells24 _ _ _ _ _ _ _ _ _ hf0
  have RR0 := R0.ag' K0
  obtain ⟨x1, rfl, rfl, rfl, o1⟩ := open_int Tryd.underlying3 (hval 1 3 v1 rfl rfl) h1
  obtain ⟨x2, rfl, rfl, rfl, o2⟩ := open_int Tryd.underlying3 (hval 2 3 v2 rfl rfl) h2
  clear hA0 hval0 hsz0
  obtain ⟨k, h⟩ := pure_FnExactClockface x0 x1 x2 o0 o1 o2
  have hJ := laws_FnExactClockface.J k x0 x1 x2 true h
  have hmax : Go.Proofs.YtjlickinmkafbaaDoor.Eng.LibM Tryd.prog W := fun g hg => by
    have hg2 : Tryd.prog.globalNamed "internal/bytealg.MaxLen" = some 0 := by kernel_rfl
    rw [hg2] at hg
    injection hg with hg
    subst hg
    exact cell_of_shapedOpen_int (P := Tryd.prog) (g := 0) (t := 3) (zero := #[.int .i64 0]) hsh (of_decide_eq_true (by kernel_rfl)) (by kernel_rfl) rfl (by kernel_rfl) (by kernel_rfl) Tryd.underlying3
  have hlib : Go.Proofs.YtjlickinmkafbaaDoor.Eng.LibG Tryd.prog W := by
    exact ⟨Go.Lib.tabIs_of_head (g := 1) (t := 104) (e := 93) (n := 20) (by kernel_rfl) (by kernel_rfl) Tryd.underlying104 Tryd.underlying93 (by kernel_rfl) (by kernel_rfl) (rest := _) (laidMet.tail (laidMet.tail hL)), hmax⟩
  have hglo : Go.Proofs.YtjlickinmkafbaaDoor.Eng.glo Tryd.prog ≤ W.heap.size := by
    have hg : Tryd.prog.globalNamed "internal/strconv.uint64pow10" = some 1 := by kernel_rfl
    have hg2 : Tryd.prog.globalNamed "internal/bytealg.MaxLen" = some 0 := by kernel_rfl
    have h1 := hlib.1
    obtain ⟨m2, h2⟩ := hmax 0 hg2
    have h3 := World.block_lt_of_cell? _ _ h2
    unfold Go.Lib.TabIs World.var? at h1
    unfold Go.Proofs.YtjlickinmkafbaaDoor.Eng.glo
    rw [hg] at h1
    rw [hg, hg2]
    simp only [Option.bind_some, Option.elim_some] at h1 ⊢
    refine Nat.max_le.2 ⟨?_, h3⟩
    cases hh : W.heap[1]? with
    | none => rw [hh] at h1; cases h1
    | some o => exact (Array.getElem?_eq_some_iff.1 hh).1
  refine (law_calls (by kernel_rfl) hJ rfl (fun i hi => ?_) hlib hglo).mono fun e W' he0 => ?_
  · match i, hi with
    | 0, _ => exact RR0
    | 1, _ => exact .s rfl
    | 2, _ => exact .s rfl
  obtain ⟨rfl, bel⟩ := he0
  exact ⟨_, rfl, _, _, _, [], _, [], hW', trodAll_mk1 (shut_bool Tryd.underlying4 _), (trodAll_cons_mk (Below.trod laidOut (by kernel_rfl) (of_decide_eq_true (by kernel_rfl)) k0_ bel lt0) (trodAll_cons_mk (shut_int Tryd.underlying3 o1) (trodAll_cons_mk (shut_int Tryd.underlying3 o2) trodAll_mk0))), rfl, bel.frame _, fun h => by cases h⟩
theorem over : Rows.fnExactClockfaceRow.holds Tryd.pinned (OpenSpec.ofChange Rows.fnExactClockfaceSpec) :=
  OpenClaim.holds_of_cond 4 Tryd.f4 rfl rfl rfl rfl rfl rfl rfl ⟨rfl, rfl, rfl, rfl, rfl⟩ rfl rfl rfl rfl rfl (by kernel_rfl) Tryd.func4 (by kernel_rfl)
    (of_decide_eq_true (by kernel_rfl)) (by unfold Func.isWrapper; first | (rw [if_pos (by decide +kernel)]; kernel_rfl) | (rw [if_neg (by decide +kernel)]; exact ⟨rfl, rfl⟩))
    (fun os started H enc _ F0 => by rw [OpenClaim.pre_eq_preRow]; exact lifted os started H enc F0)
end Go.Proofs.YtjlickinmkafbaaDoor.fnExactClockface
namespace Go.Proofs.YtjlickinmkafbaaDoor
/-- The row, under a short name, for the claim. -/
theorem fnExactClockface_holds : Rows.FnExactClockfaceSaid := fnExactClockface.over
#print axioms fnExactClockface_holds
theorem card_holds : Rows.FnExactClockfaceCardSaid :=
  Claim7.holds_tied_plain_at .later [] [.data, .data, .data] true (true, "65844431c362655923680bb715a818c38d777c143d5dc5e924e1f288a3b41b4e") false fnExactClockface_holds (fun _ h => by cases h) (by kernel_rfl) (fun _ h => by cases h) fnExactClockface_row_tie rfl ⟨rfl, rfl⟩ (by kernel_rfl) rfl
    (fun f fn hf hfn => by
      obtain rfl : f = 4 := Option.some.inj ((show Tryd.prog.funcNamed "loop.example/g00075/laws.FnExactClockface" = some 4 by kernel_rfl).symm.trans hf) |>.symm
      obtain rfl : fn = Tryd.f4 := (Option.some.inj (Tryd.func4.symm.trans hfn)).symm
      exact ⟨by kernel_rfl, fun j t ht => by
        rw [Tryd.params4] at ht
        have hm : t ∈ [24, 3, 3] := by simpa using Array.mem_of_getElem? ht
        have hall : ([24, 3, 3].all fun u => !Tryd.prog.wantsStandIn u) = true := by kernel_rfl
        exact (show Tryd.prog.wantsStandIn t = false by simpa using List.all_eq_true.1 hall t hm)⟩)
    (by kernel_rfl)
end Go.Proofs.YtjlickinmkafbaaDoor
