/- The law FnExactReadTrip holds: for every input that can be read the call returns true, and each argument reads as it read. -/
import Derived.Test.YtjlickinmkafbaaDoorRows
import Derived.Deep.DeepHandedRow
import Derived.Deep.DeepWitnessRowRef
import Derived.Lib.LaidTab
import Derived.Shelf.Vars
import Derived.Test.YtjlickinmkafbaaDoorTie
import Derived.Test.YtjlickinmkafbaaDoorCards
import Derived.SevenTiedAt
import Derived.Stop.LaidErr
import Derived.Lay
import Derived.JoinedCond
import Derived.Test.YtjlickinmkafbaaDoorSFnExactReadTrip
import Derived.Test.YtjlickinmkafbaaDoorPureFnExactReadTrip
import Derived.WalkKit
import Derived.ProofKit
import Derived.OpenShut
import Derived.ShutString
import Derived.ChangeOld
import Derived.Below
import Derived.SizedLaws
import Derived.Lib.SmallJoins
namespace Go.Proofs.YtjlickinmkafbaaDoor.fnExactReadTrip
open Go.ChangeShapes Go.WideShapes Go.ChangeAt Go.RowKit Go.Joins Go.Deep Go.Proofs.YtjlickinmkafbaaDoor.Fns Go.Proofs.YtjlickinmkafbaaDoor.Eng
open Go.ChangeMaps (open_string shut_string)
set_option linter.unusedVariables false
set_option linter.unusedSimpArgs false
theorem own : ownKnob Tryd.prog.godebug = none := by kernel_rfl
theorem laidOut : laidOutB Tryd.prog = true := by kernel_rfl
noncomputable def start (os : Os) : World := World.laidAll Tryd.prog os Rows.fnExactReadTripRow.laid
theorem start_met (os : Os) : laidMet Tryd.prog Rows.fnExactReadTripRow.laid ((start os).forCall (fun _ _ => 0) ⟨#[], #[.string ByteArray.empty], []⟩).memory := laidMet_laidAll _ (by kernel_rfl) (by kernel_rfl)
set_option maxRecDepth 100000 in
theorem witness_row (os : Os) {H : Type} (enc : TypeId × Value → H) : OpenSpec.preRow enc Tryd.prog Tryd.f5 (OpenSpec.ofChange Rows.fnExactReadTripSpec) Rows.fnExactReadTripRow.domain false Rows.fnExactReadTripRow.laid ((start os).forCall (fun _ _ => 0) ⟨#[], #[.string ByteArray.empty], []⟩).memory #[.string ByteArray.empty] := by
  cases hx : DataW.whole enc Tryd.prog ((start os).forCall (fun _ _ => 0) ⟨#[], #[.string ByteArray.empty], []⟩).memory Tryd.f5.params.toList (OpenSpec.ofChange Rows.fnExactReadTripSpec).vars false (#[.string ByteArray.empty] : Array Value).toList 8 with
  | none =>
    have hw : (DataW.whole enc Tryd.prog ((start os).forCall (fun _ _ => 0) ⟨#[], #[.string ByteArray.empty], []⟩).memory Tryd.f5.params.toList (OpenSpec.ofChange Rows.fnExactReadTripSpec).vars false (#[.string ByteArray.empty] : Array Value).toList 8).isSome = true := by kernel_rfl
    rw [hx] at hw; cases hw
  | some x => exact OpenSpec.preRow_of_cond 8 hx rfl (fun k hk => by cases hk) (by kernel_rfl) (start_met os)
set_option maxRecDepth 100000 in
theorem lifted (os : Os) (started : os.Started) (H : Type) (enc : TypeId × Value → H) (F : Stop.Interp) :
    ReturnsInHanded {} Tryd.checked os 5 .any (OpenSpec.preRow enc Tryd.prog Tryd.f5 (OpenSpec.ofChange Rows.fnExactReadTripSpec) Rows.fnExactReadTripRow.domain false Rows.fnExactReadTripRow.laid) (((OpenSpec.ofChange Rows.fnExactReadTripSpec).at F).post enc Tryd.prog Tryd.f5 false true false false) := by
  refine returnsInHanded_of_row (C := Tryd.checked) (s := (OpenSpec.ofChange Rows.fnExactReadTripSpec)) own started (by kernel_rfl) Tryd.func5
    (witness_row_atRef (enc := enc) (C := Tryd.checked) false (start os) #[.string ByteArray.empty] (World.laidAll_os _ _ _) (by kernel_rfl) (by kernel_rfl) (by kernel_rfl) (witness_row os enc)) ?_
  intro W base args ds gs before hval0 hW _ _ hsz0 hL hsh _
  have hval : ∀ (j : Nat) t v, Tryd.f5.params[j]? = some t → args[j]? = some v → Value.okWide Tryd.prog W .any base t v := hval0
  have hW' := hW
  obtain ⟨p, q, hA0, hV, rfl, hfz, hnd⟩ := hW
  have hA : DataW.TrodAll enc Tryd.prog W 0 (fun _ => true) true Tryd.f5.params.toList args.toList ds p := hA0
  rw [Tryd.params5] at hA hval
  obtain ⟨v0, vs0, d0, ds0, p0, q0, hargs, rfl, rfl, h0, r0⟩ := trodAll_cons hA
  obtain ⟨rfl, rfl, rfl⟩ := trodAll_nil r0
  obtain rfl : args = #[v0] := by cases args; simp_all
  obtain ⟨rfl, rfl⟩ := trodVars_none hV
  obtain ⟨x0, rfl, rfl, rfl, o0⟩ := open_string Tryd.underlying9 (hval 0 9 v0 rfl rfl) h0
  clear hA0 hval0 hsz0
  obtain ⟨k, h⟩ := pure_FnExactReadTrip x0 o0
  have hJ := laws_FnExactReadTrip.J k x0 true h
  have hmax : Go.Proofs.YtjlickinmkafbaaDoor.Eng.LibM Tryd.prog W := fun g hg => by
    have hg2 : Tryd.prog.globalNamed "internal/bytealg.MaxLen" = some 0 := by kernel_rfl
    rw [hg2] at hg
    injection hg with hg
    subst hg
    exact cell_of_shapedOpen_int (P := Tryd.prog) (g := 0) (t := 3) (zero := #[.int .i64 0]) hsh (of_decide_eq_true (by kernel_rfl)) (by kernel_rfl) rfl (by kernel_rfl) (by kernel_rfl) Tryd.underlying3
  have hlib : Go.Proofs.YtjlickinmkafbaaDoor.Eng.LibG Tryd.prog W := by
    exact ⟨Go.Lib.tabIs_of_head (g := 1) (t := 104) (e := 93) (n := 20) (by kernel_rfl) (by kernel_rfl) Tryd.underlying104 Tryd.underlying93 (by kernel_rfl) (by kernel_rfl) (rest := _) (laidMet.tail (laidMet.tail hL)), hmax⟩
  have hglo : Go.Proofs.YtjlickinmkafbaaDoor.Eng.glo Tryd.prog ≤ W.heap.size := by
    have hg : Tryd.prog.globalNamed "internal/strconv.uint64pow10" = some 1 := by kernel_rfl
    have hg2 : Tryd.prog.globalNamed "internal/bytealg.MaxLen" = some 0 := by kernel_rfl
    have h1 := hlib.1
    obtain ⟨m2, h2⟩ := hmax 0 hg2
    have h3 := World.block_lt_of_cell? _ _ h2
    unfold Go.Lib.TabIs World.var? at h1
    unfold Go.Proofs.YtjlickinmkafbaaDoor.Eng.glo
    rw [hg] at h1
    rw [hg, hg2]
    simp only [Option.bind_some, Option.elim_some] at h1 ⊢
    refine Nat.max_le.2 ⟨?_, h3⟩
    cases hh : W.heap[1]? with
    | none => rw [hh] at h1; cases h1
    | some o => exact (Array.getElem?_eq_some_iff.1 hh).1
  refine (law_calls (by kernel_rfl) hJ rfl (fun i hi => ?_) hlib hglo).mono fun e W' he0 => ?_
  · match i, hi with
    | 0, _ => exact .s rfl
  obtain ⟨rfl, bel⟩ := he0
  exact ⟨_, rfl, _, _, _, [], _, [], hW', trodAll_mk1 (shut_bool Tryd.underlying4 _), (trodAll_cons_mk (shut_string Tryd.underlying9 o0) trodAll_mk0), rfl, bel.frame _, fun h => by cases h⟩
theorem over : Rows.fnExactReadTripRow.holds Tryd.pinned (OpenSpec.ofChange Rows.fnExactReadTripSpec) :=
  OpenClaim.holds_of_cond 5 Tryd.f5 rfl rfl rfl rfl rfl rfl rfl ⟨rfl, rfl, rfl, rfl, rfl⟩ rfl rfl rfl rfl rfl (by kernel_rfl) Tryd.func5 (by kernel_rfl)
    (of_decide_eq_true (by kernel_rfl)) (by unfold Func.isWrapper; first | (rw [if_pos (by decide +kernel)]; kernel_rfl) | (rw [if_neg (by decide +kernel)]; exact ⟨rfl, rfl⟩))
    (fun os started H enc _ F0 => by rw [OpenClaim.pre_eq_preRow]; exact lifted os started H enc F0)
end Go.Proofs.YtjlickinmkafbaaDoor.fnExactReadTrip
namespace Go.Proofs.YtjlickinmkafbaaDoor
/-- The row, under a short name, for the claim. -/
theorem fnExactReadTrip_holds : Rows.FnExactReadTripSaid := fnExactReadTrip.over
#print axioms fnExactReadTrip_holds
theorem card_holds : Rows.FnExactReadTripCardSaid :=
  Claim7.holds_tied_plain_at .later [] [.data, .data, .data, .data, .pinned] true (true, "65844431c362655923680bb715a818c38d777c143d5dc5e924e1f288a3b41b4e") false fnExactReadTrip_holds (fun _ h => by cases h) (by kernel_rfl) (fun _ h => by cases h) fnExactReadTrip_row_tie rfl ⟨rfl, rfl⟩ (by kernel_rfl) rfl
    (fun f fn hf hfn => by
      obtain rfl : f = 5 := Option.some.inj ((show Tryd.prog.funcNamed "loop.example/g00075/laws.FnExactReadTrip" = some 5 by kernel_rfl).symm.trans hf) |>.symm
      obtain rfl : fn = Tryd.f5 := (Option.some.inj (Tryd.func5.symm.trans hfn)).symm
      exact ⟨by kernel_rfl, fun j t ht => by
        rw [Tryd.params5] at ht
        have hm : t ∈ [9] := by simpa using Array.mem_of_getElem? ht
        have hall : ([9].all fun u => !Tryd.prog.wantsStandIn u) = true := by kernel_rfl
        exact (show Tryd.prog.wantsStandIn t = false by simpa using List.all_eq_true.1 hall t hm)⟩)
    (by kernel_rfl)
end Go.Proofs.YtjlickinmkafbaaDoor
