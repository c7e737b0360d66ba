/- The law FnMeets holds: for every input that can be read the call returns true, and each argument reads as it read. -/
import Derived.Test.YtpjmefdpjlhkhaaRows
import Derived.Test.YtpjmefdpjlhkhaaSFnMeets
import Derived.Test.YtpjmefdpjlhkhaaPureFnMeets
import Derived.WalkKit
import Derived.ProofKit
import Derived.OpenShut
import Derived.ShutString
import Derived.ChangeOld
import Derived.Below
import Derived.SizedLaws
import Derived.Lib.SmallJoins
namespace Go.Proofs.Ytpjmefdpjlhkhaa.fnMeets
open Go.ChangeShapes Go.WideShapes Go.ChangeAt Go.RowKit Go.Joins Go.Deep Go.Proofs.Ytpjmefdpjlhkhaa.Fns Go.Proofs.Ytpjmefdpjlhkhaa.Eng
open Go.ChangeMaps (open_string shut_string)
set_option linter.unusedVariables false
set_option linter.unusedSimpArgs false
theorem own : ownKnob Try.prog.godebug = none := by kernel_rfl
theorem laidOut : laidOutB Try.prog = true := by kernel_rfl
set_option maxRecDepth 100000 in
theorem lifted (os : Os) (started : os.Started) (H : Type) (enc : TypeId × Value → H) :
    ReturnsInHanded {} Try.checked os 10 .any (Rows.fnMeetsSpec.pre6 enc Try.prog Try.f10 Rows.fnMeetsRow.domain false) (Rows.fnMeetsSpec.post enc Try.prog Try.f10 false true false false) := by
  refine returnsInHanded_of_change_sized (C := Try.checked) own started (by kernel_rfl) Try.func10
    (ChangeSpec.witness6 (enc := enc) (C := Try.checked) false ⟨#[], #[.slice none 0 0], []⟩ 8 (by kernel_rfl) (by kernel_rfl) (by kernel_rfl) (by kernel_rfl)) ?_
  intro W base args ds gs before hval0 hW hcnd hsz0 _
  have hval : ∀ (j : Nat) t v, Try.f10.params[j]? = some t → args[j]? = some v → Value.okWide Try.prog W .any base t v := hval0
  have hW' := hW
  obtain ⟨p, q, hA0, hV, rfl, hfz, hnd⟩ := hW
  have hA : DataW.TrodAll enc Try.prog W 0 (fun _ => true) true Try.f10.params.toList args.toList ds p := hA0
  rw [Try.params10] at hA hval
  obtain ⟨v0, vs0, d0, ds0, p0, q0, hargs, rfl, rfl, h0, r0⟩ := trodAll_cons hA
  obtain ⟨rfl, rfl, rfl⟩ := trodAll_nil r0
  obtain rfl : args = #[v0] := by cases args; simp_all
  obtain ⟨rfl, rfl⟩ := trodVars_none hV
  have k0_ := h0
  have lt0 : ∀ x ∈ p0, x.block < W.heap.size := by obtain ⟨m, hm⟩ := k0_; exact DataW.trod_lt m _ _ _ hm
  obtain ⟨a0, len0, cap0, rfl⟩ := okWide_slice Try.underlying40 (hval 0 40 v0 rfl rfl)
  obtain ⟨fuel0, hf0⟩ := h0
  obtain ⟨x0, K0, o0⟩ := (Tl.slice false Try.underlying40 (Tl.u8 Try.underlying5) encU_ok (by kernel_rfl) (by decide)) _ _ _ _ _ _ _ _ _ hf0
  have RR0 := K0.rel 0 (by simp)
  clear hA0 hval0 hsz0
  obtain ⟨k, h⟩ := pure_FnMeets x0 o0
  have hJ := laws_FnMeets.J k x0 true h
  refine (law_calls (by kernel_rfl) hJ rfl (fun i hi => ?_)).mono fun e W' he0 => ?_
  · match i, hi with
    | 0, _ => exact RR0
  obtain ⟨rfl, bel⟩ := he0
  exact ⟨_, rfl, _, _, _, [], _, [], hW', trodAll_mk1 (shut_bool Try.underlying4 _), (trodAll_cons_mk (Below.trod laidOut (by kernel_rfl) (of_decide_eq_true (by kernel_rfl)) k0_ bel lt0) trodAll_mk0), rfl, bel.frame _, fun h => by cases h⟩
theorem over : Rows.fnMeetsRow.holds Try.pinned (OpenSpec.ofChange Rows.fnMeetsSpec) :=
  OpenClaim.holds_of_wide 10 Try.f10 rfl rfl rfl rfl rfl rfl rfl ⟨rfl, rfl, rfl, rfl, rfl⟩ rfl rfl rfl rfl rfl (by kernel_rfl) Try.func10 (by kernel_rfl)
    (of_decide_eq_true (by kernel_rfl)) (by unfold Func.isWrapper; first | (rw [if_pos (by decide +kernel)]; kernel_rfl) | (rw [if_neg (by decide +kernel)]; exact ⟨rfl, rfl⟩))
    (fun os started H enc _ => lifted os started H enc)
end Go.Proofs.Ytpjmefdpjlhkhaa.fnMeets
namespace Go.Proofs.Ytpjmefdpjlhkhaa
/-- The row, under a short name, for the claim. -/
theorem fnMeets_holds : Rows.FnMeetsSaid := fnMeets.over
#print axioms fnMeets_holds
end Go.Proofs.Ytpjmefdpjlhkhaa
