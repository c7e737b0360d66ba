/-
  No cell of these rows narrows 'for every input' (looked for: loops, veiled, ifaces, maps, wideKeys, modest, calm, conditions, laid).
  DERIVED. THE GIVEN ROWS OF THIS SEAT. 9 by the template 'for every input the law returns true; each argument reads behind the call as it read before'; 0 by the template 'total and deterministic' (their statements: YtpjmefdpjlhkhaaTotals.lean).
  GIVEN WITH THE SEED: the statements are not yours to turn. If you find one false, say at which input.
  Laid BY PROGRAM, IN A SANDBOX (cutbox-rows.mjs): the forced cells as the released guide's own fill.sh prints them over the translation 84528bf135fa264c… (all of the seat's roots in one cut). By AI agents, Wed Nov 11 2026. No macro, syntax, notation, axiom, sorry.
-/
import Derived.Test.YtpjmefdpjlhkhaaChecked
import GoSem.Claim
import GoSem.ClaimJoined
import GoSem.ClaimMapViews
import Derived.JoinedTies
import Derived.KernelRfl
namespace Go.Proofs.Ytpjmefdpjlhkhaa
/- THE CELL 'sum', in the pinned program and in every row, IS THE sha256 OF THE DUMP (.gsa) THAT YtpjmefdpjlhkhaaProg.lean LOADS. Nothing in Lean hashes anything: it is a label: what it is worth is what the hold of that sum in a sandbox is worth. -/
noncomputable def Try.pinned : Pinned := { name := "ytpjmefdpjlhkhaa", sum := "84528bf135fa264c6eaff306f21136f9b3662a930fe421d199804667adc8aeec", checked := Try.checked }
namespace Rows
def none {H : Type} : Left H := { results := [], args := [] }

/-- 'laws.FnExactSinglesOk': WHATEVER THE INPUT: true; the input reads as it did. -/
def fnExactSinglesOkSpec : ChangeSpec := { name := "fnExactSinglesOk", fn := fun _ => fun
  | [d1, d2] => { results := [.lit (.bool true)], args := [d1, d2] }
  | _ => none }
def fnExactSinglesOkRow : OpenClaim := { program := "ytpjmefdpjlhkhaa", sum := "84528bf135fa264c6eaff306f21136f9b3662a930fe421d199804667adc8aeec", func := "loop.example/g00075/laws.FnExactSinglesOk", spec := "fnExactSinglesOk", plainKeys := false, apart := false }
def FnExactSinglesOkSaid : Prop := fnExactSinglesOkRow.holds Try.pinned (OpenSpec.ofChange fnExactSinglesOkSpec)

/-- ITS FALSE NEIGHBOUR: 'it returns false'. Refute it at one input. -/
def fnExactSinglesOkWrong : ChangeSpec := { name := "fnExactSinglesOk", fn := fun _ => fun
  | [d1, d2] => { results := [.lit (.bool false)], args := [d1, d2] }
  | _ => none }
def FnExactSinglesOkWrongFalsely : Prop := fnExactSinglesOkRow.holds Try.pinned (OpenSpec.ofChange fnExactSinglesOkWrong)

/-- 'laws.FnExactMayMove': WHATEVER THE INPUT: true; the input reads as it did. -/
def fnExactMayMoveSpec : ChangeSpec := { name := "fnExactMayMove", fn := fun _ => fun
  | [d1, d2, d3] => { results := [.lit (.bool true)], args := [d1, d2, d3] }
  | _ => none }
def fnExactMayMoveRow : OpenClaim := { program := "ytpjmefdpjlhkhaa", sum := "84528bf135fa264c6eaff306f21136f9b3662a930fe421d199804667adc8aeec", func := "loop.example/g00075/laws.FnExactMayMove", spec := "fnExactMayMove", plainKeys := false, apart := false }
def FnExactMayMoveSaid : Prop := fnExactMayMoveRow.holds Try.pinned (OpenSpec.ofChange fnExactMayMoveSpec)

/-- ITS FALSE NEIGHBOUR: 'it returns false'. Refute it at one input. -/
def fnExactMayMoveWrong : ChangeSpec := { name := "fnExactMayMove", fn := fun _ => fun
  | [d1, d2, d3] => { results := [.lit (.bool false)], args := [d1, d2, d3] }
  | _ => none }
def FnExactMayMoveWrongFalsely : Prop := fnExactMayMoveRow.holds Try.pinned (OpenSpec.ofChange fnExactMayMoveWrong)

/-- 'laws.FnExactStuck': WHATEVER THE INPUT: true; the input reads as it did. -/
def fnExactStuckSpec : ChangeSpec := { name := "fnExactStuck", fn := fun _ => fun
  | [d1, d2] => { results := [.lit (.bool true)], args := [d1, d2] }
  | _ => none }
def fnExactStuckRow : OpenClaim := { program := "ytpjmefdpjlhkhaa", sum := "84528bf135fa264c6eaff306f21136f9b3662a930fe421d199804667adc8aeec", func := "loop.example/g00075/laws.FnExactStuck", spec := "fnExactStuck", plainKeys := false, apart := false }
def FnExactStuckSaid : Prop := fnExactStuckRow.holds Try.pinned (OpenSpec.ofChange fnExactStuckSpec)

/-- ITS FALSE NEIGHBOUR: 'it returns false'. Refute it at one input. -/
def fnExactStuckWrong : ChangeSpec := { name := "fnExactStuck", fn := fun _ => fun
  | [d1, d2] => { results := [.lit (.bool false)], args := [d1, d2] }
  | _ => none }
def FnExactStuckWrongFalsely : Prop := fnExactStuckRow.holds Try.pinned (OpenSpec.ofChange fnExactStuckWrong)

/-- 'laws.FnExactMoveOn': WHATEVER THE INPUT: true; the input reads as it did. -/
def fnExactMoveOnSpec : ChangeSpec := { name := "fnExactMoveOn", fn := fun _ => fun
  | [d1, d2, d3] => { results := [.lit (.bool true)], args := [d1, d2, d3] }
  | _ => none }
def fnExactMoveOnRow : OpenClaim := { program := "ytpjmefdpjlhkhaa", sum := "84528bf135fa264c6eaff306f21136f9b3662a930fe421d199804667adc8aeec", func := "loop.example/g00075/laws.FnExactMoveOn", spec := "fnExactMoveOn", plainKeys := false, apart := false }
def FnExactMoveOnSaid : Prop := fnExactMoveOnRow.holds Try.pinned (OpenSpec.ofChange fnExactMoveOnSpec)

/-- ITS FALSE NEIGHBOUR: 'it returns false'. Refute it at one input. -/
def fnExactMoveOnWrong : ChangeSpec := { name := "fnExactMoveOn", fn := fun _ => fun
  | [d1, d2, d3] => { results := [.lit (.bool false)], args := [d1, d2, d3] }
  | _ => none }
def FnExactMoveOnWrongFalsely : Prop := fnExactMoveOnRow.holds Try.pinned (OpenSpec.ofChange fnExactMoveOnWrong)

/-- 'laws.FnExactCanFinish': WHATEVER THE INPUT: true; the input reads as it did. -/
def fnExactCanFinishSpec : ChangeSpec := { name := "fnExactCanFinish", fn := fun _ => fun
  | [d1, d2] => { results := [.lit (.bool true)], args := [d1, d2] }
  | _ => none }
def fnExactCanFinishRow : OpenClaim := { program := "ytpjmefdpjlhkhaa", sum := "84528bf135fa264c6eaff306f21136f9b3662a930fe421d199804667adc8aeec", func := "loop.example/g00075/laws.FnExactCanFinish", spec := "fnExactCanFinish", recurses := true, plainKeys := false, apart := false }
def FnExactCanFinishSaid : Prop := fnExactCanFinishRow.holds Try.pinned (OpenSpec.ofChange fnExactCanFinishSpec)

/-- ITS FALSE NEIGHBOUR: 'it returns false'. Refute it at one input. -/
def fnExactCanFinishWrong : ChangeSpec := { name := "fnExactCanFinish", fn := fun _ => fun
  | [d1, d2] => { results := [.lit (.bool false)], args := [d1, d2] }
  | _ => none }
def FnExactCanFinishWrongFalsely : Prop := fnExactCanFinishRow.holds Try.pinned (OpenSpec.ofChange fnExactCanFinishWrong)

/-- 'laws.FnExactFirstMove': WHATEVER THE INPUT: true; the input reads as it did. -/
def fnExactFirstMoveSpec : ChangeSpec := { name := "fnExactFirstMove", fn := fun _ => fun
  | [d1, d2] => { results := [.lit (.bool true)], args := [d1, d2] }
  | _ => none }
def fnExactFirstMoveRow : OpenClaim := { program := "ytpjmefdpjlhkhaa", sum := "84528bf135fa264c6eaff306f21136f9b3662a930fe421d199804667adc8aeec", func := "loop.example/g00075/laws.FnExactFirstMove", spec := "fnExactFirstMove", recurses := true, plainKeys := false, apart := false }
def FnExactFirstMoveSaid : Prop := fnExactFirstMoveRow.holds Try.pinned (OpenSpec.ofChange fnExactFirstMoveSpec)

/-- ITS FALSE NEIGHBOUR: 'it returns false'. Refute it at one input. -/
def fnExactFirstMoveWrong : ChangeSpec := { name := "fnExactFirstMove", fn := fun _ => fun
  | [d1, d2] => { results := [.lit (.bool false)], args := [d1, d2] }
  | _ => none }
def FnExactFirstMoveWrongFalsely : Prop := fnExactFirstMoveRow.holds Try.pinned (OpenSpec.ofChange fnExactFirstMoveWrong)

/-- 'laws.FnExactFinish': WHATEVER THE INPUT: true; the input reads as it did. -/
def fnExactFinishSpec : ChangeSpec := { name := "fnExactFinish", fn := fun _ => fun
  | [d1, d2] => { results := [.lit (.bool true)], args := [d1, d2] }
  | _ => none }
def fnExactFinishRow : OpenClaim := { program := "ytpjmefdpjlhkhaa", sum := "84528bf135fa264c6eaff306f21136f9b3662a930fe421d199804667adc8aeec", func := "loop.example/g00075/laws.FnExactFinish", spec := "fnExactFinish", recurses := true, plainKeys := false, apart := false }
def FnExactFinishSaid : Prop := fnExactFinishRow.holds Try.pinned (OpenSpec.ofChange fnExactFinishSpec)

/-- ITS FALSE NEIGHBOUR: 'it returns false'. Refute it at one input. -/
def fnExactFinishWrong : ChangeSpec := { name := "fnExactFinish", fn := fun _ => fun
  | [d1, d2] => { results := [.lit (.bool false)], args := [d1, d2] }
  | _ => none }
def FnExactFinishWrongFalsely : Prop := fnExactFinishRow.holds Try.pinned (OpenSpec.ofChange fnExactFinishWrong)

/-- 'laws.FnMeets': WHATEVER THE INPUT: true; the input reads as it did. -/
def fnMeetsSpec : ChangeSpec := { name := "fnMeets", fn := fun _ => fun
  | [d] => { results := [.lit (.bool true)], args := [d] }
  | _ => none }
def fnMeetsRow : OpenClaim := { program := "ytpjmefdpjlhkhaa", sum := "84528bf135fa264c6eaff306f21136f9b3662a930fe421d199804667adc8aeec", func := "loop.example/g00075/laws.FnMeets", spec := "fnMeets", recurses := true, plainKeys := false, apart := false }
def FnMeetsSaid : Prop := fnMeetsRow.holds Try.pinned (OpenSpec.ofChange fnMeetsSpec)

/-- ITS FALSE NEIGHBOUR: 'it returns false'. Refute it at one input. -/
def fnMeetsWrong : ChangeSpec := { name := "fnMeets", fn := fun _ => fun
  | [d] => { results := [.lit (.bool false)], args := [d] }
  | _ => none }
def FnMeetsWrongFalsely : Prop := fnMeetsRow.holds Try.pinned (OpenSpec.ofChange fnMeetsWrong)

/-- 'laws.FnStuck': WHATEVER THE INPUT: true; the input reads as it did. -/
def fnStuckSpec : ChangeSpec := { name := "fnStuck", fn := fun _ => fun
  | [d] => { results := [.lit (.bool true)], args := [d] }
  | _ => none }
def fnStuckRow : OpenClaim := { program := "ytpjmefdpjlhkhaa", sum := "84528bf135fa264c6eaff306f21136f9b3662a930fe421d199804667adc8aeec", func := "loop.example/g00075/laws.FnStuck", spec := "fnStuck", recurses := true, plainKeys := false, apart := false }
def FnStuckSaid : Prop := fnStuckRow.holds Try.pinned (OpenSpec.ofChange fnStuckSpec)

/-- ITS FALSE NEIGHBOUR: 'it returns false'. Refute it at one input. -/
def fnStuckWrong : ChangeSpec := { name := "fnStuck", fn := fun _ => fun
  | [d] => { results := [.lit (.bool false)], args := [d] }
  | _ => none }
def FnStuckWrongFalsely : Prop := fnStuckRow.holds Try.pinned (OpenSpec.ofChange fnStuckWrong)

/- THE SECOND FORM. 'bulk': how many values and letters a reading holds, each counted each time it is reached (what is shared counts as often as it is met; a slice's spare places count too). A statement '..UptoSaid' is the law's where the arguments, and the package variables that the reading takes, are together of bulk at most 1048576: NARROWER than '..Said'. Prove '..Said' where nothing that the law and all that it calls make is longer than what came in: it says more and counts as full. Else prove '..UptoSaid'. A law counts once. -/
mutual
def uptoBulk {H : Type} : DataW H → Nat
  | .lit (.string bytes) => bytes.length + 1
  | .lit _ => 1
  | .nil => 1
  | .ptr d => uptoBulk d + 1
  | .slice elems spare => uptoBulkAll elems + uptoBulkAll spare + 1
  | .agg parts => uptoBulkAll parts + 1
  | .iface _ d => uptoBulk d + 1
  | .map entries => uptoBulkEntries entries + 1
  | .held _ => 1
def uptoBulkAll {H : Type} : List (DataW H) → Nat
  | [] => 0
  | d :: r => uptoBulk d + uptoBulkAll r
def uptoBulkEntries {H : Type} : List (Lit × DataW H) → Nat
  | [] => 0
  | x :: r => uptoBulkEntry x + uptoBulkEntries r
def uptoBulkEntry {H : Type} : Lit × DataW H → Nat
  | (.string bytes, d) => bytes.length + uptoBulk d + 1
  | (_, d) => uptoBulk d + 1
 end
def uptoSmall : (H : Type) → List (DataW H) → Bool := fun _ ds => decide (uptoBulkAll ds ≤ 1048576)
def OpenSpec.upto (s : _root_.Go.ChangeSpec) : _root_.Go.OpenSpec := { _root_.Go.OpenSpec.ofChange s with cond := some uptoSmall }

/-- 'laws.FnExactSinglesOk', WHERE WHAT IT READS IS OF BULK AT MOST 1048576: true; the input reads as it did. -/
def fnExactSinglesOkUptoRow : OpenClaim := { program := "ytpjmefdpjlhkhaa", sum := "84528bf135fa264c6eaff306f21136f9b3662a930fe421d199804667adc8aeec", func := "loop.example/g00075/laws.FnExactSinglesOk", spec := "fnExactSinglesOk", plainKeys := false, apart := false, narrowed := true }
def FnExactSinglesOkUptoSaid : Prop := fnExactSinglesOkUptoRow.holds Try.pinned (OpenSpec.upto fnExactSinglesOkSpec)

/-- 'laws.FnExactMayMove', WHERE WHAT IT READS IS OF BULK AT MOST 1048576: true; the input reads as it did. -/
def fnExactMayMoveUptoRow : OpenClaim := { program := "ytpjmefdpjlhkhaa", sum := "84528bf135fa264c6eaff306f21136f9b3662a930fe421d199804667adc8aeec", func := "loop.example/g00075/laws.FnExactMayMove", spec := "fnExactMayMove", plainKeys := false, apart := false, narrowed := true }
def FnExactMayMoveUptoSaid : Prop := fnExactMayMoveUptoRow.holds Try.pinned (OpenSpec.upto fnExactMayMoveSpec)

/-- 'laws.FnExactStuck', WHERE WHAT IT READS IS OF BULK AT MOST 1048576: true; the input reads as it did. -/
def fnExactStuckUptoRow : OpenClaim := { program := "ytpjmefdpjlhkhaa", sum := "84528bf135fa264c6eaff306f21136f9b3662a930fe421d199804667adc8aeec", func := "loop.example/g00075/laws.FnExactStuck", spec := "fnExactStuck", plainKeys := false, apart := false, narrowed := true }
def FnExactStuckUptoSaid : Prop := fnExactStuckUptoRow.holds Try.pinned (OpenSpec.upto fnExactStuckSpec)

/-- 'laws.FnExactMoveOn', WHERE WHAT IT READS IS OF BULK AT MOST 1048576: true; the input reads as it did. -/
def fnExactMoveOnUptoRow : OpenClaim := { program := "ytpjmefdpjlhkhaa", sum := "84528bf135fa264c6eaff306f21136f9b3662a930fe421d199804667adc8aeec", func := "loop.example/g00075/laws.FnExactMoveOn", spec := "fnExactMoveOn", plainKeys := false, apart := false, narrowed := true }
def FnExactMoveOnUptoSaid : Prop := fnExactMoveOnUptoRow.holds Try.pinned (OpenSpec.upto fnExactMoveOnSpec)

/-- 'laws.FnExactCanFinish', WHERE WHAT IT READS IS OF BULK AT MOST 1048576: true; the input reads as it did. -/
def fnExactCanFinishUptoRow : OpenClaim := { program := "ytpjmefdpjlhkhaa", sum := "84528bf135fa264c6eaff306f21136f9b3662a930fe421d199804667adc8aeec", func := "loop.example/g00075/laws.FnExactCanFinish", spec := "fnExactCanFinish", recurses := true, plainKeys := false, apart := false, narrowed := true }
def FnExactCanFinishUptoSaid : Prop := fnExactCanFinishUptoRow.holds Try.pinned (OpenSpec.upto fnExactCanFinishSpec)

/-- 'laws.FnExactFirstMove', WHERE WHAT IT READS IS OF BULK AT MOST 1048576: true; the input reads as it did. -/
def fnExactFirstMoveUptoRow : OpenClaim := { program := "ytpjmefdpjlhkhaa", sum := "84528bf135fa264c6eaff306f21136f9b3662a930fe421d199804667adc8aeec", func := "loop.example/g00075/laws.FnExactFirstMove", spec := "fnExactFirstMove", recurses := true, plainKeys := false, apart := false, narrowed := true }
def FnExactFirstMoveUptoSaid : Prop := fnExactFirstMoveUptoRow.holds Try.pinned (OpenSpec.upto fnExactFirstMoveSpec)

/-- 'laws.FnExactFinish', WHERE WHAT IT READS IS OF BULK AT MOST 1048576: true; the input reads as it did. -/
def fnExactFinishUptoRow : OpenClaim := { program := "ytpjmefdpjlhkhaa", sum := "84528bf135fa264c6eaff306f21136f9b3662a930fe421d199804667adc8aeec", func := "loop.example/g00075/laws.FnExactFinish", spec := "fnExactFinish", recurses := true, plainKeys := false, apart := false, narrowed := true }
def FnExactFinishUptoSaid : Prop := fnExactFinishUptoRow.holds Try.pinned (OpenSpec.upto fnExactFinishSpec)

/-- 'laws.FnMeets', WHERE WHAT IT READS IS OF BULK AT MOST 1048576: true; the input reads as it did. -/
def fnMeetsUptoRow : OpenClaim := { program := "ytpjmefdpjlhkhaa", sum := "84528bf135fa264c6eaff306f21136f9b3662a930fe421d199804667adc8aeec", func := "loop.example/g00075/laws.FnMeets", spec := "fnMeets", recurses := true, plainKeys := false, apart := false, narrowed := true }
def FnMeetsUptoSaid : Prop := fnMeetsUptoRow.holds Try.pinned (OpenSpec.upto fnMeetsSpec)

/-- 'laws.FnStuck', WHERE WHAT IT READS IS OF BULK AT MOST 1048576: true; the input reads as it did. -/
def fnStuckUptoRow : OpenClaim := { program := "ytpjmefdpjlhkhaa", sum := "84528bf135fa264c6eaff306f21136f9b3662a930fe421d199804667adc8aeec", func := "loop.example/g00075/laws.FnStuck", spec := "fnStuck", recurses := true, plainKeys := false, apart := false, narrowed := true }
def FnStuckUptoSaid : Prop := fnStuckUptoRow.holds Try.pinned (OpenSpec.upto fnStuckSpec)

end Rows
end Go.Proofs.Ytpjmefdpjlhkhaa
