/-
  No cell of these rows narrows 'for every input' (looked for: loops, veiled, ifaces, maps, wideKeys, modest, calm, conditions, laid).
  DERIVED. THE GIVEN ROWS OF THIS SEAT. 10 by the template 'for every input the law returns true; each argument reads behind the call as it read before'; 0 by the template 'total and deterministic' (their statements: YtomkglmlhoaniaaTotals.lean).
  GIVEN WITH THE SEED: the statements are not yours to turn. If you find one false, say at which input.
  Laid BY PROGRAM, IN A SANDBOX (cutbox-rows.mjs): the forced cells as the released guide's own fill.sh prints them over the translation 3038737f0cbde087… (all of the seat's roots in one cut). By AI agents, Wed Nov 11 2026. No macro, syntax, notation, axiom, sorry.
-/
import Derived.Test.YtomkglmlhoaniaaChecked
import GoSem.Claim
import GoSem.ClaimJoined
import GoSem.ClaimMapViews
import Derived.JoinedTies
import Derived.KernelRfl
namespace Go.Proofs.Ytomkglmlhoaniaa
/- THE CELL 'sum', in the pinned program and in every row, IS THE sha256 OF THE DUMP (.gsa) THAT YtomkglmlhoaniaaProg.lean LOADS. Nothing in Lean hashes anything: it is a label: what it is worth is what the hold of that sum in a sandbox is worth. -/
noncomputable def Try.pinned : Pinned := { name := "ytomkglmlhoaniaa", sum := "3038737f0cbde087f93b189578008d71b57463c99c56a23afa46a9c14a18c12f", checked := Try.checked }
namespace Rows
def none {H : Type} : Left H := { results := [], args := [] }

/-- 'laws.FnExactWorkOk': WHATEVER THE INPUT: true; the input reads as it did. -/
def fnExactWorkOkSpec : ChangeSpec := { name := "fnExactWorkOk", fn := fun _ => fun
  | [d] => { results := [.lit (.bool true)], args := [d] }
  | _ => none }
def fnExactWorkOkRow : OpenClaim := { program := "ytomkglmlhoaniaa", sum := "3038737f0cbde087f93b189578008d71b57463c99c56a23afa46a9c14a18c12f", func := "loop.example/g00075/laws.FnExactWorkOk", spec := "fnExactWorkOk", apart := false }
def FnExactWorkOkSaid : Prop := fnExactWorkOkRow.holds Try.pinned (OpenSpec.ofChange fnExactWorkOkSpec)

/-- ITS FALSE NEIGHBOUR: 'it returns false'. Refute it at one input. -/
def fnExactWorkOkWrong : ChangeSpec := { name := "fnExactWorkOk", fn := fun _ => fun
  | [d] => { results := [.lit (.bool false)], args := [d] }
  | _ => none }
def FnExactWorkOkWrongFalsely : Prop := fnExactWorkOkRow.holds Try.pinned (OpenSpec.ofChange fnExactWorkOkWrong)

/-- 'laws.FnExactSlack': WHATEVER THE INPUT: true; the input reads as it did. -/
def fnExactSlackSpec : ChangeSpec := { name := "fnExactSlack", fn := fun _ => fun
  | [d1, d2] => { results := [.lit (.bool true)], args := [d1, d2] }
  | _ => none }
def fnExactSlackRow : OpenClaim := { program := "ytomkglmlhoaniaa", sum := "3038737f0cbde087f93b189578008d71b57463c99c56a23afa46a9c14a18c12f", func := "loop.example/g00075/laws.FnExactSlack", spec := "fnExactSlack", apart := false }
def FnExactSlackSaid : Prop := fnExactSlackRow.holds Try.pinned (OpenSpec.ofChange fnExactSlackSpec)

/-- ITS FALSE NEIGHBOUR: 'it returns false'. Refute it at one input. -/
def fnExactSlackWrong : ChangeSpec := { name := "fnExactSlack", fn := fun _ => fun
  | [d1, d2] => { results := [.lit (.bool false)], args := [d1, d2] }
  | _ => none }
def FnExactSlackWrongFalsely : Prop := fnExactSlackRow.holds Try.pinned (OpenSpec.ofChange fnExactSlackWrong)

/-- 'laws.FnExactMissed': WHATEVER THE INPUT: true; the input reads as it did. -/
def fnExactMissedSpec : ChangeSpec := { name := "fnExactMissed", fn := fun _ => fun
  | [d1, d2] => { results := [.lit (.bool true)], args := [d1, d2] }
  | _ => none }
def fnExactMissedRow : OpenClaim := { program := "ytomkglmlhoaniaa", sum := "3038737f0cbde087f93b189578008d71b57463c99c56a23afa46a9c14a18c12f", func := "loop.example/g00075/laws.FnExactMissed", spec := "fnExactMissed", apart := false }
def FnExactMissedSaid : Prop := fnExactMissedRow.holds Try.pinned (OpenSpec.ofChange fnExactMissedSpec)

/-- ITS FALSE NEIGHBOUR: 'it returns false'. Refute it at one input. -/
def fnExactMissedWrong : ChangeSpec := { name := "fnExactMissed", fn := fun _ => fun
  | [d1, d2] => { results := [.lit (.bool false)], args := [d1, d2] }
  | _ => none }
def FnExactMissedWrongFalsely : Prop := fnExactMissedRow.holds Try.pinned (OpenSpec.ofChange fnExactMissedWrong)

/-- 'laws.FnExactTimes': WHATEVER THE INPUT: true; the input reads as it did. -/
def fnExactTimesSpec : ChangeSpec := { name := "fnExactTimes", fn := fun _ => fun
  | [d1, d2] => { results := [.lit (.bool true)], args := [d1, d2] }
  | _ => none }
def fnExactTimesRow : OpenClaim := { program := "ytomkglmlhoaniaa", sum := "3038737f0cbde087f93b189578008d71b57463c99c56a23afa46a9c14a18c12f", func := "loop.example/g00075/laws.FnExactTimes", spec := "fnExactTimes", apart := false }
def FnExactTimesSaid : Prop := fnExactTimesRow.holds Try.pinned (OpenSpec.ofChange fnExactTimesSpec)

/-- ITS FALSE NEIGHBOUR: 'it returns false'. Refute it at one input. -/
def fnExactTimesWrong : ChangeSpec := { name := "fnExactTimes", fn := fun _ => fun
  | [d1, d2] => { results := [.lit (.bool false)], args := [d1, d2] }
  | _ => none }
def FnExactTimesWrongFalsely : Prop := fnExactTimesRow.holds Try.pinned (OpenSpec.ofChange fnExactTimesWrong)

/-- 'laws.FnExactLateness': WHATEVER THE INPUT: true; the input reads as it did. -/
def fnExactLatenessSpec : ChangeSpec := { name := "fnExactLateness", fn := fun _ => fun
  | [d1, d2] => { results := [.lit (.bool true)], args := [d1, d2] }
  | _ => none }
def fnExactLatenessRow : OpenClaim := { program := "ytomkglmlhoaniaa", sum := "3038737f0cbde087f93b189578008d71b57463c99c56a23afa46a9c14a18c12f", func := "loop.example/g00075/laws.FnExactLateness", spec := "fnExactLateness", apart := false }
def FnExactLatenessSaid : Prop := fnExactLatenessRow.holds Try.pinned (OpenSpec.ofChange fnExactLatenessSpec)

/-- ITS FALSE NEIGHBOUR: 'it returns false'. Refute it at one input. -/
def fnExactLatenessWrong : ChangeSpec := { name := "fnExactLateness", fn := fun _ => fun
  | [d1, d2] => { results := [.lit (.bool false)], args := [d1, d2] }
  | _ => none }
def FnExactLatenessWrongFalsely : Prop := fnExactLatenessRow.holds Try.pinned (OpenSpec.ofChange fnExactLatenessWrong)

/-- 'laws.FnExactKept': WHATEVER THE INPUT: true; the input reads as it did. -/
def fnExactKeptSpec : ChangeSpec := { name := "fnExactKept", fn := fun _ => fun
  | [d1, d2] => { results := [.lit (.bool true)], args := [d1, d2] }
  | _ => none }
def fnExactKeptRow : OpenClaim := { program := "ytomkglmlhoaniaa", sum := "3038737f0cbde087f93b189578008d71b57463c99c56a23afa46a9c14a18c12f", func := "loop.example/g00075/laws.FnExactKept", spec := "fnExactKept", apart := false }
def FnExactKeptSaid : Prop := fnExactKeptRow.holds Try.pinned (OpenSpec.ofChange fnExactKeptSpec)

/-- ITS FALSE NEIGHBOUR: 'it returns false'. Refute it at one input. -/
def fnExactKeptWrong : ChangeSpec := { name := "fnExactKept", fn := fun _ => fun
  | [d1, d2] => { results := [.lit (.bool false)], args := [d1, d2] }
  | _ => none }
def FnExactKeptWrongFalsely : Prop := fnExactKeptRow.holds Try.pinned (OpenSpec.ofChange fnExactKeptWrong)

/-- 'laws.FnExactChain': WHATEVER THE INPUT: true; the input reads as it did. -/
def fnExactChainSpec : ChangeSpec := { name := "fnExactChain", fn := fun _ => fun
  | [d1, d2, d3] => { results := [.lit (.bool true)], args := [d1, d2, d3] }
  | _ => none }
def fnExactChainRow : OpenClaim := { program := "ytomkglmlhoaniaa", sum := "3038737f0cbde087f93b189578008d71b57463c99c56a23afa46a9c14a18c12f", func := "loop.example/g00075/laws.FnExactChain", spec := "fnExactChain", apart := false }
def FnExactChainSaid : Prop := fnExactChainRow.holds Try.pinned (OpenSpec.ofChange fnExactChainSpec)

/-- ITS FALSE NEIGHBOUR: 'it returns false'. Refute it at one input. -/
def fnExactChainWrong : ChangeSpec := { name := "fnExactChain", fn := fun _ => fun
  | [d1, d2, d3] => { results := [.lit (.bool false)], args := [d1, d2, d3] }
  | _ => none }
def FnExactChainWrongFalsely : Prop := fnExactChainRow.holds Try.pinned (OpenSpec.ofChange fnExactChainWrong)

/-- 'laws.FnLater2': WHATEVER THE INPUT: true; the input reads as it did. -/
def fnLater2Spec : ChangeSpec := { name := "fnLater2", fn := fun _ => fun
  | [d] => { results := [.lit (.bool true)], args := [d] }
  | _ => none }
def fnLater2Row : OpenClaim := { program := "ytomkglmlhoaniaa", sum := "3038737f0cbde087f93b189578008d71b57463c99c56a23afa46a9c14a18c12f", func := "loop.example/g00075/laws.FnLater2", spec := "fnLater2", apart := false }
def FnLater2Said : Prop := fnLater2Row.holds Try.pinned (OpenSpec.ofChange fnLater2Spec)

/-- ITS FALSE NEIGHBOUR: 'it returns false'. Refute it at one input. -/
def fnLater2Wrong : ChangeSpec := { name := "fnLater2", fn := fun _ => fun
  | [d] => { results := [.lit (.bool false)], args := [d] }
  | _ => none }
def FnLater2WrongFalsely : Prop := fnLater2Row.holds Try.pinned (OpenSpec.ofChange fnLater2Wrong)

/-- 'laws.FnLate': WHATEVER THE INPUT: true; the input reads as it did. -/
def fnLateSpec : ChangeSpec := { name := "fnLate", fn := fun _ => fun
  | [d] => { results := [.lit (.bool true)], args := [d] }
  | _ => none }
def fnLateRow : OpenClaim := { program := "ytomkglmlhoaniaa", sum := "3038737f0cbde087f93b189578008d71b57463c99c56a23afa46a9c14a18c12f", func := "loop.example/g00075/laws.FnLate", spec := "fnLate", apart := false }
def FnLateSaid : Prop := fnLateRow.holds Try.pinned (OpenSpec.ofChange fnLateSpec)

/-- ITS FALSE NEIGHBOUR: 'it returns false'. Refute it at one input. -/
def fnLateWrong : ChangeSpec := { name := "fnLate", fn := fun _ => fun
  | [d] => { results := [.lit (.bool false)], args := [d] }
  | _ => none }
def FnLateWrongFalsely : Prop := fnLateRow.holds Try.pinned (OpenSpec.ofChange fnLateWrong)

/-- 'laws.FnChain': WHATEVER THE INPUT: true; the input reads as it did. -/
def fnChainSpec : ChangeSpec := { name := "fnChain", fn := fun _ => fun
  | [d] => { results := [.lit (.bool true)], args := [d] }
  | _ => none }
def fnChainRow : OpenClaim := { program := "ytomkglmlhoaniaa", sum := "3038737f0cbde087f93b189578008d71b57463c99c56a23afa46a9c14a18c12f", func := "loop.example/g00075/laws.FnChain", spec := "fnChain", apart := false }
def FnChainSaid : Prop := fnChainRow.holds Try.pinned (OpenSpec.ofChange fnChainSpec)

/-- ITS FALSE NEIGHBOUR: 'it returns false'. Refute it at one input. -/
def fnChainWrong : ChangeSpec := { name := "fnChain", fn := fun _ => fun
  | [d] => { results := [.lit (.bool false)], args := [d] }
  | _ => none }
def FnChainWrongFalsely : Prop := fnChainRow.holds Try.pinned (OpenSpec.ofChange fnChainWrong)

/- THE SECOND FORM. 'bulk': how many values and letters a reading holds, each counted each time it is reached (what is shared counts as often as it is met; a slice's spare places count too). A statement '..UptoSaid' is the law's where the arguments, and the package variables that the reading takes, are together of bulk at most 1048576: NARROWER than '..Said'. Prove '..Said' where nothing that the law and all that it calls make is longer than what came in: it says more and counts as full. Else prove '..UptoSaid'. A law counts once. -/
mutual
def uptoBulk {H : Type} : DataW H → Nat
  | .lit (.string bytes) => bytes.length + 1
  | .lit _ => 1
  | .nil => 1
  | .ptr d => uptoBulk d + 1
  | .slice elems spare => uptoBulkAll elems + uptoBulkAll spare + 1
  | .agg parts => uptoBulkAll parts + 1
  | .iface _ d => uptoBulk d + 1
  | .map entries => uptoBulkEntries entries + 1
  | .held _ => 1
def uptoBulkAll {H : Type} : List (DataW H) → Nat
  | [] => 0
  | d :: r => uptoBulk d + uptoBulkAll r
def uptoBulkEntries {H : Type} : List (Lit × DataW H) → Nat
  | [] => 0
  | x :: r => uptoBulkEntry x + uptoBulkEntries r
def uptoBulkEntry {H : Type} : Lit × DataW H → Nat
  | (.string bytes, d) => bytes.length + uptoBulk d + 1
  | (_, d) => uptoBulk d + 1
 end
def uptoSmall : (H : Type) → List (DataW H) → Bool := fun _ ds => decide (uptoBulkAll ds ≤ 1048576)
def OpenSpec.upto (s : _root_.Go.ChangeSpec) : _root_.Go.OpenSpec := { _root_.Go.OpenSpec.ofChange s with cond := some uptoSmall }

/-- 'laws.FnExactWorkOk', WHERE WHAT IT READS IS OF BULK AT MOST 1048576: true; the input reads as it did. -/
def fnExactWorkOkUptoRow : OpenClaim := { program := "ytomkglmlhoaniaa", sum := "3038737f0cbde087f93b189578008d71b57463c99c56a23afa46a9c14a18c12f", func := "loop.example/g00075/laws.FnExactWorkOk", spec := "fnExactWorkOk", apart := false, narrowed := true }
def FnExactWorkOkUptoSaid : Prop := fnExactWorkOkUptoRow.holds Try.pinned (OpenSpec.upto fnExactWorkOkSpec)

/-- 'laws.FnExactSlack', WHERE WHAT IT READS IS OF BULK AT MOST 1048576: true; the input reads as it did. -/
def fnExactSlackUptoRow : OpenClaim := { program := "ytomkglmlhoaniaa", sum := "3038737f0cbde087f93b189578008d71b57463c99c56a23afa46a9c14a18c12f", func := "loop.example/g00075/laws.FnExactSlack", spec := "fnExactSlack", apart := false, narrowed := true }
def FnExactSlackUptoSaid : Prop := fnExactSlackUptoRow.holds Try.pinned (OpenSpec.upto fnExactSlackSpec)

/-- 'laws.FnExactMissed', WHERE WHAT IT READS IS OF BULK AT MOST 1048576: true; the input reads as it did. -/
def fnExactMissedUptoRow : OpenClaim := { program := "ytomkglmlhoaniaa", sum := "3038737f0cbde087f93b189578008d71b57463c99c56a23afa46a9c14a18c12f", func := "loop.example/g00075/laws.FnExactMissed", spec := "fnExactMissed", apart := false, narrowed := true }
def FnExactMissedUptoSaid : Prop := fnExactMissedUptoRow.holds Try.pinned (OpenSpec.upto fnExactMissedSpec)

/-- 'laws.FnExactTimes', WHERE WHAT IT READS IS OF BULK AT MOST 1048576: true; the input reads as it did. -/
def fnExactTimesUptoRow : OpenClaim := { program := "ytomkglmlhoaniaa", sum := "3038737f0cbde087f93b189578008d71b57463c99c56a23afa46a9c14a18c12f", func := "loop.example/g00075/laws.FnExactTimes", spec := "fnExactTimes", apart := false, narrowed := true }
def FnExactTimesUptoSaid : Prop := fnExactTimesUptoRow.holds Try.pinned (OpenSpec.upto fnExactTimesSpec)

/-- 'laws.FnExactLateness', WHERE WHAT IT READS IS OF BULK AT MOST 1048576: true; the input reads as it did. -/
def fnExactLatenessUptoRow : OpenClaim := { program := "ytomkglmlhoaniaa", sum := "3038737f0cbde087f93b189578008d71b57463c99c56a23afa46a9c14a18c12f", func := "loop.example/g00075/laws.FnExactLateness", spec := "fnExactLateness", apart := false, narrowed := true }
def FnExactLatenessUptoSaid : Prop := fnExactLatenessUptoRow.holds Try.pinned (OpenSpec.upto fnExactLatenessSpec)

/-- 'laws.FnExactKept', WHERE WHAT IT READS IS OF BULK AT MOST 1048576: true; the input reads as it did. -/
def fnExactKeptUptoRow : OpenClaim := { program := "ytomkglmlhoaniaa", sum := "3038737f0cbde087f93b189578008d71b57463c99c56a23afa46a9c14a18c12f", func := "loop.example/g00075/laws.FnExactKept", spec := "fnExactKept", apart := false, narrowed := true }
def FnExactKeptUptoSaid : Prop := fnExactKeptUptoRow.holds Try.pinned (OpenSpec.upto fnExactKeptSpec)

/-- 'laws.FnExactChain', WHERE WHAT IT READS IS OF BULK AT MOST 1048576: true; the input reads as it did. -/
def fnExactChainUptoRow : OpenClaim := { program := "ytomkglmlhoaniaa", sum := "3038737f0cbde087f93b189578008d71b57463c99c56a23afa46a9c14a18c12f", func := "loop.example/g00075/laws.FnExactChain", spec := "fnExactChain", apart := false, narrowed := true }
def FnExactChainUptoSaid : Prop := fnExactChainUptoRow.holds Try.pinned (OpenSpec.upto fnExactChainSpec)

/-- 'laws.FnLater2', WHERE WHAT IT READS IS OF BULK AT MOST 1048576: true; the input reads as it did. -/
def fnLater2UptoRow : OpenClaim := { program := "ytomkglmlhoaniaa", sum := "3038737f0cbde087f93b189578008d71b57463c99c56a23afa46a9c14a18c12f", func := "loop.example/g00075/laws.FnLater2", spec := "fnLater2", apart := false, narrowed := true }
def FnLater2UptoSaid : Prop := fnLater2UptoRow.holds Try.pinned (OpenSpec.upto fnLater2Spec)

/-- 'laws.FnLate', WHERE WHAT IT READS IS OF BULK AT MOST 1048576: true; the input reads as it did. -/
def fnLateUptoRow : OpenClaim := { program := "ytomkglmlhoaniaa", sum := "3038737f0cbde087f93b189578008d71b57463c99c56a23afa46a9c14a18c12f", func := "loop.example/g00075/laws.FnLate", spec := "fnLate", apart := false, narrowed := true }
def FnLateUptoSaid : Prop := fnLateUptoRow.holds Try.pinned (OpenSpec.upto fnLateSpec)

/-- 'laws.FnChain', WHERE WHAT IT READS IS OF BULK AT MOST 1048576: true; the input reads as it did. -/
def fnChainUptoRow : OpenClaim := { program := "ytomkglmlhoaniaa", sum := "3038737f0cbde087f93b189578008d71b57463c99c56a23afa46a9c14a18c12f", func := "loop.example/g00075/laws.FnChain", spec := "fnChain", apart := false, narrowed := true }
def FnChainUptoSaid : Prop := fnChainUptoRow.holds Try.pinned (OpenSpec.upto fnChainSpec)

end Rows
end Go.Proofs.Ytomkglmlhoaniaa
