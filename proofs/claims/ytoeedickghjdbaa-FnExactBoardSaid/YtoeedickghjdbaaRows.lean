/-
  No cell of these rows narrows 'for every input' (looked for: loops, veiled, ifaces, maps, wideKeys, modest, calm, conditions, laid).
  DERIVED. THE GIVEN ROWS OF THIS SEAT. 8 by the template 'for every input the law returns true; each argument reads behind the call as it read before'; 0 by the template 'total and deterministic' (their statements: YtoeedickghjdbaaTotals.lean).
  GIVEN WITH THE SEED: the statements are not yours to turn. If you find one false, say at which input.
  Laid BY PROGRAM, IN A SANDBOX (cutbox-rows.mjs): the forced cells as the released guide's own fill.sh prints them over the translation a6cf712a8874cce1… (all of the seat's roots in one cut). By AI agents, Wed Nov 11 2026. No macro, syntax, notation, axiom, sorry.
-/
import Derived.Test.YtoeedickghjdbaaChecked
import GoSem.Claim
import GoSem.ClaimJoined
import GoSem.ClaimMapViews
import Derived.JoinedTies
import Derived.KernelRfl
namespace Go.Proofs.Ytoeedickghjdbaa
/- THE CELL 'sum', in the pinned program and in every row, IS THE sha256 OF THE DUMP (.gsa) THAT YtoeedickghjdbaaProg.lean LOADS. Nothing in Lean hashes anything: it is a label: what it is worth is what the hold of that sum in a sandbox is worth. -/
noncomputable def Try.pinned : Pinned := { name := "ytoeedickghjdbaa", sum := "a6cf712a8874cce12eee27b4a584f1b86d24b97ab0811dcd41bba31e456cd217", checked := Try.checked }
namespace Rows
def none {H : Type} : Left H := { results := [], args := [] }

/-- 'laws.FnExactTripOk': WHATEVER THE INPUT: true; the input reads as it did. -/
def fnExactTripOkSpec : ChangeSpec := { name := "fnExactTripOk", fn := fun _ => fun
  | [d] => { results := [.lit (.bool true)], args := [d] }
  | _ => none }
def fnExactTripOkRow : OpenClaim := { program := "ytoeedickghjdbaa", sum := "a6cf712a8874cce12eee27b4a584f1b86d24b97ab0811dcd41bba31e456cd217", func := "loop.example/g00075/laws.FnExactTripOk", spec := "fnExactTripOk", apart := false }
def FnExactTripOkSaid : Prop := fnExactTripOkRow.holds Try.pinned (OpenSpec.ofChange fnExactTripOkSpec)

/-- ITS FALSE NEIGHBOUR: 'it returns false'. Refute it at one input. -/
def fnExactTripOkWrong : ChangeSpec := { name := "fnExactTripOk", fn := fun _ => fun
  | [d] => { results := [.lit (.bool false)], args := [d] }
  | _ => none }
def FnExactTripOkWrongFalsely : Prop := fnExactTripOkRow.holds Try.pinned (OpenSpec.ofChange fnExactTripOkWrong)

/-- 'laws.FnExactWhere': WHATEVER THE INPUT: true; the input reads as it did. -/
def fnExactWhereSpec : ChangeSpec := { name := "fnExactWhere", fn := fun _ => fun
  | [d1, d2] => { results := [.lit (.bool true)], args := [d1, d2] }
  | _ => none }
def fnExactWhereRow : OpenClaim := { program := "ytoeedickghjdbaa", sum := "a6cf712a8874cce12eee27b4a584f1b86d24b97ab0811dcd41bba31e456cd217", func := "loop.example/g00075/laws.FnExactWhere", spec := "fnExactWhere", apart := false }
def FnExactWhereSaid : Prop := fnExactWhereRow.holds Try.pinned (OpenSpec.ofChange fnExactWhereSpec)

/-- ITS FALSE NEIGHBOUR: 'it returns false'. Refute it at one input. -/
def fnExactWhereWrong : ChangeSpec := { name := "fnExactWhere", fn := fun _ => fun
  | [d1, d2] => { results := [.lit (.bool false)], args := [d1, d2] }
  | _ => none }
def FnExactWhereWrongFalsely : Prop := fnExactWhereRow.holds Try.pinned (OpenSpec.ofChange fnExactWhereWrong)

/-- 'laws.FnExactTableOk': WHATEVER THE INPUT: true; the input reads as it did. -/
def fnExactTableOkSpec : ChangeSpec := { name := "fnExactTableOk", fn := fun _ => fun
  | [d] => { results := [.lit (.bool true)], args := [d] }
  | _ => none }
def fnExactTableOkRow : OpenClaim := { program := "ytoeedickghjdbaa", sum := "a6cf712a8874cce12eee27b4a584f1b86d24b97ab0811dcd41bba31e456cd217", func := "loop.example/g00075/laws.FnExactTableOk", spec := "fnExactTableOk", unfollowed := true, recurses := true, apart := false }
def FnExactTableOkSaid : Prop := fnExactTableOkRow.holds Try.pinned (OpenSpec.ofChange fnExactTableOkSpec)

/-- ITS FALSE NEIGHBOUR: 'it returns false'. Refute it at one input. -/
def fnExactTableOkWrong : ChangeSpec := { name := "fnExactTableOk", fn := fun _ => fun
  | [d] => { results := [.lit (.bool false)], args := [d] }
  | _ => none }
def FnExactTableOkWrongFalsely : Prop := fnExactTableOkRow.holds Try.pinned (OpenSpec.ofChange fnExactTableOkWrong)

/-- 'laws.FnExactMoved': WHATEVER THE INPUT: true; the input reads as it did. -/
def fnExactMovedSpec : ChangeSpec := { name := "fnExactMoved", fn := fun _ => fun
  | [d1, d2] => { results := [.lit (.bool true)], args := [d1, d2] }
  | _ => none }
def fnExactMovedRow : OpenClaim := { program := "ytoeedickghjdbaa", sum := "a6cf712a8874cce12eee27b4a584f1b86d24b97ab0811dcd41bba31e456cd217", func := "loop.example/g00075/laws.FnExactMoved", spec := "fnExactMoved", apart := false }
def FnExactMovedSaid : Prop := fnExactMovedRow.holds Try.pinned (OpenSpec.ofChange fnExactMovedSpec)

/-- ITS FALSE NEIGHBOUR: 'it returns false'. Refute it at one input. -/
def fnExactMovedWrong : ChangeSpec := { name := "fnExactMoved", fn := fun _ => fun
  | [d1, d2] => { results := [.lit (.bool false)], args := [d1, d2] }
  | _ => none }
def FnExactMovedWrongFalsely : Prop := fnExactMovedRow.holds Try.pinned (OpenSpec.ofChange fnExactMovedWrong)

/-- 'laws.FnExactBack': WHATEVER THE INPUT: true; the input reads as it did. -/
def fnExactBackSpec : ChangeSpec := { name := "fnExactBack", fn := fun _ => fun
  | [d1, d2] => { results := [.lit (.bool true)], args := [d1, d2] }
  | _ => none }
def fnExactBackRow : OpenClaim := { program := "ytoeedickghjdbaa", sum := "a6cf712a8874cce12eee27b4a584f1b86d24b97ab0811dcd41bba31e456cd217", func := "loop.example/g00075/laws.FnExactBack", spec := "fnExactBack", apart := false }
def FnExactBackSaid : Prop := fnExactBackRow.holds Try.pinned (OpenSpec.ofChange fnExactBackSpec)

/-- ITS FALSE NEIGHBOUR: 'it returns false'. Refute it at one input. -/
def fnExactBackWrong : ChangeSpec := { name := "fnExactBack", fn := fun _ => fun
  | [d1, d2] => { results := [.lit (.bool false)], args := [d1, d2] }
  | _ => none }
def FnExactBackWrongFalsely : Prop := fnExactBackRow.holds Try.pinned (OpenSpec.ofChange fnExactBackWrong)

/-- 'laws.FnExactBoard': WHATEVER THE INPUT: true; the input reads as it did. -/
def fnExactBoardSpec : ChangeSpec := { name := "fnExactBoard", fn := fun _ => fun
  | [d1, d2, d3, d4] => { results := [.lit (.bool true)], args := [d1, d2, d3, d4] }
  | _ => none }
def fnExactBoardRow : OpenClaim := { program := "ytoeedickghjdbaa", sum := "a6cf712a8874cce12eee27b4a584f1b86d24b97ab0811dcd41bba31e456cd217", func := "loop.example/g00075/laws.FnExactBoard", spec := "fnExactBoard", unfollowed := true, recurses := true, apart := false }
def FnExactBoardSaid : Prop := fnExactBoardRow.holds Try.pinned (OpenSpec.ofChange fnExactBoardSpec)

/-- ITS FALSE NEIGHBOUR: 'it returns false'. Refute it at one input. -/
def fnExactBoardWrong : ChangeSpec := { name := "fnExactBoard", fn := fun _ => fun
  | [d1, d2, d3, d4] => { results := [.lit (.bool false)], args := [d1, d2, d3, d4] }
  | _ => none }
def FnExactBoardWrongFalsely : Prop := fnExactBoardRow.holds Try.pinned (OpenSpec.ofChange fnExactBoardWrong)

/-- 'laws.FnWhere': WHATEVER THE INPUT: true; the input reads as it did. -/
def fnWhereSpec : ChangeSpec := { name := "fnWhere", fn := fun _ => fun
  | [d] => { results := [.lit (.bool true)], args := [d] }
  | _ => none }
def fnWhereRow : OpenClaim := { program := "ytoeedickghjdbaa", sum := "a6cf712a8874cce12eee27b4a584f1b86d24b97ab0811dcd41bba31e456cd217", func := "loop.example/g00075/laws.FnWhere", spec := "fnWhere", apart := false }
def FnWhereSaid : Prop := fnWhereRow.holds Try.pinned (OpenSpec.ofChange fnWhereSpec)

/-- ITS FALSE NEIGHBOUR: 'it returns false'. Refute it at one input. -/
def fnWhereWrong : ChangeSpec := { name := "fnWhere", fn := fun _ => fun
  | [d] => { results := [.lit (.bool false)], args := [d] }
  | _ => none }
def FnWhereWrongFalsely : Prop := fnWhereRow.holds Try.pinned (OpenSpec.ofChange fnWhereWrong)

/-- 'laws.FnBoard': WHATEVER THE INPUT: true; the input reads as it did. -/
def fnBoardSpec : ChangeSpec := { name := "fnBoard", fn := fun _ => fun
  | [d] => { results := [.lit (.bool true)], args := [d] }
  | _ => none }
def fnBoardRow : OpenClaim := { program := "ytoeedickghjdbaa", sum := "a6cf712a8874cce12eee27b4a584f1b86d24b97ab0811dcd41bba31e456cd217", func := "loop.example/g00075/laws.FnBoard", spec := "fnBoard", unfollowed := true, recurses := true, apart := false }
def FnBoardSaid : Prop := fnBoardRow.holds Try.pinned (OpenSpec.ofChange fnBoardSpec)

/-- ITS FALSE NEIGHBOUR: 'it returns false'. Refute it at one input. -/
def fnBoardWrong : ChangeSpec := { name := "fnBoard", fn := fun _ => fun
  | [d] => { results := [.lit (.bool false)], args := [d] }
  | _ => none }
def FnBoardWrongFalsely : Prop := fnBoardRow.holds Try.pinned (OpenSpec.ofChange fnBoardWrong)

/- THE SECOND FORM. 'bulk': how many values and letters a reading holds, each counted each time it is reached (what is shared counts as often as it is met; a slice's spare places count too). A statement '..UptoSaid' is the law's where the arguments, and the package variables that the reading takes, are together of bulk at most 1048576: NARROWER than '..Said'. Prove '..Said' where nothing that the law and all that it calls make is longer than what came in: it says more and counts as full. Else prove '..UptoSaid'. A law counts once. -/
mutual
def uptoBulk {H : Type} : DataW H → Nat
  | .lit (.string bytes) => bytes.length + 1
  | .lit _ => 1
  | .nil => 1
  | .ptr d => uptoBulk d + 1
  | .slice elems spare => uptoBulkAll elems + uptoBulkAll spare + 1
  | .agg parts => uptoBulkAll parts + 1
  | .iface _ d => uptoBulk d + 1
  | .map entries => uptoBulkEntries entries + 1
  | .held _ => 1
def uptoBulkAll {H : Type} : List (DataW H) → Nat
  | [] => 0
  | d :: r => uptoBulk d + uptoBulkAll r
def uptoBulkEntries {H : Type} : List (Lit × DataW H) → Nat
  | [] => 0
  | x :: r => uptoBulkEntry x + uptoBulkEntries r
def uptoBulkEntry {H : Type} : Lit × DataW H → Nat
  | (.string bytes, d) => bytes.length + uptoBulk d + 1
  | (_, d) => uptoBulk d + 1
 end
def uptoSmall : (H : Type) → List (DataW H) → Bool := fun _ ds => decide (uptoBulkAll ds ≤ 1048576)
def OpenSpec.upto (s : _root_.Go.ChangeSpec) : _root_.Go.OpenSpec := { _root_.Go.OpenSpec.ofChange s with cond := some uptoSmall }

/-- 'laws.FnExactTripOk', WHERE WHAT IT READS IS OF BULK AT MOST 1048576: true; the input reads as it did. -/
def fnExactTripOkUptoRow : OpenClaim := { program := "ytoeedickghjdbaa", sum := "a6cf712a8874cce12eee27b4a584f1b86d24b97ab0811dcd41bba31e456cd217", func := "loop.example/g00075/laws.FnExactTripOk", spec := "fnExactTripOk", apart := false, narrowed := true }
def FnExactTripOkUptoSaid : Prop := fnExactTripOkUptoRow.holds Try.pinned (OpenSpec.upto fnExactTripOkSpec)

/-- 'laws.FnExactWhere', WHERE WHAT IT READS IS OF BULK AT MOST 1048576: true; the input reads as it did. -/
def fnExactWhereUptoRow : OpenClaim := { program := "ytoeedickghjdbaa", sum := "a6cf712a8874cce12eee27b4a584f1b86d24b97ab0811dcd41bba31e456cd217", func := "loop.example/g00075/laws.FnExactWhere", spec := "fnExactWhere", apart := false, narrowed := true }
def FnExactWhereUptoSaid : Prop := fnExactWhereUptoRow.holds Try.pinned (OpenSpec.upto fnExactWhereSpec)

/-- 'laws.FnExactTableOk', WHERE WHAT IT READS IS OF BULK AT MOST 1048576: true; the input reads as it did. -/
def fnExactTableOkUptoRow : OpenClaim := { program := "ytoeedickghjdbaa", sum := "a6cf712a8874cce12eee27b4a584f1b86d24b97ab0811dcd41bba31e456cd217", func := "loop.example/g00075/laws.FnExactTableOk", spec := "fnExactTableOk", unfollowed := true, recurses := true, apart := false, narrowed := true }
def FnExactTableOkUptoSaid : Prop := fnExactTableOkUptoRow.holds Try.pinned (OpenSpec.upto fnExactTableOkSpec)

/-- 'laws.FnExactMoved', WHERE WHAT IT READS IS OF BULK AT MOST 1048576: true; the input reads as it did. -/
def fnExactMovedUptoRow : OpenClaim := { program := "ytoeedickghjdbaa", sum := "a6cf712a8874cce12eee27b4a584f1b86d24b97ab0811dcd41bba31e456cd217", func := "loop.example/g00075/laws.FnExactMoved", spec := "fnExactMoved", apart := false, narrowed := true }
def FnExactMovedUptoSaid : Prop := fnExactMovedUptoRow.holds Try.pinned (OpenSpec.upto fnExactMovedSpec)

/-- 'laws.FnExactBack', WHERE WHAT IT READS IS OF BULK AT MOST 1048576: true; the input reads as it did. -/
def fnExactBackUptoRow : OpenClaim := { program := "ytoeedickghjdbaa", sum := "a6cf712a8874cce12eee27b4a584f1b86d24b97ab0811dcd41bba31e456cd217", func := "loop.example/g00075/laws.FnExactBack", spec := "fnExactBack", apart := false, narrowed := true }
def FnExactBackUptoSaid : Prop := fnExactBackUptoRow.holds Try.pinned (OpenSpec.upto fnExactBackSpec)

/-- 'laws.FnExactBoard', WHERE WHAT IT READS IS OF BULK AT MOST 1048576: true; the input reads as it did. -/
def fnExactBoardUptoRow : OpenClaim := { program := "ytoeedickghjdbaa", sum := "a6cf712a8874cce12eee27b4a584f1b86d24b97ab0811dcd41bba31e456cd217", func := "loop.example/g00075/laws.FnExactBoard", spec := "fnExactBoard", unfollowed := true, recurses := true, apart := false, narrowed := true }
def FnExactBoardUptoSaid : Prop := fnExactBoardUptoRow.holds Try.pinned (OpenSpec.upto fnExactBoardSpec)

/-- 'laws.FnWhere', WHERE WHAT IT READS IS OF BULK AT MOST 1048576: true; the input reads as it did. -/
def fnWhereUptoRow : OpenClaim := { program := "ytoeedickghjdbaa", sum := "a6cf712a8874cce12eee27b4a584f1b86d24b97ab0811dcd41bba31e456cd217", func := "loop.example/g00075/laws.FnWhere", spec := "fnWhere", apart := false, narrowed := true }
def FnWhereUptoSaid : Prop := fnWhereUptoRow.holds Try.pinned (OpenSpec.upto fnWhereSpec)

/-- 'laws.FnBoard', WHERE WHAT IT READS IS OF BULK AT MOST 1048576: true; the input reads as it did. -/
def fnBoardUptoRow : OpenClaim := { program := "ytoeedickghjdbaa", sum := "a6cf712a8874cce12eee27b4a584f1b86d24b97ab0811dcd41bba31e456cd217", func := "loop.example/g00075/laws.FnBoard", spec := "fnBoard", unfollowed := true, recurses := true, apart := false, narrowed := true }
def FnBoardUptoSaid : Prop := fnBoardUptoRow.holds Try.pinned (OpenSpec.upto fnBoardSpec)

end Rows
end Go.Proofs.Ytoeedickghjdbaa
