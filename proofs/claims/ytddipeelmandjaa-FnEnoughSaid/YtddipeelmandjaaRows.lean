/-
  No cell of these rows narrows 'for every input' (looked for: loops, veiled, ifaces, maps, wideKeys, modest, calm, conditions, laid).
  DERIVED. THE GIVEN ROWS OF THIS SEAT. 9 by the template 'for every input the law returns true; each argument reads behind the call as it read before'; 0 by the template 'total and deterministic' (their statements: YtddipeelmandjaaTotals.lean).
  GIVEN WITH THE SEED: the statements are not yours to turn. If you find one false, say at which input.
  Laid BY PROGRAM, IN A SANDBOX (cutbox-rows.mjs): the forced cells as the released guide's own fill.sh prints them over the translation 2245d294569d923e… (all of the seat's roots in one cut). By AI agents, Wed Nov 11 2026. No macro, syntax, notation, axiom, sorry.
-/
import Derived.Test.YtddipeelmandjaaChecked
import GoSem.Claim
import GoSem.ClaimJoined
import GoSem.ClaimMapViews
import Derived.JoinedTies
import Derived.KernelRfl
namespace Go.Proofs.Ytddipeelmandjaa
/- THE CELL 'sum', in the pinned program and in every row, IS THE sha256 OF THE DUMP (.gsa) THAT YtddipeelmandjaaProg.lean LOADS. Nothing in Lean hashes anything: it is a label: what it is worth is what the hold of that sum in a sandbox is worth. -/
noncomputable def Try.pinned : Pinned := { name := "ytddipeelmandjaa", sum := "2245d294569d923e38f62c0877c719843541b4ea2fecc0b1ad4f9032cf7be5ba", checked := Try.checked }
namespace Rows
def none {H : Type} : Left H := { results := [], args := [] }

/-- 'laws.FnExactBaysOk': WHATEVER THE INPUT: true; the input reads as it did. -/
def fnExactBaysOkSpec : ChangeSpec := { name := "fnExactBaysOk", fn := fun _ => fun
  | [d] => { results := [.lit (.bool true)], args := [d] }
  | _ => none }
def fnExactBaysOkRow : OpenClaim := { program := "ytddipeelmandjaa", sum := "2245d294569d923e38f62c0877c719843541b4ea2fecc0b1ad4f9032cf7be5ba", func := "loop.example/g00075/laws.FnExactBaysOk", spec := "fnExactBaysOk", apart := false }
def FnExactBaysOkSaid : Prop := fnExactBaysOkRow.holds Try.pinned (OpenSpec.ofChange fnExactBaysOkSpec)

/-- ITS FALSE NEIGHBOUR: 'it returns false'. Refute it at one input. -/
def fnExactBaysOkWrong : ChangeSpec := { name := "fnExactBaysOk", fn := fun _ => fun
  | [d] => { results := [.lit (.bool false)], args := [d] }
  | _ => none }
def FnExactBaysOkWrongFalsely : Prop := fnExactBaysOkRow.holds Try.pinned (OpenSpec.ofChange fnExactBaysOkWrong)

/-- 'laws.FnExactStaysOk': WHATEVER THE INPUT: true; the input reads as it did. -/
def fnExactStaysOkSpec : ChangeSpec := { name := "fnExactStaysOk", fn := fun _ => fun
  | [d] => { results := [.lit (.bool true)], args := [d] }
  | _ => none }
def fnExactStaysOkRow : OpenClaim := { program := "ytddipeelmandjaa", sum := "2245d294569d923e38f62c0877c719843541b4ea2fecc0b1ad4f9032cf7be5ba", func := "loop.example/g00075/laws.FnExactStaysOk", spec := "fnExactStaysOk", apart := false }
def FnExactStaysOkSaid : Prop := fnExactStaysOkRow.holds Try.pinned (OpenSpec.ofChange fnExactStaysOkSpec)

/-- ITS FALSE NEIGHBOUR: 'it returns false'. Refute it at one input. -/
def fnExactStaysOkWrong : ChangeSpec := { name := "fnExactStaysOk", fn := fun _ => fun
  | [d] => { results := [.lit (.bool false)], args := [d] }
  | _ => none }
def FnExactStaysOkWrongFalsely : Prop := fnExactStaysOkRow.holds Try.pinned (OpenSpec.ofChange fnExactStaysOkWrong)

/-- 'laws.FnExactPeak': WHATEVER THE INPUT: true; the input reads as it did. -/
def fnExactPeakSpec : ChangeSpec := { name := "fnExactPeak", fn := fun _ => fun
  | [d1, d2] => { results := [.lit (.bool true)], args := [d1, d2] }
  | _ => none }
def fnExactPeakRow : OpenClaim := { program := "ytddipeelmandjaa", sum := "2245d294569d923e38f62c0877c719843541b4ea2fecc0b1ad4f9032cf7be5ba", func := "loop.example/g00075/laws.FnExactPeak", spec := "fnExactPeak", apart := false }
def FnExactPeakSaid : Prop := fnExactPeakRow.holds Try.pinned (OpenSpec.ofChange fnExactPeakSpec)

/-- ITS FALSE NEIGHBOUR: 'it returns false'. Refute it at one input. -/
def fnExactPeakWrong : ChangeSpec := { name := "fnExactPeak", fn := fun _ => fun
  | [d1, d2] => { results := [.lit (.bool false)], args := [d1, d2] }
  | _ => none }
def FnExactPeakWrongFalsely : Prop := fnExactPeakRow.holds Try.pinned (OpenSpec.ofChange fnExactPeakWrong)

/-- 'laws.FnExactAssignOk': WHATEVER THE INPUT: true; the input reads as it did. -/
def fnExactAssignOkSpec : ChangeSpec := { name := "fnExactAssignOk", fn := fun _ => fun
  | [d1, d2, d3, d4] => { results := [.lit (.bool true)], args := [d1, d2, d3, d4] }
  | _ => none }
def fnExactAssignOkRow : OpenClaim := { program := "ytddipeelmandjaa", sum := "2245d294569d923e38f62c0877c719843541b4ea2fecc0b1ad4f9032cf7be5ba", func := "loop.example/g00075/laws.FnExactAssignOk", spec := "fnExactAssignOk", apart := false }
def FnExactAssignOkSaid : Prop := fnExactAssignOkRow.holds Try.pinned (OpenSpec.ofChange fnExactAssignOkSpec)

/-- ITS FALSE NEIGHBOUR: 'it returns false'. Refute it at one input. -/
def fnExactAssignOkWrong : ChangeSpec := { name := "fnExactAssignOk", fn := fun _ => fun
  | [d1, d2, d3, d4] => { results := [.lit (.bool false)], args := [d1, d2, d3, d4] }
  | _ => none }
def FnExactAssignOkWrongFalsely : Prop := fnExactAssignOkRow.holds Try.pinned (OpenSpec.ofChange fnExactAssignOkWrong)

/-- 'laws.FnExactFreeBays': WHATEVER THE INPUT: true; the input reads as it did. -/
def fnExactFreeBaysSpec : ChangeSpec := { name := "fnExactFreeBays", fn := fun _ => fun
  | [d1, d2, d3, d4, d5] => { results := [.lit (.bool true)], args := [d1, d2, d3, d4, d5] }
  | _ => none }
def fnExactFreeBaysRow : OpenClaim := { program := "ytddipeelmandjaa", sum := "2245d294569d923e38f62c0877c719843541b4ea2fecc0b1ad4f9032cf7be5ba", func := "loop.example/g00075/laws.FnExactFreeBays", spec := "fnExactFreeBays", apart := false }
def FnExactFreeBaysSaid : Prop := fnExactFreeBaysRow.holds Try.pinned (OpenSpec.ofChange fnExactFreeBaysSpec)

/-- ITS FALSE NEIGHBOUR: 'it returns false'. Refute it at one input. -/
def fnExactFreeBaysWrong : ChangeSpec := { name := "fnExactFreeBays", fn := fun _ => fun
  | [d1, d2, d3, d4, d5] => { results := [.lit (.bool false)], args := [d1, d2, d3, d4, d5] }
  | _ => none }
def FnExactFreeBaysWrongFalsely : Prop := fnExactFreeBaysRow.holds Try.pinned (OpenSpec.ofChange fnExactFreeBaysWrong)

/-- 'laws.FnExactAssign': WHATEVER THE INPUT: true; the input reads as it did. -/
def fnExactAssignSpec : ChangeSpec := { name := "fnExactAssign", fn := fun _ => fun
  | [d1, d2, d3] => { results := [.lit (.bool true)], args := [d1, d2, d3] }
  | _ => none }
def fnExactAssignRow : OpenClaim := { program := "ytddipeelmandjaa", sum := "2245d294569d923e38f62c0877c719843541b4ea2fecc0b1ad4f9032cf7be5ba", func := "loop.example/g00075/laws.FnExactAssign", spec := "fnExactAssign", unfollowed := true, recurses := true, apart := false }
def FnExactAssignSaid : Prop := fnExactAssignRow.holds Try.pinned (OpenSpec.ofChange fnExactAssignSpec)

/-- ITS FALSE NEIGHBOUR: 'it returns false'. Refute it at one input. -/
def fnExactAssignWrong : ChangeSpec := { name := "fnExactAssign", fn := fun _ => fun
  | [d1, d2, d3] => { results := [.lit (.bool false)], args := [d1, d2, d3] }
  | _ => none }
def FnExactAssignWrongFalsely : Prop := fnExactAssignRow.holds Try.pinned (OpenSpec.ofChange fnExactAssignWrong)

/-- 'laws.FnExactShortOf': WHATEVER THE INPUT: true; the input reads as it did. -/
def fnExactShortOfSpec : ChangeSpec := { name := "fnExactShortOf", fn := fun _ => fun
  | [d1, d2, d3] => { results := [.lit (.bool true)], args := [d1, d2, d3] }
  | _ => none }
def fnExactShortOfRow : OpenClaim := { program := "ytddipeelmandjaa", sum := "2245d294569d923e38f62c0877c719843541b4ea2fecc0b1ad4f9032cf7be5ba", func := "loop.example/g00075/laws.FnExactShortOf", spec := "fnExactShortOf", unfollowed := true, recurses := true, apart := false }
def FnExactShortOfSaid : Prop := fnExactShortOfRow.holds Try.pinned (OpenSpec.ofChange fnExactShortOfSpec)

/-- ITS FALSE NEIGHBOUR: 'it returns false'. Refute it at one input. -/
def fnExactShortOfWrong : ChangeSpec := { name := "fnExactShortOf", fn := fun _ => fun
  | [d1, d2, d3] => { results := [.lit (.bool false)], args := [d1, d2, d3] }
  | _ => none }
def FnExactShortOfWrongFalsely : Prop := fnExactShortOfRow.holds Try.pinned (OpenSpec.ofChange fnExactShortOfWrong)

/-- 'laws.FnEnough': WHATEVER THE INPUT: true; the input reads as it did. -/
def fnEnoughSpec : ChangeSpec := { name := "fnEnough", fn := fun _ => fun
  | [d] => { results := [.lit (.bool true)], args := [d] }
  | _ => none }
def fnEnoughRow : OpenClaim := { program := "ytddipeelmandjaa", sum := "2245d294569d923e38f62c0877c719843541b4ea2fecc0b1ad4f9032cf7be5ba", func := "loop.example/g00075/laws.FnEnough", spec := "fnEnough", unfollowed := true, recurses := true, apart := false }
def FnEnoughSaid : Prop := fnEnoughRow.holds Try.pinned (OpenSpec.ofChange fnEnoughSpec)

/-- ITS FALSE NEIGHBOUR: 'it returns false'. Refute it at one input. -/
def fnEnoughWrong : ChangeSpec := { name := "fnEnough", fn := fun _ => fun
  | [d] => { results := [.lit (.bool false)], args := [d] }
  | _ => none }
def FnEnoughWrongFalsely : Prop := fnEnoughRow.holds Try.pinned (OpenSpec.ofChange fnEnoughWrong)

/-- 'laws.FnBays': WHATEVER THE INPUT: true; the input reads as it did. -/
def fnBaysSpec : ChangeSpec := { name := "fnBays", fn := fun _ => fun
  | [d] => { results := [.lit (.bool true)], args := [d] }
  | _ => none }
def fnBaysRow : OpenClaim := { program := "ytddipeelmandjaa", sum := "2245d294569d923e38f62c0877c719843541b4ea2fecc0b1ad4f9032cf7be5ba", func := "loop.example/g00075/laws.FnBays", spec := "fnBays", unfollowed := true, recurses := true, apart := false }
def FnBaysSaid : Prop := fnBaysRow.holds Try.pinned (OpenSpec.ofChange fnBaysSpec)

/-- ITS FALSE NEIGHBOUR: 'it returns false'. Refute it at one input. -/
def fnBaysWrong : ChangeSpec := { name := "fnBays", fn := fun _ => fun
  | [d] => { results := [.lit (.bool false)], args := [d] }
  | _ => none }
def FnBaysWrongFalsely : Prop := fnBaysRow.holds Try.pinned (OpenSpec.ofChange fnBaysWrong)

/- THE SECOND FORM. 'bulk': how many values and letters a reading holds, each counted each time it is reached (what is shared counts as often as it is met; a slice's spare places count too). A statement '..UptoSaid' is the law's where the arguments, and the package variables that the reading takes, are together of bulk at most 1048576: NARROWER than '..Said'. Prove '..Said' where nothing that the law and all that it calls make is longer than what came in: it says more and counts as full. Else prove '..UptoSaid'. A law counts once. -/
mutual
def uptoBulk {H : Type} : DataW H → Nat
  | .lit (.string bytes) => bytes.length + 1
  | .lit _ => 1
  | .nil => 1
  | .ptr d => uptoBulk d + 1
  | .slice elems spare => uptoBulkAll elems + uptoBulkAll spare + 1
  | .agg parts => uptoBulkAll parts + 1
  | .iface _ d => uptoBulk d + 1
  | .map entries => uptoBulkEntries entries + 1
  | .held _ => 1
def uptoBulkAll {H : Type} : List (DataW H) → Nat
  | [] => 0
  | d :: r => uptoBulk d + uptoBulkAll r
def uptoBulkEntries {H : Type} : List (Lit × DataW H) → Nat
  | [] => 0
  | x :: r => uptoBulkEntry x + uptoBulkEntries r
def uptoBulkEntry {H : Type} : Lit × DataW H → Nat
  | (.string bytes, d) => bytes.length + uptoBulk d + 1
  | (_, d) => uptoBulk d + 1
 end
def uptoSmall : (H : Type) → List (DataW H) → Bool := fun _ ds => decide (uptoBulkAll ds ≤ 1048576)
def OpenSpec.upto (s : _root_.Go.ChangeSpec) : _root_.Go.OpenSpec := { _root_.Go.OpenSpec.ofChange s with cond := some uptoSmall }

/-- 'laws.FnExactBaysOk', WHERE WHAT IT READS IS OF BULK AT MOST 1048576: true; the input reads as it did. -/
def fnExactBaysOkUptoRow : OpenClaim := { program := "ytddipeelmandjaa", sum := "2245d294569d923e38f62c0877c719843541b4ea2fecc0b1ad4f9032cf7be5ba", func := "loop.example/g00075/laws.FnExactBaysOk", spec := "fnExactBaysOk", apart := false, narrowed := true }
def FnExactBaysOkUptoSaid : Prop := fnExactBaysOkUptoRow.holds Try.pinned (OpenSpec.upto fnExactBaysOkSpec)

/-- 'laws.FnExactStaysOk', WHERE WHAT IT READS IS OF BULK AT MOST 1048576: true; the input reads as it did. -/
def fnExactStaysOkUptoRow : OpenClaim := { program := "ytddipeelmandjaa", sum := "2245d294569d923e38f62c0877c719843541b4ea2fecc0b1ad4f9032cf7be5ba", func := "loop.example/g00075/laws.FnExactStaysOk", spec := "fnExactStaysOk", apart := false, narrowed := true }
def FnExactStaysOkUptoSaid : Prop := fnExactStaysOkUptoRow.holds Try.pinned (OpenSpec.upto fnExactStaysOkSpec)

/-- 'laws.FnExactPeak', WHERE WHAT IT READS IS OF BULK AT MOST 1048576: true; the input reads as it did. -/
def fnExactPeakUptoRow : OpenClaim := { program := "ytddipeelmandjaa", sum := "2245d294569d923e38f62c0877c719843541b4ea2fecc0b1ad4f9032cf7be5ba", func := "loop.example/g00075/laws.FnExactPeak", spec := "fnExactPeak", apart := false, narrowed := true }
def FnExactPeakUptoSaid : Prop := fnExactPeakUptoRow.holds Try.pinned (OpenSpec.upto fnExactPeakSpec)

/-- 'laws.FnExactAssignOk', WHERE WHAT IT READS IS OF BULK AT MOST 1048576: true; the input reads as it did. -/
def fnExactAssignOkUptoRow : OpenClaim := { program := "ytddipeelmandjaa", sum := "2245d294569d923e38f62c0877c719843541b4ea2fecc0b1ad4f9032cf7be5ba", func := "loop.example/g00075/laws.FnExactAssignOk", spec := "fnExactAssignOk", apart := false, narrowed := true }
def FnExactAssignOkUptoSaid : Prop := fnExactAssignOkUptoRow.holds Try.pinned (OpenSpec.upto fnExactAssignOkSpec)

/-- 'laws.FnExactFreeBays', WHERE WHAT IT READS IS OF BULK AT MOST 1048576: true; the input reads as it did. -/
def fnExactFreeBaysUptoRow : OpenClaim := { program := "ytddipeelmandjaa", sum := "2245d294569d923e38f62c0877c719843541b4ea2fecc0b1ad4f9032cf7be5ba", func := "loop.example/g00075/laws.FnExactFreeBays", spec := "fnExactFreeBays", apart := false, narrowed := true }
def FnExactFreeBaysUptoSaid : Prop := fnExactFreeBaysUptoRow.holds Try.pinned (OpenSpec.upto fnExactFreeBaysSpec)

/-- 'laws.FnExactAssign', WHERE WHAT IT READS IS OF BULK AT MOST 1048576: true; the input reads as it did. -/
def fnExactAssignUptoRow : OpenClaim := { program := "ytddipeelmandjaa", sum := "2245d294569d923e38f62c0877c719843541b4ea2fecc0b1ad4f9032cf7be5ba", func := "loop.example/g00075/laws.FnExactAssign", spec := "fnExactAssign", unfollowed := true, recurses := true, apart := false, narrowed := true }
def FnExactAssignUptoSaid : Prop := fnExactAssignUptoRow.holds Try.pinned (OpenSpec.upto fnExactAssignSpec)

/-- 'laws.FnExactShortOf', WHERE WHAT IT READS IS OF BULK AT MOST 1048576: true; the input reads as it did. -/
def fnExactShortOfUptoRow : OpenClaim := { program := "ytddipeelmandjaa", sum := "2245d294569d923e38f62c0877c719843541b4ea2fecc0b1ad4f9032cf7be5ba", func := "loop.example/g00075/laws.FnExactShortOf", spec := "fnExactShortOf", unfollowed := true, recurses := true, apart := false, narrowed := true }
def FnExactShortOfUptoSaid : Prop := fnExactShortOfUptoRow.holds Try.pinned (OpenSpec.upto fnExactShortOfSpec)

/-- 'laws.FnEnough', WHERE WHAT IT READS IS OF BULK AT MOST 1048576: true; the input reads as it did. -/
def fnEnoughUptoRow : OpenClaim := { program := "ytddipeelmandjaa", sum := "2245d294569d923e38f62c0877c719843541b4ea2fecc0b1ad4f9032cf7be5ba", func := "loop.example/g00075/laws.FnEnough", spec := "fnEnough", unfollowed := true, recurses := true, apart := false, narrowed := true }
def FnEnoughUptoSaid : Prop := fnEnoughUptoRow.holds Try.pinned (OpenSpec.upto fnEnoughSpec)

/-- 'laws.FnBays', WHERE WHAT IT READS IS OF BULK AT MOST 1048576: true; the input reads as it did. -/
def fnBaysUptoRow : OpenClaim := { program := "ytddipeelmandjaa", sum := "2245d294569d923e38f62c0877c719843541b4ea2fecc0b1ad4f9032cf7be5ba", func := "loop.example/g00075/laws.FnBays", spec := "fnBays", unfollowed := true, recurses := true, apart := false, narrowed := true }
def FnBaysUptoSaid : Prop := fnBaysUptoRow.holds Try.pinned (OpenSpec.upto fnBaysSpec)

end Rows
end Go.Proofs.Ytddipeelmandjaa
