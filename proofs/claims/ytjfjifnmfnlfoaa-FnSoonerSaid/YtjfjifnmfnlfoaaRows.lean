/-
  No cell of these rows narrows 'for every input' (looked for: loops, veiled, ifaces, maps, wideKeys, modest, calm, conditions, laid).
  DERIVED. THE GIVEN ROWS OF THIS SEAT. 7 by the template 'for every input the law returns true; each argument reads behind the call as it read before'; 0 by the template 'total and deterministic' (their statements: YtjfjifnmfnlfoaaTotals.lean).
  GIVEN WITH THE SEED: the statements are not yours to turn. If you find one false, say at which input.
  Laid BY PROGRAM, IN A SANDBOX (cutbox-rows.mjs): the forced cells as the released guide's own fill.sh prints them over the translation 65c2bcad3d9c2561… (all of the seat's roots in one cut). By AI agents, Wed Nov 11 2026. No macro, syntax, notation, axiom, sorry.
-/
import Derived.Test.YtjfjifnmfnlfoaaChecked
import GoSem.Claim
import GoSem.ClaimJoined
import GoSem.ClaimMapViews
import Derived.JoinedTies
import Derived.KernelRfl
namespace Go.Proofs.Ytjfjifnmfnlfoaa
/- THE CELL 'sum', in the pinned program and in every row, IS THE sha256 OF THE DUMP (.gsa) THAT YtjfjifnmfnlfoaaProg.lean LOADS. Nothing in Lean hashes anything: it is a label: what it is worth is what the hold of that sum in a sandbox is worth. -/
noncomputable def Try.pinned : Pinned := { name := "ytjfjifnmfnlfoaa", sum := "65c2bcad3d9c25613eeef16049031b94e0d71c077a44dcfa7b2d91e2eb9c4f17", checked := Try.checked }
namespace Rows
def none {H : Type} : Left H := { results := [], args := [] }

/-- 'laws.FnExactPlantOk': WHATEVER THE INPUT: true; the input reads as it did. -/
def fnExactPlantOkSpec : ChangeSpec := { name := "fnExactPlantOk", fn := fun _ => fun
  | [d] => { results := [.lit (.bool true)], args := [d] }
  | _ => none }
def fnExactPlantOkRow : OpenClaim := { program := "ytjfjifnmfnlfoaa", sum := "65c2bcad3d9c25613eeef16049031b94e0d71c077a44dcfa7b2d91e2eb9c4f17", func := "loop.example/g00075/laws.FnExactPlantOk", spec := "fnExactPlantOk", apart := false }
def FnExactPlantOkSaid : Prop := fnExactPlantOkRow.holds Try.pinned (OpenSpec.ofChange fnExactPlantOkSpec)

/-- ITS FALSE NEIGHBOUR: 'it returns false'. Refute it at one input. -/
def fnExactPlantOkWrong : ChangeSpec := { name := "fnExactPlantOk", fn := fun _ => fun
  | [d] => { results := [.lit (.bool false)], args := [d] }
  | _ => none }
def FnExactPlantOkWrongFalsely : Prop := fnExactPlantOkRow.holds Try.pinned (OpenSpec.ofChange fnExactPlantOkWrong)

/-- 'laws.FnExactClashing': WHATEVER THE INPUT: true; the input reads as it did. -/
def fnExactClashingSpec : ChangeSpec := { name := "fnExactClashing", fn := fun _ => fun
  | [d1, d2, d3] => { results := [.lit (.bool true)], args := [d1, d2, d3] }
  | _ => none }
def fnExactClashingRow : OpenClaim := { program := "ytjfjifnmfnlfoaa", sum := "65c2bcad3d9c25613eeef16049031b94e0d71c077a44dcfa7b2d91e2eb9c4f17", func := "loop.example/g00075/laws.FnExactClashing", spec := "fnExactClashing", apart := false }
def FnExactClashingSaid : Prop := fnExactClashingRow.holds Try.pinned (OpenSpec.ofChange fnExactClashingSpec)

/-- ITS FALSE NEIGHBOUR: 'it returns false'. Refute it at one input. -/
def fnExactClashingWrong : ChangeSpec := { name := "fnExactClashing", fn := fun _ => fun
  | [d1, d2, d3] => { results := [.lit (.bool false)], args := [d1, d2, d3] }
  | _ => none }
def FnExactClashingWrongFalsely : Prop := fnExactClashingRow.holds Try.pinned (OpenSpec.ofChange fnExactClashingWrong)

/-- 'laws.FnExactBare': WHATEVER THE INPUT: true; the input reads as it did. -/
def fnExactBareSpec : ChangeSpec := { name := "fnExactBare", fn := fun _ => fun
  | [d] => { results := [.lit (.bool true)], args := [d] }
  | _ => none }
def fnExactBareRow : OpenClaim := { program := "ytjfjifnmfnlfoaa", sum := "65c2bcad3d9c25613eeef16049031b94e0d71c077a44dcfa7b2d91e2eb9c4f17", func := "loop.example/g00075/laws.FnExactBare", spec := "fnExactBare", apart := false }
def FnExactBareSaid : Prop := fnExactBareRow.holds Try.pinned (OpenSpec.ofChange fnExactBareSpec)

/-- ITS FALSE NEIGHBOUR: 'it returns false'. Refute it at one input. -/
def fnExactBareWrong : ChangeSpec := { name := "fnExactBare", fn := fun _ => fun
  | [d] => { results := [.lit (.bool false)], args := [d] }
  | _ => none }
def FnExactBareWrongFalsely : Prop := fnExactBareRow.holds Try.pinned (OpenSpec.ofChange fnExactBareWrong)

/-- 'laws.FnExactLockingOk': WHATEVER THE INPUT: true; the input reads as it did. -/
def fnExactLockingOkSpec : ChangeSpec := { name := "fnExactLockingOk", fn := fun _ => fun
  | [d1, d2] => { results := [.lit (.bool true)], args := [d1, d2] }
  | _ => none }
def fnExactLockingOkRow : OpenClaim := { program := "ytjfjifnmfnlfoaa", sum := "65c2bcad3d9c25613eeef16049031b94e0d71c077a44dcfa7b2d91e2eb9c4f17", func := "loop.example/g00075/laws.FnExactLockingOk", spec := "fnExactLockingOk", apart := false }
def FnExactLockingOkSaid : Prop := fnExactLockingOkRow.holds Try.pinned (OpenSpec.ofChange fnExactLockingOkSpec)

/-- ITS FALSE NEIGHBOUR: 'it returns false'. Refute it at one input. -/
def fnExactLockingOkWrong : ChangeSpec := { name := "fnExactLockingOk", fn := fun _ => fun
  | [d1, d2] => { results := [.lit (.bool false)], args := [d1, d2] }
  | _ => none }
def FnExactLockingOkWrongFalsely : Prop := fnExactLockingOkRow.holds Try.pinned (OpenSpec.ofChange fnExactLockingOkWrong)

/-- 'laws.FnExactLegsOk': WHATEVER THE INPUT: true; the input reads as it did. -/
def fnExactLegsOkSpec : ChangeSpec := { name := "fnExactLegsOk", fn := fun _ => fun
  | [d1, d2, d3] => { results := [.lit (.bool true)], args := [d1, d2, d3] }
  | _ => none }
def fnExactLegsOkRow : OpenClaim := { program := "ytjfjifnmfnlfoaa", sum := "65c2bcad3d9c25613eeef16049031b94e0d71c077a44dcfa7b2d91e2eb9c4f17", func := "loop.example/g00075/laws.FnExactLegsOk", spec := "fnExactLegsOk", unfollowed := true, recurses := true, apart := false }
def FnExactLegsOkSaid : Prop := fnExactLegsOkRow.holds Try.pinned (OpenSpec.ofChange fnExactLegsOkSpec)

/-- ITS FALSE NEIGHBOUR: 'it returns false'. Refute it at one input. -/
def fnExactLegsOkWrong : ChangeSpec := { name := "fnExactLegsOk", fn := fun _ => fun
  | [d1, d2, d3] => { results := [.lit (.bool false)], args := [d1, d2, d3] }
  | _ => none }
def FnExactLegsOkWrongFalsely : Prop := fnExactLegsOkRow.holds Try.pinned (OpenSpec.ofChange fnExactLegsOkWrong)

/-- 'laws.FnExactDrive': WHATEVER THE INPUT: true; the input reads as it did. -/
def fnExactDriveSpec : ChangeSpec := { name := "fnExactDrive", fn := fun _ => fun
  | [d1, d2, d3, d4] => { results := [.lit (.bool true)], args := [d1, d2, d3, d4] }
  | _ => none }
def fnExactDriveRow : OpenClaim := { program := "ytjfjifnmfnlfoaa", sum := "65c2bcad3d9c25613eeef16049031b94e0d71c077a44dcfa7b2d91e2eb9c4f17", func := "loop.example/g00075/laws.FnExactDrive", spec := "fnExactDrive", apart := false }
def FnExactDriveSaid : Prop := fnExactDriveRow.holds Try.pinned (OpenSpec.ofChange fnExactDriveSpec)

/-- ITS FALSE NEIGHBOUR: 'it returns false'. Refute it at one input. -/
def fnExactDriveWrong : ChangeSpec := { name := "fnExactDrive", fn := fun _ => fun
  | [d1, d2, d3, d4] => { results := [.lit (.bool false)], args := [d1, d2, d3, d4] }
  | _ => none }
def FnExactDriveWrongFalsely : Prop := fnExactDriveRow.holds Try.pinned (OpenSpec.ofChange fnExactDriveWrong)

/-- 'laws.FnSooner': WHATEVER THE INPUT: true; the input reads as it did. -/
def fnSoonerSpec : ChangeSpec := { name := "fnSooner", fn := fun _ => fun
  | [d] => { results := [.lit (.bool true)], args := [d] }
  | _ => none }
def fnSoonerRow : OpenClaim := { program := "ytjfjifnmfnlfoaa", sum := "65c2bcad3d9c25613eeef16049031b94e0d71c077a44dcfa7b2d91e2eb9c4f17", func := "loop.example/g00075/laws.FnSooner", spec := "fnSooner", unfollowed := true, recurses := true, apart := false }
def FnSoonerSaid : Prop := fnSoonerRow.holds Try.pinned (OpenSpec.ofChange fnSoonerSpec)

/-- ITS FALSE NEIGHBOUR: 'it returns false'. Refute it at one input. -/
def fnSoonerWrong : ChangeSpec := { name := "fnSooner", fn := fun _ => fun
  | [d] => { results := [.lit (.bool false)], args := [d] }
  | _ => none }
def FnSoonerWrongFalsely : Prop := fnSoonerRow.holds Try.pinned (OpenSpec.ofChange fnSoonerWrong)

/- THE SECOND FORM. 'bulk': how many values and letters a reading holds, each counted each time it is reached (what is shared counts as often as it is met; a slice's spare places count too). A statement '..UptoSaid' is the law's where the arguments, and the package variables that the reading takes, are together of bulk at most 1048576: NARROWER than '..Said'. Prove '..Said' where nothing that the law and all that it calls make is longer than what came in: it says more and counts as full. Else prove '..UptoSaid'. A law counts once. -/
mutual
def uptoBulk {H : Type} : DataW H → Nat
  | .lit (.string bytes) => bytes.length + 1
  | .lit _ => 1
  | .nil => 1
  | .ptr d => uptoBulk d + 1
  | .slice elems spare => uptoBulkAll elems + uptoBulkAll spare + 1
  | .agg parts => uptoBulkAll parts + 1
  | .iface _ d => uptoBulk d + 1
  | .map entries => uptoBulkEntries entries + 1
  | .held _ => 1
def uptoBulkAll {H : Type} : List (DataW H) → Nat
  | [] => 0
  | d :: r => uptoBulk d + uptoBulkAll r
def uptoBulkEntries {H : Type} : List (Lit × DataW H) → Nat
  | [] => 0
  | x :: r => uptoBulkEntry x + uptoBulkEntries r
def uptoBulkEntry {H : Type} : Lit × DataW H → Nat
  | (.string bytes, d) => bytes.length + uptoBulk d + 1
  | (_, d) => uptoBulk d + 1
 end
def uptoSmall : (H : Type) → List (DataW H) → Bool := fun _ ds => decide (uptoBulkAll ds ≤ 1048576)
def OpenSpec.upto (s : _root_.Go.ChangeSpec) : _root_.Go.OpenSpec := { _root_.Go.OpenSpec.ofChange s with cond := some uptoSmall }

/-- 'laws.FnExactPlantOk', WHERE WHAT IT READS IS OF BULK AT MOST 1048576: true; the input reads as it did. -/
def fnExactPlantOkUptoRow : OpenClaim := { program := "ytjfjifnmfnlfoaa", sum := "65c2bcad3d9c25613eeef16049031b94e0d71c077a44dcfa7b2d91e2eb9c4f17", func := "loop.example/g00075/laws.FnExactPlantOk", spec := "fnExactPlantOk", apart := false, narrowed := true }
def FnExactPlantOkUptoSaid : Prop := fnExactPlantOkUptoRow.holds Try.pinned (OpenSpec.upto fnExactPlantOkSpec)

/-- 'laws.FnExactClashing', WHERE WHAT IT READS IS OF BULK AT MOST 1048576: true; the input reads as it did. -/
def fnExactClashingUptoRow : OpenClaim := { program := "ytjfjifnmfnlfoaa", sum := "65c2bcad3d9c25613eeef16049031b94e0d71c077a44dcfa7b2d91e2eb9c4f17", func := "loop.example/g00075/laws.FnExactClashing", spec := "fnExactClashing", apart := false, narrowed := true }
def FnExactClashingUptoSaid : Prop := fnExactClashingUptoRow.holds Try.pinned (OpenSpec.upto fnExactClashingSpec)

/-- 'laws.FnExactBare', WHERE WHAT IT READS IS OF BULK AT MOST 1048576: true; the input reads as it did. -/
def fnExactBareUptoRow : OpenClaim := { program := "ytjfjifnmfnlfoaa", sum := "65c2bcad3d9c25613eeef16049031b94e0d71c077a44dcfa7b2d91e2eb9c4f17", func := "loop.example/g00075/laws.FnExactBare", spec := "fnExactBare", apart := false, narrowed := true }
def FnExactBareUptoSaid : Prop := fnExactBareUptoRow.holds Try.pinned (OpenSpec.upto fnExactBareSpec)

/-- 'laws.FnExactLockingOk', WHERE WHAT IT READS IS OF BULK AT MOST 1048576: true; the input reads as it did. -/
def fnExactLockingOkUptoRow : OpenClaim := { program := "ytjfjifnmfnlfoaa", sum := "65c2bcad3d9c25613eeef16049031b94e0d71c077a44dcfa7b2d91e2eb9c4f17", func := "loop.example/g00075/laws.FnExactLockingOk", spec := "fnExactLockingOk", apart := false, narrowed := true }
def FnExactLockingOkUptoSaid : Prop := fnExactLockingOkUptoRow.holds Try.pinned (OpenSpec.upto fnExactLockingOkSpec)

/-- 'laws.FnExactLegsOk', WHERE WHAT IT READS IS OF BULK AT MOST 1048576: true; the input reads as it did. -/
def fnExactLegsOkUptoRow : OpenClaim := { program := "ytjfjifnmfnlfoaa", sum := "65c2bcad3d9c25613eeef16049031b94e0d71c077a44dcfa7b2d91e2eb9c4f17", func := "loop.example/g00075/laws.FnExactLegsOk", spec := "fnExactLegsOk", unfollowed := true, recurses := true, apart := false, narrowed := true }
def FnExactLegsOkUptoSaid : Prop := fnExactLegsOkUptoRow.holds Try.pinned (OpenSpec.upto fnExactLegsOkSpec)

/-- 'laws.FnExactDrive', WHERE WHAT IT READS IS OF BULK AT MOST 1048576: true; the input reads as it did. -/
def fnExactDriveUptoRow : OpenClaim := { program := "ytjfjifnmfnlfoaa", sum := "65c2bcad3d9c25613eeef16049031b94e0d71c077a44dcfa7b2d91e2eb9c4f17", func := "loop.example/g00075/laws.FnExactDrive", spec := "fnExactDrive", apart := false, narrowed := true }
def FnExactDriveUptoSaid : Prop := fnExactDriveUptoRow.holds Try.pinned (OpenSpec.upto fnExactDriveSpec)

/-- 'laws.FnSooner', WHERE WHAT IT READS IS OF BULK AT MOST 1048576: true; the input reads as it did. -/
def fnSoonerUptoRow : OpenClaim := { program := "ytjfjifnmfnlfoaa", sum := "65c2bcad3d9c25613eeef16049031b94e0d71c077a44dcfa7b2d91e2eb9c4f17", func := "loop.example/g00075/laws.FnSooner", spec := "fnSooner", unfollowed := true, recurses := true, apart := false, narrowed := true }
def FnSoonerUptoSaid : Prop := fnSoonerUptoRow.holds Try.pinned (OpenSpec.upto fnSoonerSpec)

end Rows
end Go.Proofs.Ytjfjifnmfnlfoaa
