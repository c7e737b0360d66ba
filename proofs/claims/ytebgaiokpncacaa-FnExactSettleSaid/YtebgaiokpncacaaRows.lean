/-
  No cell of these rows narrows 'for every input' (looked for: loops, veiled, ifaces, maps, wideKeys, modest, calm, conditions, laid).
  DERIVED. THE GIVEN ROWS OF THIS SEAT. 10 by the template 'for every input the law returns true; each argument reads behind the call as it read before'; 0 by the template 'total and deterministic' (their statements: YtebgaiokpncacaaTotals.lean).
  GIVEN WITH THE SEED: the statements are not yours to turn. If you find one false, say at which input.
  Laid BY PROGRAM, IN A SANDBOX (cutbox-rows.mjs): the forced cells as the released guide's own fill.sh prints them over the translation 4188900c5b1925a2… (all of the seat's roots in one cut). By AI agents, Wed Nov 11 2026. No macro, syntax, notation, axiom, sorry.
-/
import Derived.Test.YtebgaiokpncacaaChecked
import GoSem.Claim
import GoSem.ClaimJoined
import GoSem.ClaimMapViews
import Derived.JoinedTies
import Derived.KernelRfl
namespace Go.Proofs.Ytebgaiokpncacaa
/- THE CELL 'sum', in the pinned program and in every row, IS THE sha256 OF THE DUMP (.gsa) THAT YtebgaiokpncacaaProg.lean LOADS. Nothing in Lean hashes anything: it is a label: what it is worth is what the hold of that sum in a sandbox is worth. -/
noncomputable def Try.pinned : Pinned := { name := "ytebgaiokpncacaa", sum := "4188900c5b1925a230c6534bc0ab46db5042ef22e9342d3eee5d22df269a0c61", checked := Try.checked }
namespace Rows
def none {H : Type} : Left H := { results := [], args := [] }

/-- 'laws.FnExactUseOk': WHATEVER THE INPUT: true; the input reads as it did. -/
def fnExactUseOkSpec : ChangeSpec := { name := "fnExactUseOk", fn := fun _ => fun
  | [d] => { results := [.lit (.bool true)], args := [d] }
  | _ => none }
def fnExactUseOkRow : OpenClaim := { program := "ytebgaiokpncacaa", sum := "4188900c5b1925a230c6534bc0ab46db5042ef22e9342d3eee5d22df269a0c61", func := "loop.example/g00075/laws.FnExactUseOk", spec := "fnExactUseOk", apart := false }
def FnExactUseOkSaid : Prop := fnExactUseOkRow.holds Try.pinned (OpenSpec.ofChange fnExactUseOkSpec)

/-- ITS FALSE NEIGHBOUR: 'it returns false'. Refute it at one input. -/
def fnExactUseOkWrong : ChangeSpec := { name := "fnExactUseOk", fn := fun _ => fun
  | [d] => { results := [.lit (.bool false)], args := [d] }
  | _ => none }
def FnExactUseOkWrongFalsely : Prop := fnExactUseOkRow.holds Try.pinned (OpenSpec.ofChange fnExactUseOkWrong)

/-- 'laws.FnExactClash': WHATEVER THE INPUT: true; the input reads as it did. -/
def fnExactClashSpec : ChangeSpec := { name := "fnExactClash", fn := fun _ => fun
  | [d1, d2, d3] => { results := [.lit (.bool true)], args := [d1, d2, d3] }
  | _ => none }
def fnExactClashRow : OpenClaim := { program := "ytebgaiokpncacaa", sum := "4188900c5b1925a230c6534bc0ab46db5042ef22e9342d3eee5d22df269a0c61", func := "loop.example/g00075/laws.FnExactClash", spec := "fnExactClash", apart := false }
def FnExactClashSaid : Prop := fnExactClashRow.holds Try.pinned (OpenSpec.ofChange fnExactClashSpec)

/-- ITS FALSE NEIGHBOUR: 'it returns false'. Refute it at one input. -/
def fnExactClashWrong : ChangeSpec := { name := "fnExactClash", fn := fun _ => fun
  | [d1, d2, d3] => { results := [.lit (.bool false)], args := [d1, d2, d3] }
  | _ => none }
def FnExactClashWrongFalsely : Prop := fnExactClashRow.holds Try.pinned (OpenSpec.ofChange fnExactClashWrong)

/-- 'laws.FnExactFirstClash': WHATEVER THE INPUT: true; the input reads as it did. -/
def fnExactFirstClashSpec : ChangeSpec := { name := "fnExactFirstClash", fn := fun _ => fun
  | [d1, d2] => { results := [.lit (.bool true)], args := [d1, d2] }
  | _ => none }
def fnExactFirstClashRow : OpenClaim := { program := "ytebgaiokpncacaa", sum := "4188900c5b1925a230c6534bc0ab46db5042ef22e9342d3eee5d22df269a0c61", func := "loop.example/g00075/laws.FnExactFirstClash", spec := "fnExactFirstClash", apart := false }
def FnExactFirstClashSaid : Prop := fnExactFirstClashRow.holds Try.pinned (OpenSpec.ofChange fnExactFirstClashSpec)

/-- ITS FALSE NEIGHBOUR: 'it returns false'. Refute it at one input. -/
def fnExactFirstClashWrong : ChangeSpec := { name := "fnExactFirstClash", fn := fun _ => fun
  | [d1, d2] => { results := [.lit (.bool false)], args := [d1, d2] }
  | _ => none }
def FnExactFirstClashWrongFalsely : Prop := fnExactFirstClashRow.holds Try.pinned (OpenSpec.ofChange fnExactFirstClashWrong)

/-- 'laws.FnExactRidden': WHATEVER THE INPUT: true; the input reads as it did. -/
def fnExactRiddenSpec : ChangeSpec := { name := "fnExactRidden", fn := fun _ => fun
  | [d1, d2] => { results := [.lit (.bool true)], args := [d1, d2] }
  | _ => none }
def fnExactRiddenRow : OpenClaim := { program := "ytebgaiokpncacaa", sum := "4188900c5b1925a230c6534bc0ab46db5042ef22e9342d3eee5d22df269a0c61", func := "loop.example/g00075/laws.FnExactRidden", spec := "fnExactRidden", unfollowed := true, recurses := true, apart := false }
def FnExactRiddenSaid : Prop := fnExactRiddenRow.holds Try.pinned (OpenSpec.ofChange fnExactRiddenSpec)

/-- ITS FALSE NEIGHBOUR: 'it returns false'. Refute it at one input. -/
def fnExactRiddenWrong : ChangeSpec := { name := "fnExactRidden", fn := fun _ => fun
  | [d1, d2] => { results := [.lit (.bool false)], args := [d1, d2] }
  | _ => none }
def FnExactRiddenWrongFalsely : Prop := fnExactRiddenRow.holds Try.pinned (OpenSpec.ofChange fnExactRiddenWrong)

/-- 'laws.FnExactUses': WHATEVER THE INPUT: true; the input reads as it did. -/
def fnExactUsesSpec : ChangeSpec := { name := "fnExactUses", fn := fun _ => fun
  | [d1, d2] => { results := [.lit (.bool true)], args := [d1, d2] }
  | _ => none }
def fnExactUsesRow : OpenClaim := { program := "ytebgaiokpncacaa", sum := "4188900c5b1925a230c6534bc0ab46db5042ef22e9342d3eee5d22df269a0c61", func := "loop.example/g00075/laws.FnExactUses", spec := "fnExactUses", unfollowed := true, recurses := true, apart := false }
def FnExactUsesSaid : Prop := fnExactUsesRow.holds Try.pinned (OpenSpec.ofChange fnExactUsesSpec)

/-- ITS FALSE NEIGHBOUR: 'it returns false'. Refute it at one input. -/
def fnExactUsesWrong : ChangeSpec := { name := "fnExactUses", fn := fun _ => fun
  | [d1, d2] => { results := [.lit (.bool false)], args := [d1, d2] }
  | _ => none }
def FnExactUsesWrongFalsely : Prop := fnExactUsesRow.holds Try.pinned (OpenSpec.ofChange fnExactUsesWrong)

/-- 'laws.FnExactClean': WHATEVER THE INPUT: true; the input reads as it did. -/
def fnExactCleanSpec : ChangeSpec := { name := "fnExactClean", fn := fun _ => fun
  | [d1, d2, d3] => { results := [.lit (.bool true)], args := [d1, d2, d3] }
  | _ => none }
def fnExactCleanRow : OpenClaim := { program := "ytebgaiokpncacaa", sum := "4188900c5b1925a230c6534bc0ab46db5042ef22e9342d3eee5d22df269a0c61", func := "loop.example/g00075/laws.FnExactClean", spec := "fnExactClean", unfollowed := true, recurses := true, apart := false }
def FnExactCleanSaid : Prop := fnExactCleanRow.holds Try.pinned (OpenSpec.ofChange fnExactCleanSpec)

/-- ITS FALSE NEIGHBOUR: 'it returns false'. Refute it at one input. -/
def fnExactCleanWrong : ChangeSpec := { name := "fnExactClean", fn := fun _ => fun
  | [d1, d2, d3] => { results := [.lit (.bool false)], args := [d1, d2, d3] }
  | _ => none }
def FnExactCleanWrongFalsely : Prop := fnExactCleanRow.holds Try.pinned (OpenSpec.ofChange fnExactCleanWrong)

/-- 'laws.FnExactPushOf': WHATEVER THE INPUT: true; the input reads as it did. -/
def fnExactPushOfSpec : ChangeSpec := { name := "fnExactPushOf", fn := fun _ => fun
  | [d1, d2, d3, d4] => { results := [.lit (.bool true)], args := [d1, d2, d3, d4] }
  | _ => none }
def fnExactPushOfRow : OpenClaim := { program := "ytebgaiokpncacaa", sum := "4188900c5b1925a230c6534bc0ab46db5042ef22e9342d3eee5d22df269a0c61", func := "loop.example/g00075/laws.FnExactPushOf", spec := "fnExactPushOf", unfollowed := true, recurses := true, apart := false }
def FnExactPushOfSaid : Prop := fnExactPushOfRow.holds Try.pinned (OpenSpec.ofChange fnExactPushOfSpec)

/-- ITS FALSE NEIGHBOUR: 'it returns false'. Refute it at one input. -/
def fnExactPushOfWrong : ChangeSpec := { name := "fnExactPushOf", fn := fun _ => fun
  | [d1, d2, d3, d4] => { results := [.lit (.bool false)], args := [d1, d2, d3, d4] }
  | _ => none }
def FnExactPushOfWrongFalsely : Prop := fnExactPushOfRow.holds Try.pinned (OpenSpec.ofChange fnExactPushOfWrong)

/-- 'laws.FnExactSettle': WHATEVER THE INPUT: true; the input reads as it did. -/
def fnExactSettleSpec : ChangeSpec := { name := "fnExactSettle", fn := fun _ => fun
  | [d1, d2, d3] => { results := [.lit (.bool true)], args := [d1, d2, d3] }
  | _ => none }
def fnExactSettleRow : OpenClaim := { program := "ytebgaiokpncacaa", sum := "4188900c5b1925a230c6534bc0ab46db5042ef22e9342d3eee5d22df269a0c61", func := "loop.example/g00075/laws.FnExactSettle", spec := "fnExactSettle", unfollowed := true, recurses := true, apart := false }
def FnExactSettleSaid : Prop := fnExactSettleRow.holds Try.pinned (OpenSpec.ofChange fnExactSettleSpec)

/-- ITS FALSE NEIGHBOUR: 'it returns false'. Refute it at one input. -/
def fnExactSettleWrong : ChangeSpec := { name := "fnExactSettle", fn := fun _ => fun
  | [d1, d2, d3] => { results := [.lit (.bool false)], args := [d1, d2, d3] }
  | _ => none }
def FnExactSettleWrongFalsely : Prop := fnExactSettleRow.holds Try.pinned (OpenSpec.ofChange fnExactSettleWrong)

/-- 'laws.FnClashes': WHATEVER THE INPUT: true; the input reads as it did. -/
def fnClashesSpec : ChangeSpec := { name := "fnClashes", fn := fun _ => fun
  | [d] => { results := [.lit (.bool true)], args := [d] }
  | _ => none }
def fnClashesRow : OpenClaim := { program := "ytebgaiokpncacaa", sum := "4188900c5b1925a230c6534bc0ab46db5042ef22e9342d3eee5d22df269a0c61", func := "loop.example/g00075/laws.FnClashes", spec := "fnClashes", unfollowed := true, recurses := true, apart := false }
def FnClashesSaid : Prop := fnClashesRow.holds Try.pinned (OpenSpec.ofChange fnClashesSpec)

/-- ITS FALSE NEIGHBOUR: 'it returns false'. Refute it at one input. -/
def fnClashesWrong : ChangeSpec := { name := "fnClashes", fn := fun _ => fun
  | [d] => { results := [.lit (.bool false)], args := [d] }
  | _ => none }
def FnClashesWrongFalsely : Prop := fnClashesRow.holds Try.pinned (OpenSpec.ofChange fnClashesWrong)

/-- 'laws.FnSettle': WHATEVER THE INPUT: true; the input reads as it did. -/
def fnSettleSpec : ChangeSpec := { name := "fnSettle", fn := fun _ => fun
  | [d] => { results := [.lit (.bool true)], args := [d] }
  | _ => none }
def fnSettleRow : OpenClaim := { program := "ytebgaiokpncacaa", sum := "4188900c5b1925a230c6534bc0ab46db5042ef22e9342d3eee5d22df269a0c61", func := "loop.example/g00075/laws.FnSettle", spec := "fnSettle", unfollowed := true, recurses := true, apart := false }
def FnSettleSaid : Prop := fnSettleRow.holds Try.pinned (OpenSpec.ofChange fnSettleSpec)

/-- ITS FALSE NEIGHBOUR: 'it returns false'. Refute it at one input. -/
def fnSettleWrong : ChangeSpec := { name := "fnSettle", fn := fun _ => fun
  | [d] => { results := [.lit (.bool false)], args := [d] }
  | _ => none }
def FnSettleWrongFalsely : Prop := fnSettleRow.holds Try.pinned (OpenSpec.ofChange fnSettleWrong)

/- THE SECOND FORM. 'bulk': how many values and letters a reading holds, each counted each time it is reached (what is shared counts as often as it is met; a slice's spare places count too). A statement '..UptoSaid' is the law's where the arguments, and the package variables that the reading takes, are together of bulk at most 1048576: NARROWER than '..Said'. Prove '..Said' where nothing that the law and all that it calls make is longer than what came in: it says more and counts as full. Else prove '..UptoSaid'. A law counts once. -/
mutual
def uptoBulk {H : Type} : DataW H → Nat
  | .lit (.string bytes) => bytes.length + 1
  | .lit _ => 1
  | .nil => 1
  | .ptr d => uptoBulk d + 1
  | .slice elems spare => uptoBulkAll elems + uptoBulkAll spare + 1
  | .agg parts => uptoBulkAll parts + 1
  | .iface _ d => uptoBulk d + 1
  | .map entries => uptoBulkEntries entries + 1
  | .held _ => 1
def uptoBulkAll {H : Type} : List (DataW H) → Nat
  | [] => 0
  | d :: r => uptoBulk d + uptoBulkAll r
def uptoBulkEntries {H : Type} : List (Lit × DataW H) → Nat
  | [] => 0
  | x :: r => uptoBulkEntry x + uptoBulkEntries r
def uptoBulkEntry {H : Type} : Lit × DataW H → Nat
  | (.string bytes, d) => bytes.length + uptoBulk d + 1
  | (_, d) => uptoBulk d + 1
 end
def uptoSmall : (H : Type) → List (DataW H) → Bool := fun _ ds => decide (uptoBulkAll ds ≤ 1048576)
def OpenSpec.upto (s : _root_.Go.ChangeSpec) : _root_.Go.OpenSpec := { _root_.Go.OpenSpec.ofChange s with cond := some uptoSmall }

/-- 'laws.FnExactUseOk', WHERE WHAT IT READS IS OF BULK AT MOST 1048576: true; the input reads as it did. -/
def fnExactUseOkUptoRow : OpenClaim := { program := "ytebgaiokpncacaa", sum := "4188900c5b1925a230c6534bc0ab46db5042ef22e9342d3eee5d22df269a0c61", func := "loop.example/g00075/laws.FnExactUseOk", spec := "fnExactUseOk", apart := false, narrowed := true }
def FnExactUseOkUptoSaid : Prop := fnExactUseOkUptoRow.holds Try.pinned (OpenSpec.upto fnExactUseOkSpec)

/-- 'laws.FnExactClash', WHERE WHAT IT READS IS OF BULK AT MOST 1048576: true; the input reads as it did. -/
def fnExactClashUptoRow : OpenClaim := { program := "ytebgaiokpncacaa", sum := "4188900c5b1925a230c6534bc0ab46db5042ef22e9342d3eee5d22df269a0c61", func := "loop.example/g00075/laws.FnExactClash", spec := "fnExactClash", apart := false, narrowed := true }
def FnExactClashUptoSaid : Prop := fnExactClashUptoRow.holds Try.pinned (OpenSpec.upto fnExactClashSpec)

/-- 'laws.FnExactFirstClash', WHERE WHAT IT READS IS OF BULK AT MOST 1048576: true; the input reads as it did. -/
def fnExactFirstClashUptoRow : OpenClaim := { program := "ytebgaiokpncacaa", sum := "4188900c5b1925a230c6534bc0ab46db5042ef22e9342d3eee5d22df269a0c61", func := "loop.example/g00075/laws.FnExactFirstClash", spec := "fnExactFirstClash", apart := false, narrowed := true }
def FnExactFirstClashUptoSaid : Prop := fnExactFirstClashUptoRow.holds Try.pinned (OpenSpec.upto fnExactFirstClashSpec)

/-- 'laws.FnExactRidden', WHERE WHAT IT READS IS OF BULK AT MOST 1048576: true; the input reads as it did. -/
def fnExactRiddenUptoRow : OpenClaim := { program := "ytebgaiokpncacaa", sum := "4188900c5b1925a230c6534bc0ab46db5042ef22e9342d3eee5d22df269a0c61", func := "loop.example/g00075/laws.FnExactRidden", spec := "fnExactRidden", unfollowed := true, recurses := true, apart := false, narrowed := true }
def FnExactRiddenUptoSaid : Prop := fnExactRiddenUptoRow.holds Try.pinned (OpenSpec.upto fnExactRiddenSpec)

/-- 'laws.FnExactUses', WHERE WHAT IT READS IS OF BULK AT MOST 1048576: true; the input reads as it did. -/
def fnExactUsesUptoRow : OpenClaim := { program := "ytebgaiokpncacaa", sum := "4188900c5b1925a230c6534bc0ab46db5042ef22e9342d3eee5d22df269a0c61", func := "loop.example/g00075/laws.FnExactUses", spec := "fnExactUses", unfollowed := true, recurses := true, apart := false, narrowed := true }
def FnExactUsesUptoSaid : Prop := fnExactUsesUptoRow.holds Try.pinned (OpenSpec.upto fnExactUsesSpec)

/-- 'laws.FnExactClean', WHERE WHAT IT READS IS OF BULK AT MOST 1048576: true; the input reads as it did. -/
def fnExactCleanUptoRow : OpenClaim := { program := "ytebgaiokpncacaa", sum := "4188900c5b1925a230c6534bc0ab46db5042ef22e9342d3eee5d22df269a0c61", func := "loop.example/g00075/laws.FnExactClean", spec := "fnExactClean", unfollowed := true, recurses := true, apart := false, narrowed := true }
def FnExactCleanUptoSaid : Prop := fnExactCleanUptoRow.holds Try.pinned (OpenSpec.upto fnExactCleanSpec)

/-- 'laws.FnExactPushOf', WHERE WHAT IT READS IS OF BULK AT MOST 1048576: true; the input reads as it did. -/
def fnExactPushOfUptoRow : OpenClaim := { program := "ytebgaiokpncacaa", sum := "4188900c5b1925a230c6534bc0ab46db5042ef22e9342d3eee5d22df269a0c61", func := "loop.example/g00075/laws.FnExactPushOf", spec := "fnExactPushOf", unfollowed := true, recurses := true, apart := false, narrowed := true }
def FnExactPushOfUptoSaid : Prop := fnExactPushOfUptoRow.holds Try.pinned (OpenSpec.upto fnExactPushOfSpec)

/-- 'laws.FnExactSettle', WHERE WHAT IT READS IS OF BULK AT MOST 1048576: true; the input reads as it did. -/
def fnExactSettleUptoRow : OpenClaim := { program := "ytebgaiokpncacaa", sum := "4188900c5b1925a230c6534bc0ab46db5042ef22e9342d3eee5d22df269a0c61", func := "loop.example/g00075/laws.FnExactSettle", spec := "fnExactSettle", unfollowed := true, recurses := true, apart := false, narrowed := true }
def FnExactSettleUptoSaid : Prop := fnExactSettleUptoRow.holds Try.pinned (OpenSpec.upto fnExactSettleSpec)

/-- 'laws.FnClashes', WHERE WHAT IT READS IS OF BULK AT MOST 1048576: true; the input reads as it did. -/
def fnClashesUptoRow : OpenClaim := { program := "ytebgaiokpncacaa", sum := "4188900c5b1925a230c6534bc0ab46db5042ef22e9342d3eee5d22df269a0c61", func := "loop.example/g00075/laws.FnClashes", spec := "fnClashes", unfollowed := true, recurses := true, apart := false, narrowed := true }
def FnClashesUptoSaid : Prop := fnClashesUptoRow.holds Try.pinned (OpenSpec.upto fnClashesSpec)

/-- 'laws.FnSettle', WHERE WHAT IT READS IS OF BULK AT MOST 1048576: true; the input reads as it did. -/
def fnSettleUptoRow : OpenClaim := { program := "ytebgaiokpncacaa", sum := "4188900c5b1925a230c6534bc0ab46db5042ef22e9342d3eee5d22df269a0c61", func := "loop.example/g00075/laws.FnSettle", spec := "fnSettle", unfollowed := true, recurses := true, apart := false, narrowed := true }
def FnSettleUptoSaid : Prop := fnSettleUptoRow.holds Try.pinned (OpenSpec.upto fnSettleSpec)

end Rows
end Go.Proofs.Ytebgaiokpncacaa
