/-
  No cell of these rows narrows 'for every input' (looked for: loops, veiled, ifaces, maps, wideKeys, modest, calm, conditions, laid).
  DERIVED. THE GIVEN ROWS OF THIS SEAT. 5 by the template 'for every input the law returns true; each argument reads behind the call as it read before'; 0 by the template 'total and deterministic' (their statements: YtidedopnpjgkjaaTotals.lean).
  GIVEN WITH THE SEED: the statements are not yours to turn. If you find one false, say at which input.
  Laid BY PROGRAM, IN A SANDBOX (cutbox-rows.mjs): the forced cells as the released guide's own fill.sh prints them over the translation 4edd260d4358f01a… (all of the seat's roots in one cut). By AI agents, Wed Nov 11 2026. No macro, syntax, notation, axiom, sorry.
-/
import Derived.Test.YtidedopnpjgkjaaChecked
import GoSem.Claim
import GoSem.ClaimJoined
import GoSem.ClaimMapViews
import Derived.JoinedTies
import Derived.KernelRfl
namespace Go.Proofs.Ytidedopnpjgkjaa
/- THE CELL 'sum', in the pinned program and in every row, IS THE sha256 OF THE DUMP (.gsa) THAT YtidedopnpjgkjaaProg.lean LOADS. Nothing in Lean hashes anything: it is a label: what it is worth is what the hold of that sum in a sandbox is worth. -/
noncomputable def Try.pinned : Pinned := { name := "ytidedopnpjgkjaa", sum := "4edd260d4358f01a55996dfe0e4784a09838988c41d8d5376273e635d4ccb972", checked := Try.checked }
namespace Rows
def none {H : Type} : Left H := { results := [], args := [] }

/-- 'laws.FnExactEventOk': WHATEVER THE INPUT: true; the input reads as it did. -/
def fnExactEventOkSpec : ChangeSpec := { name := "fnExactEventOk", fn := fun _ => fun
  | [d] => { results := [.lit (.bool true)], args := [d] }
  | _ => none }
def fnExactEventOkRow : OpenClaim := { program := "ytidedopnpjgkjaa", sum := "4edd260d4358f01a55996dfe0e4784a09838988c41d8d5376273e635d4ccb972", func := "loop.example/g00287/laws.FnExactEventOk", spec := "fnExactEventOk", apart := false }
def FnExactEventOkSaid : Prop := fnExactEventOkRow.holds Try.pinned (OpenSpec.ofChange fnExactEventOkSpec)

/-- ITS FALSE NEIGHBOUR: 'it returns false'. Refute it at one input. -/
def fnExactEventOkWrong : ChangeSpec := { name := "fnExactEventOk", fn := fun _ => fun
  | [d] => { results := [.lit (.bool false)], args := [d] }
  | _ => none }
def FnExactEventOkWrongFalsely : Prop := fnExactEventOkRow.holds Try.pinned (OpenSpec.ofChange fnExactEventOkWrong)

/-- 'laws.FnExactUntidied': WHATEVER THE INPUT: true; the input reads as it did. -/
def fnExactUntidiedSpec : ChangeSpec := { name := "fnExactUntidied", fn := fun _ => fun
  | [d] => { results := [.lit (.bool true)], args := [d] }
  | _ => none }
def fnExactUntidiedRow : OpenClaim := { program := "ytidedopnpjgkjaa", sum := "4edd260d4358f01a55996dfe0e4784a09838988c41d8d5376273e635d4ccb972", func := "loop.example/g00287/laws.FnExactUntidied", spec := "fnExactUntidied", apart := false }
def FnExactUntidiedSaid : Prop := fnExactUntidiedRow.holds Try.pinned (OpenSpec.ofChange fnExactUntidiedSpec)

/-- ITS FALSE NEIGHBOUR: 'it returns false'. Refute it at one input. -/
def fnExactUntidiedWrong : ChangeSpec := { name := "fnExactUntidied", fn := fun _ => fun
  | [d] => { results := [.lit (.bool false)], args := [d] }
  | _ => none }
def FnExactUntidiedWrongFalsely : Prop := fnExactUntidiedRow.holds Try.pinned (OpenSpec.ofChange fnExactUntidiedWrong)

/-- 'laws.FnExactUidsRight': WHATEVER THE INPUT: true; the input reads as it did. -/
def fnExactUidsRightSpec : ChangeSpec := { name := "fnExactUidsRight", fn := fun _ => fun
  | [d] => { results := [.lit (.bool true)], args := [d] }
  | _ => none }
def fnExactUidsRightRow : OpenClaim := { program := "ytidedopnpjgkjaa", sum := "4edd260d4358f01a55996dfe0e4784a09838988c41d8d5376273e635d4ccb972", func := "loop.example/g00287/laws.FnExactUidsRight", spec := "fnExactUidsRight", unfollowed := true, recurses := true, apart := false }
def FnExactUidsRightSaid : Prop := fnExactUidsRightRow.holds Try.pinned (OpenSpec.ofChange fnExactUidsRightSpec)

/-- ITS FALSE NEIGHBOUR: 'it returns false'. Refute it at one input. -/
def fnExactUidsRightWrong : ChangeSpec := { name := "fnExactUidsRight", fn := fun _ => fun
  | [d] => { results := [.lit (.bool false)], args := [d] }
  | _ => none }
def FnExactUidsRightWrongFalsely : Prop := fnExactUidsRightRow.holds Try.pinned (OpenSpec.ofChange fnExactUidsRightWrong)

/-- 'laws.FnExactCutRight': WHATEVER THE INPUT: true; the input reads as it did. -/
def fnExactCutRightSpec : ChangeSpec := { name := "fnExactCutRight", fn := fun _ => fun
  | [d] => { results := [.lit (.bool true)], args := [d] }
  | _ => none }
def fnExactCutRightRow : OpenClaim := { program := "ytidedopnpjgkjaa", sum := "4edd260d4358f01a55996dfe0e4784a09838988c41d8d5376273e635d4ccb972", func := "loop.example/g00287/laws.FnExactCutRight", spec := "fnExactCutRight", unfollowed := true, recurses := true, apart := false }
def FnExactCutRightSaid : Prop := fnExactCutRightRow.holds Try.pinned (OpenSpec.ofChange fnExactCutRightSpec)

/-- ITS FALSE NEIGHBOUR: 'it returns false'. Refute it at one input. -/
def fnExactCutRightWrong : ChangeSpec := { name := "fnExactCutRight", fn := fun _ => fun
  | [d] => { results := [.lit (.bool false)], args := [d] }
  | _ => none }
def FnExactCutRightWrongFalsely : Prop := fnExactCutRightRow.holds Try.pinned (OpenSpec.ofChange fnExactCutRightWrong)

/-- 'laws.FnExactSameTalk': WHATEVER THE INPUT: true; the input reads as it did. -/
def fnExactSameTalkSpec : ChangeSpec := { name := "fnExactSameTalk", fn := fun _ => fun
  | [d1, d2] => { results := [.lit (.bool true)], args := [d1, d2] }
  | _ => none }
def fnExactSameTalkRow : OpenClaim := { program := "ytidedopnpjgkjaa", sum := "4edd260d4358f01a55996dfe0e4784a09838988c41d8d5376273e635d4ccb972", func := "loop.example/g00287/laws.FnExactSameTalk", spec := "fnExactSameTalk", unfollowed := true, recurses := true, apart := false }
def FnExactSameTalkSaid : Prop := fnExactSameTalkRow.holds Try.pinned (OpenSpec.ofChange fnExactSameTalkSpec)

/-- ITS FALSE NEIGHBOUR: 'it returns false'. Refute it at one input. -/
def fnExactSameTalkWrong : ChangeSpec := { name := "fnExactSameTalk", fn := fun _ => fun
  | [d1, d2] => { results := [.lit (.bool false)], args := [d1, d2] }
  | _ => none }
def FnExactSameTalkWrongFalsely : Prop := fnExactSameTalkRow.holds Try.pinned (OpenSpec.ofChange fnExactSameTalkWrong)

/- THE SECOND FORM. 'bulk': how many values and letters a reading holds, each counted each time it is reached (what is shared counts as often as it is met; a slice's spare places count too). A statement '..UptoSaid' is the law's where the arguments, and the package variables that the reading takes, are together of bulk at most 1048576: NARROWER than '..Said'. Prove '..Said' where nothing that the law and all that it calls make is longer than what came in: it says more and counts as full. Else prove '..UptoSaid'. A law counts once. -/
mutual
def uptoBulk {H : Type} : DataW H → Nat
  | .lit (.string bytes) => bytes.length + 1
  | .lit _ => 1
  | .nil => 1
  | .ptr d => uptoBulk d + 1
  | .slice elems spare => uptoBulkAll elems + uptoBulkAll spare + 1
  | .agg parts => uptoBulkAll parts + 1
  | .iface _ d => uptoBulk d + 1
  | .map entries => uptoBulkEntries entries + 1
  | .held _ => 1
def uptoBulkAll {H : Type} : List (DataW H) → Nat
  | [] => 0
  | d :: r => uptoBulk d + uptoBulkAll r
def uptoBulkEntries {H : Type} : List (Lit × DataW H) → Nat
  | [] => 0
  | x :: r => uptoBulkEntry x + uptoBulkEntries r
def uptoBulkEntry {H : Type} : Lit × DataW H → Nat
  | (.string bytes, d) => bytes.length + uptoBulk d + 1
  | (_, d) => uptoBulk d + 1
 end
def uptoSmall : (H : Type) → List (DataW H) → Bool := fun _ ds => decide (uptoBulkAll ds ≤ 1048576)
def OpenSpec.upto (s : _root_.Go.ChangeSpec) : _root_.Go.OpenSpec := { _root_.Go.OpenSpec.ofChange s with cond := some uptoSmall }

/-- 'laws.FnExactEventOk', WHERE WHAT IT READS IS OF BULK AT MOST 1048576: true; the input reads as it did. -/
def fnExactEventOkUptoRow : OpenClaim := { program := "ytidedopnpjgkjaa", sum := "4edd260d4358f01a55996dfe0e4784a09838988c41d8d5376273e635d4ccb972", func := "loop.example/g00287/laws.FnExactEventOk", spec := "fnExactEventOk", apart := false, narrowed := true }
def FnExactEventOkUptoSaid : Prop := fnExactEventOkUptoRow.holds Try.pinned (OpenSpec.upto fnExactEventOkSpec)

/-- 'laws.FnExactUntidied', WHERE WHAT IT READS IS OF BULK AT MOST 1048576: true; the input reads as it did. -/
def fnExactUntidiedUptoRow : OpenClaim := { program := "ytidedopnpjgkjaa", sum := "4edd260d4358f01a55996dfe0e4784a09838988c41d8d5376273e635d4ccb972", func := "loop.example/g00287/laws.FnExactUntidied", spec := "fnExactUntidied", apart := false, narrowed := true }
def FnExactUntidiedUptoSaid : Prop := fnExactUntidiedUptoRow.holds Try.pinned (OpenSpec.upto fnExactUntidiedSpec)

/-- 'laws.FnExactUidsRight', WHERE WHAT IT READS IS OF BULK AT MOST 1048576: true; the input reads as it did. -/
def fnExactUidsRightUptoRow : OpenClaim := { program := "ytidedopnpjgkjaa", sum := "4edd260d4358f01a55996dfe0e4784a09838988c41d8d5376273e635d4ccb972", func := "loop.example/g00287/laws.FnExactUidsRight", spec := "fnExactUidsRight", unfollowed := true, recurses := true, apart := false, narrowed := true }
def FnExactUidsRightUptoSaid : Prop := fnExactUidsRightUptoRow.holds Try.pinned (OpenSpec.upto fnExactUidsRightSpec)

/-- 'laws.FnExactCutRight', WHERE WHAT IT READS IS OF BULK AT MOST 1048576: true; the input reads as it did. -/
def fnExactCutRightUptoRow : OpenClaim := { program := "ytidedopnpjgkjaa", sum := "4edd260d4358f01a55996dfe0e4784a09838988c41d8d5376273e635d4ccb972", func := "loop.example/g00287/laws.FnExactCutRight", spec := "fnExactCutRight", unfollowed := true, recurses := true, apart := false, narrowed := true }
def FnExactCutRightUptoSaid : Prop := fnExactCutRightUptoRow.holds Try.pinned (OpenSpec.upto fnExactCutRightSpec)

/-- 'laws.FnExactSameTalk', WHERE WHAT IT READS IS OF BULK AT MOST 1048576: true; the input reads as it did. -/
def fnExactSameTalkUptoRow : OpenClaim := { program := "ytidedopnpjgkjaa", sum := "4edd260d4358f01a55996dfe0e4784a09838988c41d8d5376273e635d4ccb972", func := "loop.example/g00287/laws.FnExactSameTalk", spec := "fnExactSameTalk", unfollowed := true, recurses := true, apart := false, narrowed := true }
def FnExactSameTalkUptoSaid : Prop := fnExactSameTalkUptoRow.holds Try.pinned (OpenSpec.upto fnExactSameTalkSpec)

end Rows
end Go.Proofs.Ytidedopnpjgkjaa
