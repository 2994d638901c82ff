/-
  No cell of these rows narrows 'for every input' (looked for: loops, veiled, ifaces, maps, wideKeys, modest, calm, conditions, laid).
  DERIVED. THE GIVEN ROWS OF THIS SEAT. 5 by the template 'for every input the law returns true; each argument reads behind the call as it read before'; 0 by the template 'total and deterministic' (their statements: YtjbokkoiicoahaaTotals.lean).
  GIVEN WITH THE SEED: the statements are not yours to turn. If you find one false, say at which input.
  Laid BY PROGRAM, IN A SANDBOX (cutbox-rows.mjs): the forced cells as the released guide's own fill.sh prints them over the translation 06251b149c8a1cb4… (all of the seat's roots in one cut). By AI agents, Wed Nov 11 2026. No macro, syntax, notation, axiom, sorry.
-/
import Derived.Test.YtjbokkoiicoahaaChecked
import GoSem.Claim
import GoSem.ClaimJoined
import GoSem.ClaimMapViews
import Derived.JoinedTies
import Derived.KernelRfl
namespace Go.Proofs.Ytjbokkoiicoahaa
/- THE CELL 'sum', in the pinned program and in every row, IS THE sha256 OF THE DUMP (.gsa) THAT YtjbokkoiicoahaaProg.lean LOADS. Nothing in Lean hashes anything: it is a label: what it is worth is what the hold of that sum in a sandbox is worth. -/
noncomputable def Try.pinned : Pinned := { name := "ytjbokkoiicoahaa", sum := "06251b149c8a1cb443308ac34ed5a514e8cf2fd04636e4299b4a8e2c689ae654", checked := Try.checked }
namespace Rows
def none {H : Type} : Left H := { results := [], args := [] }

/-- 'laws.FnExactUntidied': WHATEVER THE INPUT: true; the input reads as it did. -/
def fnExactUntidiedSpec : ChangeSpec := { name := "fnExactUntidied", fn := fun _ => fun
  | [d] => { results := [.lit (.bool true)], args := [d] }
  | _ => none }
def fnExactUntidiedRow : OpenClaim := { program := "ytjbokkoiicoahaa", sum := "06251b149c8a1cb443308ac34ed5a514e8cf2fd04636e4299b4a8e2c689ae654", func := "loop.example/g00287/laws.FnExactUntidied", spec := "fnExactUntidied", apart := false }
def FnExactUntidiedSaid : Prop := fnExactUntidiedRow.holds Try.pinned (OpenSpec.ofChange fnExactUntidiedSpec)

/-- ITS FALSE NEIGHBOUR: 'it returns false'. Refute it at one input. -/
def fnExactUntidiedWrong : ChangeSpec := { name := "fnExactUntidied", fn := fun _ => fun
  | [d] => { results := [.lit (.bool false)], args := [d] }
  | _ => none }
def FnExactUntidiedWrongFalsely : Prop := fnExactUntidiedRow.holds Try.pinned (OpenSpec.ofChange fnExactUntidiedWrong)

/-- 'laws.FnExactCutRight': WHATEVER THE INPUT: true; the input reads as it did. -/
def fnExactCutRightSpec : ChangeSpec := { name := "fnExactCutRight", fn := fun _ => fun
  | [d] => { results := [.lit (.bool true)], args := [d] }
  | _ => none }
def fnExactCutRightRow : OpenClaim := { program := "ytjbokkoiicoahaa", sum := "06251b149c8a1cb443308ac34ed5a514e8cf2fd04636e4299b4a8e2c689ae654", func := "loop.example/g00287/laws.FnExactCutRight", spec := "fnExactCutRight", unfollowed := true, recurses := true, apart := false }
def FnExactCutRightSaid : Prop := fnExactCutRightRow.holds Try.pinned (OpenSpec.ofChange fnExactCutRightSpec)

/-- ITS FALSE NEIGHBOUR: 'it returns false'. Refute it at one input. -/
def fnExactCutRightWrong : ChangeSpec := { name := "fnExactCutRight", fn := fun _ => fun
  | [d] => { results := [.lit (.bool false)], args := [d] }
  | _ => none }
def FnExactCutRightWrongFalsely : Prop := fnExactCutRightRow.holds Try.pinned (OpenSpec.ofChange fnExactCutRightWrong)

/-- 'laws.FnExactSameTalk': WHATEVER THE INPUT: true; the input reads as it did. -/
def fnExactSameTalkSpec : ChangeSpec := { name := "fnExactSameTalk", fn := fun _ => fun
  | [d1, d2] => { results := [.lit (.bool true)], args := [d1, d2] }
  | _ => none }
def fnExactSameTalkRow : OpenClaim := { program := "ytjbokkoiicoahaa", sum := "06251b149c8a1cb443308ac34ed5a514e8cf2fd04636e4299b4a8e2c689ae654", func := "loop.example/g00287/laws.FnExactSameTalk", spec := "fnExactSameTalk", unfollowed := true, recurses := true, apart := false }
def FnExactSameTalkSaid : Prop := fnExactSameTalkRow.holds Try.pinned (OpenSpec.ofChange fnExactSameTalkSpec)

/-- ITS FALSE NEIGHBOUR: 'it returns false'. Refute it at one input. -/
def fnExactSameTalkWrong : ChangeSpec := { name := "fnExactSameTalk", fn := fun _ => fun
  | [d1, d2] => { results := [.lit (.bool false)], args := [d1, d2] }
  | _ => none }
def FnExactSameTalkWrongFalsely : Prop := fnExactSameTalkRow.holds Try.pinned (OpenSpec.ofChange fnExactSameTalkWrong)

/-- 'laws.FnExactSessionsRight': WHATEVER THE INPUT: true; the input reads as it did. -/
def fnExactSessionsRightSpec : ChangeSpec := { name := "fnExactSessionsRight", fn := fun _ => fun
  | [d] => { results := [.lit (.bool true)], args := [d] }
  | _ => none }
def fnExactSessionsRightRow : OpenClaim := { program := "ytjbokkoiicoahaa", sum := "06251b149c8a1cb443308ac34ed5a514e8cf2fd04636e4299b4a8e2c689ae654", func := "loop.example/g00287/laws.FnExactSessionsRight", spec := "fnExactSessionsRight", unfollowed := true, recurses := true, apart := false }
def FnExactSessionsRightSaid : Prop := fnExactSessionsRightRow.holds Try.pinned (OpenSpec.ofChange fnExactSessionsRightSpec)

/-- ITS FALSE NEIGHBOUR: 'it returns false'. Refute it at one input. -/
def fnExactSessionsRightWrong : ChangeSpec := { name := "fnExactSessionsRight", fn := fun _ => fun
  | [d] => { results := [.lit (.bool false)], args := [d] }
  | _ => none }
def FnExactSessionsRightWrongFalsely : Prop := fnExactSessionsRightRow.holds Try.pinned (OpenSpec.ofChange fnExactSessionsRightWrong)

/-- 'laws.FnExactPlainNew': WHATEVER THE INPUT: true; the input reads as it did. -/
def fnExactPlainNewSpec : ChangeSpec := { name := "fnExactPlainNew", fn := fun _ => fun
  | [d] => { results := [.lit (.bool true)], args := [d] }
  | _ => none }
def fnExactPlainNewRow : OpenClaim := { program := "ytjbokkoiicoahaa", sum := "06251b149c8a1cb443308ac34ed5a514e8cf2fd04636e4299b4a8e2c689ae654", func := "loop.example/g00287/laws.FnExactPlainNew", spec := "fnExactPlainNew", inPlace := ["slices.overlaps[loop.example/g00287/impl.Box]"], unfollowed := true, recurses := true, apart := false }
def FnExactPlainNewSaid : Prop := fnExactPlainNewRow.holds Try.pinned (OpenSpec.ofChange fnExactPlainNewSpec)

/-- ITS FALSE NEIGHBOUR: 'it returns false'. Refute it at one input. -/
def fnExactPlainNewWrong : ChangeSpec := { name := "fnExactPlainNew", fn := fun _ => fun
  | [d] => { results := [.lit (.bool false)], args := [d] }
  | _ => none }
def FnExactPlainNewWrongFalsely : Prop := fnExactPlainNewRow.holds Try.pinned (OpenSpec.ofChange fnExactPlainNewWrong)

/- THE SECOND FORM. 'bulk': how many values and letters a reading holds, each counted each time it is reached (what is shared counts as often as it is met; a slice's spare places count too). A statement '..UptoSaid' is the law's where the arguments, and the package variables that the reading takes, are together of bulk at most 1048576: NARROWER than '..Said'. Prove '..Said' where nothing that the law and all that it calls make is longer than what came in: it says more and counts as full. Else prove '..UptoSaid'. A law counts once. -/
mutual
def uptoBulk {H : Type} : DataW H → Nat
  | .lit (.string bytes) => bytes.length + 1
  | .lit _ => 1
  | .nil => 1
  | .ptr d => uptoBulk d + 1
  | .slice elems spare => uptoBulkAll elems + uptoBulkAll spare + 1
  | .agg parts => uptoBulkAll parts + 1
  | .iface _ d => uptoBulk d + 1
  | .map entries => uptoBulkEntries entries + 1
  | .held _ => 1
def uptoBulkAll {H : Type} : List (DataW H) → Nat
  | [] => 0
  | d :: r => uptoBulk d + uptoBulkAll r
def uptoBulkEntries {H : Type} : List (Lit × DataW H) → Nat
  | [] => 0
  | x :: r => uptoBulkEntry x + uptoBulkEntries r
def uptoBulkEntry {H : Type} : Lit × DataW H → Nat
  | (.string bytes, d) => bytes.length + uptoBulk d + 1
  | (_, d) => uptoBulk d + 1
 end
def uptoSmall : (H : Type) → List (DataW H) → Bool := fun _ ds => decide (uptoBulkAll ds ≤ 1048576)
def OpenSpec.upto (s : _root_.Go.ChangeSpec) : _root_.Go.OpenSpec := { _root_.Go.OpenSpec.ofChange s with cond := some uptoSmall }

/-- 'laws.FnExactUntidied', WHERE WHAT IT READS IS OF BULK AT MOST 1048576: true; the input reads as it did. -/
def fnExactUntidiedUptoRow : OpenClaim := { program := "ytjbokkoiicoahaa", sum := "06251b149c8a1cb443308ac34ed5a514e8cf2fd04636e4299b4a8e2c689ae654", func := "loop.example/g00287/laws.FnExactUntidied", spec := "fnExactUntidied", apart := false, narrowed := true }
def FnExactUntidiedUptoSaid : Prop := fnExactUntidiedUptoRow.holds Try.pinned (OpenSpec.upto fnExactUntidiedSpec)

/-- 'laws.FnExactCutRight', WHERE WHAT IT READS IS OF BULK AT MOST 1048576: true; the input reads as it did. -/
def fnExactCutRightUptoRow : OpenClaim := { program := "ytjbokkoiicoahaa", sum := "06251b149c8a1cb443308ac34ed5a514e8cf2fd04636e4299b4a8e2c689ae654", func := "loop.example/g00287/laws.FnExactCutRight", spec := "fnExactCutRight", unfollowed := true, recurses := true, apart := false, narrowed := true }
def FnExactCutRightUptoSaid : Prop := fnExactCutRightUptoRow.holds Try.pinned (OpenSpec.upto fnExactCutRightSpec)

/-- 'laws.FnExactSameTalk', WHERE WHAT IT READS IS OF BULK AT MOST 1048576: true; the input reads as it did. -/
def fnExactSameTalkUptoRow : OpenClaim := { program := "ytjbokkoiicoahaa", sum := "06251b149c8a1cb443308ac34ed5a514e8cf2fd04636e4299b4a8e2c689ae654", func := "loop.example/g00287/laws.FnExactSameTalk", spec := "fnExactSameTalk", unfollowed := true, recurses := true, apart := false, narrowed := true }
def FnExactSameTalkUptoSaid : Prop := fnExactSameTalkUptoRow.holds Try.pinned (OpenSpec.upto fnExactSameTalkSpec)

/-- 'laws.FnExactSessionsRight', WHERE WHAT IT READS IS OF BULK AT MOST 1048576: true; the input reads as it did. -/
def fnExactSessionsRightUptoRow : OpenClaim := { program := "ytjbokkoiicoahaa", sum := "06251b149c8a1cb443308ac34ed5a514e8cf2fd04636e4299b4a8e2c689ae654", func := "loop.example/g00287/laws.FnExactSessionsRight", spec := "fnExactSessionsRight", unfollowed := true, recurses := true, apart := false, narrowed := true }
def FnExactSessionsRightUptoSaid : Prop := fnExactSessionsRightUptoRow.holds Try.pinned (OpenSpec.upto fnExactSessionsRightSpec)

/-- 'laws.FnExactPlainNew', WHERE WHAT IT READS IS OF BULK AT MOST 1048576: true; the input reads as it did. -/
def fnExactPlainNewUptoRow : OpenClaim := { program := "ytjbokkoiicoahaa", sum := "06251b149c8a1cb443308ac34ed5a514e8cf2fd04636e4299b4a8e2c689ae654", func := "loop.example/g00287/laws.FnExactPlainNew", spec := "fnExactPlainNew", inPlace := ["slices.overlaps[loop.example/g00287/impl.Box]"], unfollowed := true, recurses := true, apart := false, narrowed := true }
def FnExactPlainNewUptoSaid : Prop := fnExactPlainNewUptoRow.holds Try.pinned (OpenSpec.upto fnExactPlainNewSpec)

end Rows
end Go.Proofs.Ytjbokkoiicoahaa
