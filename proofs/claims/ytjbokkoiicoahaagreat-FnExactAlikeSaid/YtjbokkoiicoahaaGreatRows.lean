/-
  No cell of these rows narrows 'for every input' (looked for: loops, veiled, ifaces, maps, wideKeys, modest, calm, conditions, laid).
  DERIVED. THE GIVEN ROWS OF THIS SEAT. 4 by the template 'for every input the law returns true; each argument reads behind the call as it read before'; 0 by the template 'total and deterministic' (their statements: YtjbokkoiicoahaaGreatTotals.lean).
  GIVEN WITH THE SEED: the statements are not yours to turn. If you find one false, say at which input.
  Laid BY PROGRAM, IN A SANDBOX (cutbox-rows.mjs): the forced cells as the released guide's own fill.sh prints them over the translation 68e22e7d26d66c87… (all of the seat's roots in one cut). By AI agents, Wed Nov 11 2026. No macro, syntax, notation, axiom, sorry.
-/
import Derived.Test.YtjbokkoiicoahaaGreatChecked
import GoSem.Claim
import GoSem.ClaimJoined
import GoSem.ClaimMapViews
import Derived.JoinedTies
import Derived.KernelRfl
namespace Go.Proofs.YtjbokkoiicoahaaGreat
/- THE CELL 'sum', in the pinned program and in every row, IS THE sha256 OF THE DUMP (.gsa) THAT YtjbokkoiicoahaaGreatProg.lean LOADS. Nothing in Lean hashes anything: it is a label: what it is worth is what the hold of that sum in a sandbox is worth. -/
noncomputable def Tryz.pinned : Pinned := { name := "ytjbokkoiicoahaagreat", sum := "68e22e7d26d66c87265b4dfac4ffda2a950933d39f984ffb6f94afdefbed735a", checked := Tryz.checked }
namespace Rows
def none {H : Type} : Left H := { results := [], args := [] }

/-- 'laws.FnExactFeedAt': WHATEVER THE INPUT: true; the input reads as it did. -/
def fnExactFeedAtSpec : ChangeSpec := { name := "fnExactFeedAt", fn := fun _ => fun
  | [d1, d2, d3] => { results := [.lit (.bool true)], args := [d1, d2, d3] }
  | _ => none }
def fnExactFeedAtRow : OpenClaim := { program := "ytjbokkoiicoahaagreat", sum := "68e22e7d26d66c87265b4dfac4ffda2a950933d39f984ffb6f94afdefbed735a", func := "loop.example/g00287/laws.FnExactFeedAt", spec := "fnExactFeedAt", apart := false }
def FnExactFeedAtSaid : Prop := fnExactFeedAtRow.holds Tryz.pinned (OpenSpec.ofChange fnExactFeedAtSpec)

/-- ITS FALSE NEIGHBOUR: 'it returns false'. Refute it at one input. -/
def fnExactFeedAtWrong : ChangeSpec := { name := "fnExactFeedAt", fn := fun _ => fun
  | [d1, d2, d3] => { results := [.lit (.bool false)], args := [d1, d2, d3] }
  | _ => none }
def FnExactFeedAtWrongFalsely : Prop := fnExactFeedAtRow.holds Tryz.pinned (OpenSpec.ofChange fnExactFeedAtWrong)

/-- 'laws.FnExactOpenAt': WHATEVER THE INPUT: true; the input reads as it did. -/
def fnExactOpenAtSpec : ChangeSpec := { name := "fnExactOpenAt", fn := fun _ => fun
  | [d1, d2] => { results := [.lit (.bool true)], args := [d1, d2] }
  | _ => none }
def fnExactOpenAtRow : OpenClaim := { program := "ytjbokkoiicoahaagreat", sum := "68e22e7d26d66c87265b4dfac4ffda2a950933d39f984ffb6f94afdefbed735a", func := "loop.example/g00287/laws.FnExactOpenAt", spec := "fnExactOpenAt", apart := false }
def FnExactOpenAtSaid : Prop := fnExactOpenAtRow.holds Tryz.pinned (OpenSpec.ofChange fnExactOpenAtSpec)

/-- ITS FALSE NEIGHBOUR: 'it returns false'. Refute it at one input. -/
def fnExactOpenAtWrong : ChangeSpec := { name := "fnExactOpenAt", fn := fun _ => fun
  | [d1, d2] => { results := [.lit (.bool false)], args := [d1, d2] }
  | _ => none }
def FnExactOpenAtWrongFalsely : Prop := fnExactOpenAtRow.holds Tryz.pinned (OpenSpec.ofChange fnExactOpenAtWrong)

/-- 'laws.FnExactAlike': WHATEVER THE INPUT: true; the input reads as it did. -/
def fnExactAlikeSpec : ChangeSpec := { name := "fnExactAlike", fn := fun _ => fun
  | [d1, d2] => { results := [.lit (.bool true)], args := [d1, d2] }
  | _ => none }
def fnExactAlikeRow : OpenClaim := { program := "ytjbokkoiicoahaagreat", sum := "68e22e7d26d66c87265b4dfac4ffda2a950933d39f984ffb6f94afdefbed735a", func := "loop.example/g00287/laws.FnExactAlike", spec := "fnExactAlike", unfollowed := true, recurses := true, apart := false }
def FnExactAlikeSaid : Prop := fnExactAlikeRow.holds Tryz.pinned (OpenSpec.ofChange fnExactAlikeSpec)

/-- ITS FALSE NEIGHBOUR: 'it returns false'. Refute it at one input. -/
def fnExactAlikeWrong : ChangeSpec := { name := "fnExactAlike", fn := fun _ => fun
  | [d1, d2] => { results := [.lit (.bool false)], args := [d1, d2] }
  | _ => none }
def FnExactAlikeWrongFalsely : Prop := fnExactAlikeRow.holds Tryz.pinned (OpenSpec.ofChange fnExactAlikeWrong)

/-- 'laws.FnExactPlainOf': WHATEVER THE INPUT: true; the input reads as it did. -/
def fnExactPlainOfSpec : ChangeSpec := { name := "fnExactPlainOf", fn := fun _ => fun
  | [d] => { results := [.lit (.bool true)], args := [d] }
  | _ => none }
def fnExactPlainOfRow : OpenClaim := { program := "ytjbokkoiicoahaagreat", sum := "68e22e7d26d66c87265b4dfac4ffda2a950933d39f984ffb6f94afdefbed735a", func := "loop.example/g00287/laws.FnExactPlainOf", spec := "fnExactPlainOf", unfollowed := true, recurses := true, apart := false }
def FnExactPlainOfSaid : Prop := fnExactPlainOfRow.holds Tryz.pinned (OpenSpec.ofChange fnExactPlainOfSpec)

/-- ITS FALSE NEIGHBOUR: 'it returns false'. Refute it at one input. -/
def fnExactPlainOfWrong : ChangeSpec := { name := "fnExactPlainOf", fn := fun _ => fun
  | [d] => { results := [.lit (.bool false)], args := [d] }
  | _ => none }
def FnExactPlainOfWrongFalsely : Prop := fnExactPlainOfRow.holds Tryz.pinned (OpenSpec.ofChange fnExactPlainOfWrong)

/- THE SECOND FORM. 'bulk': how many values and letters a reading holds, each counted each time it is reached (what is shared counts as often as it is met; a slice's spare places count too). A statement '..UptoSaid' is the law's where the arguments, and the package variables that the reading takes, are together of bulk at most 1048576: NARROWER than '..Said'. Prove '..Said' where nothing that the law and all that it calls make is longer than what came in: it says more and counts as full. Else prove '..UptoSaid'. A law counts once. -/
mutual
def uptoBulk {H : Type} : DataW H → Nat
  | .lit (.string bytes) => bytes.length + 1
  | .lit _ => 1
  | .nil => 1
  | .ptr d => uptoBulk d + 1
  | .slice elems spare => uptoBulkAll elems + uptoBulkAll spare + 1
  | .agg parts => uptoBulkAll parts + 1
  | .iface _ d => uptoBulk d + 1
  | .map entries => uptoBulkEntries entries + 1
  | .held _ => 1
def uptoBulkAll {H : Type} : List (DataW H) → Nat
  | [] => 0
  | d :: r => uptoBulk d + uptoBulkAll r
def uptoBulkEntries {H : Type} : List (Lit × DataW H) → Nat
  | [] => 0
  | x :: r => uptoBulkEntry x + uptoBulkEntries r
def uptoBulkEntry {H : Type} : Lit × DataW H → Nat
  | (.string bytes, d) => bytes.length + uptoBulk d + 1
  | (_, d) => uptoBulk d + 1
 end
def uptoSmall : (H : Type) → List (DataW H) → Bool := fun _ ds => decide (uptoBulkAll ds ≤ 1048576)
def OpenSpec.upto (s : _root_.Go.ChangeSpec) : _root_.Go.OpenSpec := { _root_.Go.OpenSpec.ofChange s with cond := some uptoSmall }

/-- 'laws.FnExactFeedAt', WHERE WHAT IT READS IS OF BULK AT MOST 1048576: true; the input reads as it did. -/
def fnExactFeedAtUptoRow : OpenClaim := { program := "ytjbokkoiicoahaagreat", sum := "68e22e7d26d66c87265b4dfac4ffda2a950933d39f984ffb6f94afdefbed735a", func := "loop.example/g00287/laws.FnExactFeedAt", spec := "fnExactFeedAt", apart := false, narrowed := true }
def FnExactFeedAtUptoSaid : Prop := fnExactFeedAtUptoRow.holds Tryz.pinned (OpenSpec.upto fnExactFeedAtSpec)

/-- 'laws.FnExactOpenAt', WHERE WHAT IT READS IS OF BULK AT MOST 1048576: true; the input reads as it did. -/
def fnExactOpenAtUptoRow : OpenClaim := { program := "ytjbokkoiicoahaagreat", sum := "68e22e7d26d66c87265b4dfac4ffda2a950933d39f984ffb6f94afdefbed735a", func := "loop.example/g00287/laws.FnExactOpenAt", spec := "fnExactOpenAt", apart := false, narrowed := true }
def FnExactOpenAtUptoSaid : Prop := fnExactOpenAtUptoRow.holds Tryz.pinned (OpenSpec.upto fnExactOpenAtSpec)

/-- 'laws.FnExactAlike', WHERE WHAT IT READS IS OF BULK AT MOST 1048576: true; the input reads as it did. -/
def fnExactAlikeUptoRow : OpenClaim := { program := "ytjbokkoiicoahaagreat", sum := "68e22e7d26d66c87265b4dfac4ffda2a950933d39f984ffb6f94afdefbed735a", func := "loop.example/g00287/laws.FnExactAlike", spec := "fnExactAlike", unfollowed := true, recurses := true, apart := false, narrowed := true }
def FnExactAlikeUptoSaid : Prop := fnExactAlikeUptoRow.holds Tryz.pinned (OpenSpec.upto fnExactAlikeSpec)

/-- 'laws.FnExactPlainOf', WHERE WHAT IT READS IS OF BULK AT MOST 1048576: true; the input reads as it did. -/
def fnExactPlainOfUptoRow : OpenClaim := { program := "ytjbokkoiicoahaagreat", sum := "68e22e7d26d66c87265b4dfac4ffda2a950933d39f984ffb6f94afdefbed735a", func := "loop.example/g00287/laws.FnExactPlainOf", spec := "fnExactPlainOf", unfollowed := true, recurses := true, apart := false, narrowed := true }
def FnExactPlainOfUptoSaid : Prop := fnExactPlainOfUptoRow.holds Tryz.pinned (OpenSpec.upto fnExactPlainOfSpec)

end Rows
end Go.Proofs.YtjbokkoiicoahaaGreat
