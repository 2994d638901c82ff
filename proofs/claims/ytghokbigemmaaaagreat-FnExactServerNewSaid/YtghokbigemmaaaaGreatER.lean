/- A fact of the row that is reckoned by itself: recurses. -/
import Derived.Test.YtghokbigemmaaaaGreatRows
import Derived.ProofKit
namespace Go.Proofs.YtghokbigemmaaaaGreat
theorem jfR :(Rows.fnExactServerNewRow.recurses == Tryz.checked.prog.recurses 3)=true:=by kernel_rfl
end Go.Proofs.YtghokbigemmaaaaGreat
