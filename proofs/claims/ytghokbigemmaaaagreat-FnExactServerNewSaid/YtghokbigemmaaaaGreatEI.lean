/- A fact of the row that is reckoned by itself: inPlace. -/
import Derived.Test.YtghokbigemmaaaaGreatRows
import Derived.ProofKit
namespace Go.Proofs.YtghokbigemmaaaaGreat
theorem jfI :(Rows.fnExactServerNewRow.inPlace == Tryz.checked.prog.inPlace 3)=true:=by kernel_rfl
end Go.Proofs.YtghokbigemmaaaaGreat
