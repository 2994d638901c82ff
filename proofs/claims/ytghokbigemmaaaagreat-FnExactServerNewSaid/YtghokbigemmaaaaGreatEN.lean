/- A fact of the row that is reckoned by itself: named. -/
import Derived.Test.YtghokbigemmaaaaGreatRows
import Derived.ProofKit
namespace Go.Proofs.YtghokbigemmaaaaGreat
theorem jfN :(Rows.fnExactServerNewRow.named == Tryz.checked.prog.varsNamed 3)=true:=by kernel_rfl
end Go.Proofs.YtghokbigemmaaaaGreat
