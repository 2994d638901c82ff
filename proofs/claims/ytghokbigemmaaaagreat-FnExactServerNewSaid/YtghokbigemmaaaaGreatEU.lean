/- A fact of the row that is reckoned by itself: unfollowed. -/
import Derived.Test.YtghokbigemmaaaaGreatRows
import Derived.ProofKit
namespace Go.Proofs.YtghokbigemmaaaaGreat
theorem jfU :(Rows.fnExactServerNewRow.unfollowed == Tryz.checked.prog.unfollowed 3)=true:=by kernel_rfl
end Go.Proofs.YtghokbigemmaaaaGreat
