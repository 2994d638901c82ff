/- What the row's cells say of the program, put together. -/
import Derived.Test.YtghokbigemmaaaaGreatEI
import Derived.Test.YtghokbigemmaaaaGreatEU
import Derived.Test.YtghokbigemmaaaaGreatER
import Derived.Test.YtghokbigemmaaaaGreatEN
import Derived.JoinedOf
namespace Go.Proofs.YtghokbigemmaaaaGreat
theorem jfA :joinedFacts Tryz.checked.prog 3 Tryz.f3 Rows.fnExactServerNewSpec Rows.fnExactServerNewRow=true:=by
  unfold joinedFacts;rw[jfI,jfU,jfR,jfN]
  kernel_rfl
end Go.Proofs.YtghokbigemmaaaaGreat
