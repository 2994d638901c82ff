/- Walks: copies of sessions. -/
import Derived.Test.YtjbokkoiicoahaaGreatC1
namespace Go.Av
open Go Go.Proofs
set_option maxRecDepth 100000
set_option maxHeartbeats 4000000
set_option linter.unusedVariables false
set_option linter.unusedSimpArgs false
theorem r_Clip_Session (A : Alg) (hA : A = std) (x : List GSession)  : RealC Tryz.prog 96 [.ow 17 (List.map eoSession x)] (.ow 17 (List.map eoSession x)) := by
 obtain ⟨x_r, a0⟩ := nm (x.map eoSession)
 have a1 := rlen_map hA a0
 refine realC_args (args1 := [.ow 17 x_r]) (by subst a0; rfl) ?_
 refine realC tyOk Tryz.func96 (by kernel_rfl) (afunC_of rfl (by cbv) (fun hv => ?_))
 refine gs (gr (ra hA 1 (by cbv) (od ?_)))
 refine gs (gr (ra hA 5 (by cbv) ?_))
 have hrl : A.rlen x_r = (List.length x_r : Int) := by subst hA; rfl
 refine ops_step rfl rfl (slc3_own rfl rfl rfl rfl rfl rfl rfl rfl rfl hrl hrl) ?_
 refine ra hA 1 (by cbv) (od ?_)
 refine go_ret ⟨_, by cbv, ?_⟩
 show _ = (PV.ow 17 x_r)
 rw [a0]
end Go.Av
