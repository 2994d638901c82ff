/- Walks: copies of sessions. -/
import Derived.Test.YtjbokkoiicoahaaGreatC1
import Derived.Test.YtjbokkoiicoahaaGreatC3
import Derived.Test.YtjbokkoiicoahaaGreatC4
namespace Go.Av
open Go Go.Proofs
set_option maxRecDepth 100000
set_option maxHeartbeats 4000000
set_option linter.unusedVariables false
set_option linter.unusedSimpArgs false
theorem r_spec_l22Copy (A : Alg) (hA : A = std) (x : GSession) (hz : ∀ k ∈ zsSession x, k ≤ 1048576) : Real Tryz.prog 50 [.agg (eSession x)] (.agg (eoSession x)) := by
 obtain ⟨d4, e1, d8, d3, ⟨a1, a4, c0, b0⟩, ⟨a0, a5, a8, b1⟩, ⟨a3, a6, a7, a2, b5⟩⟩ := x
 obtain ⟨c7, b7⟩ := nm (c0.map eString)
 have e0 := rlen_map hA b7
 obtain ⟨c3, b3⟩ := nm (b0.map eString)
 have d7 := rlen_map hA b3
 obtain ⟨c2, a9⟩ := nm (a8.map eMail)
 have d5 := rlen_map hA a9
 obtain ⟨c4, b2⟩ := nm (b1.map eBool)
 have d6 := rlen_map hA b2
 obtain ⟨c5, b4⟩ := nm (b5.map eInt)
 have d9 := rlen_map hA b4
 refine real_args (args' := [.agg [.ii d4, .str e1, .str d8, .bool d3, .ii a1, .str a4, .sl 1 c7, .sl 1 c3, .ii a0, .str a5, .sl 3 c2, .sl 1 c4, .ii a3, .str a6, .str a7, .ii a2, .sl 1 c5]]) (by subst b7 b3 a9 b2 b4; rfl) ?_
 have zBring : ∀ k ∈ zsBring (⟨a1, a4, c0, b0⟩ : GBring), k ≤ 1048576 := fun k hk => hz k (List.mem_append_right _ (List.mem_append_right _ (List.mem_append_left _ hk)))
 have zFetch : ∀ k ∈ zsFetch (⟨a0, a5, a8, b1⟩ : GFetch), k ≤ 1048576 := fun k hk => hz k (List.mem_append_right _ (List.mem_append_right _ (List.mem_append_right _ (List.mem_append_left _ hk))))
 have zLook : ∀ k ∈ zsLook (⟨a3, a6, a7, a2, b5⟩ : GLook), k ≤ 1048576 := fun k hk => hz k (List.mem_append_right _ (List.mem_append_right _ (List.mem_append_right _ (List.mem_append_right _ (List.mem_append_left _ hk)))))
 refine real tyOk Tryz.func50 (by kernel_rfl) (afun_of rfl ?_)
 refine gx hA 2 ?_
 refine gx hA 3 ?_
 refine gs (gr (rn hA 2 ?_))
 obtain ⟨c8, c1, d2, d1, hc2⟩ : ∃ (c8 : RR) (c1 : RR), c8 = List.map eString c0 ∧ c1 = List.map eString b0 ∧ Real Tryz.prog 90 [.agg [.ii a1, .str a4, .sl 1 c7, .sl 1 c3]] (.agg [.ii a1, .str a4, .ow 1 c8, .ow 1 c1]) := ⟨_, _, rfl, rfl, by subst b7 b3; exact r_spec_l19Copy A hA (⟨a1, a4, c0, b0⟩ : GBring) (by assumption)⟩
 have e6 := rlen_map hA d2
 have e5 := rlen_map hA d1
 refine ops_callV rfl rfl (by cbv) (by cbv) hc2 (.inr rfl) (by cbv) ?_
 refine rz hA 2 ?_
 refine gs (gr (rn hA 2 ?_))
 obtain ⟨b6, b9, c6, d0, hc4⟩ : ∃ (b6 : RR) (b9 : RR), b6 = List.map eoMail a8 ∧ b9 = List.map eBool b1 ∧ Real Tryz.prog 91 [.agg [.ii a0, .str a5, .sl 3 c2, .sl 1 c4]] (.agg [.ii a0, .str a5, .ow 3 b6, .ow 1 b9]) := ⟨_, _, rfl, rfl, by subst a9 b2; exact r_spec_l20Copy A hA (⟨a0, a5, a8, b1⟩ : GFetch) (by assumption)⟩
 have e2 := rlen_map hA c6
 have e4 := rlen_map hA d0
 refine ops_callV rfl rfl (by cbv) (by cbv) hc4 (.inr rfl) (by cbv) ?_
 refine rz hA 2 ?_
 refine gs (gr (rn hA 2 ?_))
 obtain ⟨b8, c9, hc6⟩ : ∃ (b8 : RR), b8 = List.map eInt b5 ∧ Real Tryz.prog 92 [.agg [.ii a3, .str a6, .str a7, .ii a2, .sl 1 c5]] (.agg [.ii a3, .str a6, .str a7, .ii a2, .ow 1 b8]) := ⟨_, rfl, by subst b4; exact r_spec_l21Copy A hA (⟨a3, a6, a7, a2, b5⟩ : GLook) (by assumption)⟩
 have e3 := rlen_map hA c9
 refine ops_callV rfl rfl (by cbv) (by cbv) hc6 (.inr rfl) (by cbv) ?_
 refine rz hA 2 ?_
 refine gx hA 2 ?_
 refine go_ret ⟨_, by cbv, ?_⟩
 show _ = (PV.agg [.ii d4, .str e1, .str d8, .bool d3, .ii a1, .str a4, .ow 1 c8, .ow 1 c1, .ii a0, .str a5, .ow 3 b6, .ow 1 b9, .ii a3, .str a6, .str a7, .ii a2, .ow 1 b8])
 simp only [d2, d1, c6, d0, c9]
 rfl
end Go.Av
