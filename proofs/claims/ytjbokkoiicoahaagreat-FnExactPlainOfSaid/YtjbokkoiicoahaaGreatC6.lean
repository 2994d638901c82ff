/- Walks: copies of sessions. -/
import Derived.Test.YtjbokkoiicoahaaGreatC1
import Derived.Test.YtjbokkoiicoahaaGreatC3
import Derived.Test.YtjbokkoiicoahaaGreatC4
namespace Go.Av
open Go Go.Proofs
set_option maxRecDepth 100000
set_option maxHeartbeats 4000000
set_option linter.unusedVariables false
set_option linter.unusedSimpArgs false
theorem r_spec_l22Copy (A : Alg) (hA : A = std) (x : GSession) (hz : ∀ k ∈ zsSession x, k ≤ 1048576) : Real Tryz.prog 50 [.agg (eSession x)] (.agg (eoSession x)) := by
 obtain ⟨d4, e1, d8, d3, ⟨a0, a5, c0, b3⟩, ⟨a1, a4, a8, b0⟩, ⟨a2, a6, a7, a3, b6⟩⟩ := x
 obtain ⟨c7, b7⟩ := nm (c0.map eString)
 have e0 := rlen_map hA b7
 obtain ⟨c4, b1⟩ := nm (b3.map eString)
 have d6 := rlen_map hA b1
 obtain ⟨c1, a9⟩ := nm (a8.map eMail)
 have d5 := rlen_map hA a9
 obtain ⟨c3, b2⟩ := nm (b0.map eBool)
 have d7 := rlen_map hA b2
 obtain ⟨c5, b4⟩ := nm (b6.map eInt)
 have d9 := rlen_map hA b4
 refine real_args (args' := [.agg [.ii d4, .str e1, .str d8, .bool d3, .ii a0, .str a5, .sl 1 c7, .sl 1 c4, .ii a1, .str a4, .sl 3 c1, .sl 1 c3, .ii a2, .str a6, .str a7, .ii a3, .sl 1 c5]]) (by subst b7 b1 a9 b2 b4; rfl) ?_
 have zBring : ∀ k ∈ zsBring (⟨a0, a5, c0, b3⟩ : GBring), k ≤ 1048576 := fun k hk => hz k (List.mem_append_right _ (List.mem_append_right _ (List.mem_append_left _ hk)))
 have zFetch : ∀ k ∈ zsFetch (⟨a1, a4, a8, b0⟩ : GFetch), k ≤ 1048576 := fun k hk => hz k (List.mem_append_right _ (List.mem_append_right _ (List.mem_append_right _ (List.mem_append_left _ hk))))
 have zLook : ∀ k ∈ zsLook (⟨a2, a6, a7, a3, b6⟩ : GLook), k ≤ 1048576 := fun k hk => hz k (List.mem_append_right _ (List.mem_append_right _ (List.mem_append_right _ (List.mem_append_right _ (List.mem_append_left _ hk)))))
 refine real tyOk Tryz.func50 (by kernel_rfl) (afun_of rfl ?_)
 refine gx hA 2 ?_
 refine gx hA 3 ?_
 refine gs (gr (rn hA 2 ?_))
 obtain ⟨c8, c2, d2, d1, hc2⟩ : ∃ (c8 : RR) (c2 : RR), c8 = List.map eString c0 ∧ c2 = List.map eString b3 ∧ Real Tryz.prog 90 [.agg [.ii a0, .str a5, .sl 1 c7, .sl 1 c4]] (.agg [.ii a0, .str a5, .ow 1 c8, .ow 1 c2]) := ⟨_, _, rfl, rfl, by subst b7 b1; exact r_spec_l19Copy A hA (⟨a0, a5, c0, b3⟩ : GBring) (by assumption)⟩
 have e6 := rlen_map hA d2
 have e5 := rlen_map hA d1
 refine ops_callV rfl rfl (by cbv) (by cbv) hc2 (.inr rfl) (by cbv) ?_
 refine rz hA 2 ?_
 refine gs (gr (rn hA 2 ?_))
 obtain ⟨b5, b8, c6, c9, hc4⟩ : ∃ (b5 : RR) (b8 : RR), b5 = List.map eoMail a8 ∧ b8 = List.map eBool b0 ∧ Real Tryz.prog 91 [.agg [.ii a1, .str a4, .sl 3 c1, .sl 1 c3]] (.agg [.ii a1, .str a4, .ow 3 b5, .ow 1 b8]) := ⟨_, _, rfl, rfl, by subst a9 b2; exact r_spec_l20Copy A hA (⟨a1, a4, a8, b0⟩ : GFetch) (by assumption)⟩
 have e2 := rlen_map hA c6
 have e4 := rlen_map hA c9
 refine ops_callV rfl rfl (by cbv) (by cbv) hc4 (.inr rfl) (by cbv) ?_
 refine rz hA 2 ?_
 refine gs (gr (rn hA 2 ?_))
 obtain ⟨b9, d0, hc6⟩ : ∃ (b9 : RR), b9 = List.map eInt b6 ∧ Real Tryz.prog 92 [.agg [.ii a2, .str a6, .str a7, .ii a3, .sl 1 c5]] (.agg [.ii a2, .str a6, .str a7, .ii a3, .ow 1 b9]) := ⟨_, rfl, by subst b4; exact r_spec_l21Copy A hA (⟨a2, a6, a7, a3, b6⟩ : GLook) (by assumption)⟩
 have e3 := rlen_map hA d0
 refine ops_callV rfl rfl (by cbv) (by cbv) hc6 (.inr rfl) (by cbv) ?_
 refine rz hA 2 ?_
 refine gx hA 2 ?_
 refine go_ret ⟨_, by cbv, ?_⟩
 show _ = (PV.agg [.ii d4, .str e1, .str d8, .bool d3, .ii a0, .str a5, .ow 1 c8, .ow 1 c2, .ii a1, .str a4, .ow 3 b5, .ow 1 b8, .ii a2, .str a6, .str a7, .ii a3, .ow 1 b9])
 simp only [d2, d1, c6, c9, d0]
 rfl
end Go.Av
