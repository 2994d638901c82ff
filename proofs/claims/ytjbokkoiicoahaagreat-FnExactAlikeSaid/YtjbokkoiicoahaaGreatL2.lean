/- Walks: the law of Alike. -/
import Derived.Test.YtjbokkoiicoahaaGreatTm
import Derived.Test.YtjbokkoiicoahaaGreatPl
import Derived.Test.YtjbokkoiicoahaaGreatK2
import Derived.Test.YtjbokkoiicoahaaGreatV3
import Derived.Test.YtjbokkoiicoahaaGreatV4
import Derived.Test.YtjbokkoiicoahaaGreatV5
namespace Go.Av
open Go Go.Proofs
set_option maxRecDepth 100000
set_option maxHeartbeats 4000000
set_option linter.unusedVariables false
set_option linter.unusedSimpArgs false
theorem chain_sum : ∀ {l : List Nat} {n : Int}, 0 ≤ chain n l → (l.sum : Int) ≤ n
 | [], n, h => by simpa [chain] using h
 | k :: l, n, h => by
  rw [chain_cons] at h
  split at h
  ·omega
  have := chain_sum h; simp only [List.sum_cons]; omega
theorem items_sum (x : GServer) (h : ((zsServer x).sum : Int) ≤ 1048576) : (itemsL x.Store.Log.Used).length ≤ 1048576 := by
 have h1 := itemsL_sum x.Store.Log.Used
 have h2 : (zsSegS x.Store.Log.Used).sum ≤ (zsServer x).sum := by
  simp only [zsServer, zsStore, zsLog, List.sum_append]; omega
 omega
end Go.Av
namespace Go.Av
open Go Go.Proofs
set_option maxRecDepth 100000
set_option maxHeartbeats 4000000
set_option linter.unusedVariables false
set_option linter.unusedSimpArgs false
theorem r_laws_FnExactAlike (A : Alg) (hA : A = std) (aP : GPlain) (aV : GServer) (haP : ∀ k ∈ zsPlain aP, (k : Int) ≤ 9223372036854775807) (haV : ∀ k ∈ zsServer aV, (k : Int) ≤ 9223372036854775807) : Real Tryz.prog 5 [.agg (ePlain aP), .agg (eServer aV)] (.bool true) := by
 obtain ⟨⟨b0⟩, a8, b2⟩ := aP
 obtain ⟨d8, c8⟩ := nm (b0.map eBox)
 have k5 := rlen_map hA c8
 obtain ⟨f1, d6⟩ := nm (b2.map eSession)
 have l4 := rlen_map hA d6
 obtain ⟨⟨⟨⟨a4, a6⟩, a5, a7, a2, a1, a3, a0⟩, a9⟩, b1⟩ := aV
 obtain ⟨b6, b3⟩ := nm (a4.map eString)
 have i8 := rlen_map hA b3
 obtain ⟨b8, b4⟩ := nm (a6.map eWrite)
 have j2 := rlen_map hA b4
 obtain ⟨d0, c1⟩ := nm (a7.map eSeg)
 have j8 := rlen_map hA c1
 obtain ⟨d9, c9⟩ := nm (a9.map eInt)
 have k6 := rlen_map hA c9
 obtain ⟨f2, d7⟩ := nm (b1.map eSession)
 have l6 := rlen_map hA d7
 refine real_args (args' := [.agg [.sl 5 d8, .ii a8, .sl 17 f1], .agg [.sl 1 b6, .sl 2 b8, .ii a5, .sl 4 d0, .ii a2, .ii a1, .ii a3, .ii a0, .sl 1 d9, .sl 17 f2]]) (by subst c8 d6 b3 b4 c1 c9 d7; rfl) ?_
 refine real tyOk Tryz.func5 (by kernel_rfl) (afun_of rfl ?_)
 refine gx hA 3 ?_
 refine gx hA 1 ?_
 refine gs (gr (rn hA 2 ?_))
 obtain ⟨g5, j4, hc2⟩ : ∃ (g5 : Int), g5 = (chain 1048576 (zsPlain (⟨⟨b0⟩, a8, b2⟩ : GPlain))) ∧ Real Tryz.prog 16 [.agg [.sl 5 d8, .ii a8, .sl 17 f1], .ii 1048576] (.ii g5) := ⟨_, rfl, by subst c8 d6; exact r_laws_szPlain A hA (⟨⟨b0⟩, a8, b2⟩ : GPlain) 1048576 (by omega) (by omega) haP⟩
 refine ops_callV rfl rfl (by cbv) (by cbv) hc2 (.inr rfl) (by cbv) ?_
 have m7 := chain_bd j4 (by omega)
 refine rz hA 1 ?_
 refine gs (gx hA 2 ?_)
 refine go_cond rfl (fun c3 => ?_) (fun c3 => ?_)
 ·
  have ec3 : g5 < 0 := lss_t hA c3
  refine gx hA 1 ?_
  refine go_ret ⟨_, by cbv, ?_⟩
  show _ = (PV.bool true)
  rfl
 have ec3 : 0 ≤ g5 := lss_f hA c3
 refine gk (gs (gr (rn hA 2 ?_)))
 obtain ⟨i2, j3, hc5⟩ : ∃ (i2 : Int), i2 = (chain g5 (zsServer (⟨⟨⟨⟨a4, a6⟩, a5, a7, a2, a1, a3, a0⟩, a9⟩, b1⟩ : GServer))) ∧ Real Tryz.prog 7 [.agg [.sl 1 b6, .sl 2 b8, .ii a5, .sl 4 d0, .ii a2, .ii a1, .ii a3, .ii a0, .sl 1 d9, .sl 17 f2], .ii g5] (.ii i2) := ⟨_, rfl, by subst b3 b4 c1 c9 d7; exact r_laws_szServer A hA (⟨⟨⟨⟨a4, a6⟩, a5, a7, a2, a1, a3, a0⟩, a9⟩, b1⟩ : GServer) g5 (by omega) (by omega) haV⟩
 refine ops_callV rfl rfl (by cbv) (by cbv) hc5 (.inr rfl) (by cbv) ?_
 have m6 := chain_bd j3 (by omega)
 refine rz hA 1 ?_
 refine gs (gx hA 2 ?_)
 refine go_cond rfl (fun c6 => ?_) (fun c6 => ?_)
 ·
  have ec6 : i2 < 0 := lss_t hA c6
  refine gx hA 1 ?_
  refine go_ret ⟨_, by cbv, ?_⟩
  show _ = (PV.bool true)
  rfl
 have ec6 : 0 ≤ i2 := lss_f hA c6
 refine gk (gs ?_)
 have jaP : ∀ k ∈ zsPlain (⟨⟨b0⟩, a8, b2⟩ : GPlain), k ≤ 1048576 := fun k hk => by
  have := chain_all _ _ (show 0 ≤ chain _ _ from j4 ▸ (by omega : (0 : Int) ≤ g5)) k hk
  omega
 have saP : ((zsPlain (⟨⟨b0⟩, a8, b2⟩ : GPlain)).sum : Int) ≤ 1048576 := by
  have := chain_sum (show 0 ≤ chain _ _ from j4 ▸ (by omega : (0 : Int) ≤ g5))
  omega
 have iaP : ∀ k ∈ zsPlain (⟨⟨b0⟩, a8, b2⟩ : GPlain), (k : Int) ≤ 4611686018427387904 := fun k hk => by have := jaP k hk; omega
 have jaV : ∀ k ∈ zsServer (⟨⟨⟨⟨a4, a6⟩, a5, a7, a2, a1, a3, a0⟩, a9⟩, b1⟩ : GServer), k ≤ 1048576 := fun k hk => by
  have := chain_all _ _ (show 0 ≤ chain _ _ from j3 ▸ (by omega : (0 : Int) ≤ i2)) k hk
  omega
 have saV : ((zsServer (⟨⟨⟨⟨a4, a6⟩, a5, a7, a2, a1, a3, a0⟩, a9⟩, b1⟩ : GServer)).sum : Int) ≤ 1048576 := by
  have := chain_sum (show 0 ≤ chain _ _ from j3 ▸ (by omega : (0 : Int) ≤ i2))
  omega
 have iaV : ∀ k ∈ zsServer (⟨⟨⟨⟨a4, a6⟩, a5, a7, a2, a1, a3, a0⟩, a9⟩, b1⟩ : GServer), (k : Int) ≤ 4611686018427387904 := fun k hk => by have := jaV k hk; omega
 have hil : (itemsL a7).length ≤ 1048576 := items_sum (⟨⟨⟨⟨a4, a6⟩, a5, a7, a2, a1, a3, a0⟩, a9⟩, b1⟩ : GServer) saV
 refine go_draw [0, 1, 2, 3, 4, 5] (by cbv) ?_
 refine dn_ hA 1 ?_
 obtain ⟨e7, f7, g7, i0, hc8⟩ : ∃ (e7 : RR) (f7 : RR), e7 = List.map eoBox b0 ∧ f7 = List.map eoSession b2 ∧ Real Tryz.prog 18 [.agg [.sl 5 d8, .ii a8, .sl 17 f1]] (.agg [.ow 5 e7, .ii a8, .ow 17 f7]) := ⟨_, _, rfl, rfl, by subst c8 d6; exact r_laws_toPlain A hA (⟨⟨b0⟩, a8, b2⟩ : GPlain) jaP⟩
 have k3 := rlen_map hA g7
 have l2 := rlen_map hA i0
 refine dops_callV rfl rfl (by cbv) (by cbv) hc8 (.inr rfl) ?_
 refine dn_ hA 1 ?_
 obtain ⟨c0, c4, d5, e8, f8, e6, f0, g2, g6, i1, m0⟩ : ∃ (c0 : RR) (c4 : RR) (d5 : RR) (e8 : RR) (f8 : RR), c0 = List.map eString a4 ∧ c4 = List.map eoWrite a6 ∧ d5 = List.map eoSeg a7 ∧ e8 = List.map eInt a9 ∧ f8 = List.map eoSession b1 ∧ Real Tryz.prog 9 [.agg [.sl 1 b6, .sl 2 b8, .ii a5, .sl 4 d0, .ii a2, .ii a1, .ii a3, .ii a0, .sl 1 d9, .sl 17 f2]] (.agg [.ow 1 c0, .ow 2 c4, .ii a5, .ow 4 d5, .ii a2, .ii a1, .ii a3, .ii a0, .ow 1 e8, .ow 17 f8]) := ⟨_, _, _, _, _, rfl, rfl, rfl, rfl, rfl, by subst b3 b4 c1 c9 d7; exact r_laws_toServer A hA (⟨⟨⟨⟨a4, a6⟩, a5, a7, a2, a1, a3, a0⟩, a9⟩, b1⟩ : GServer) jaV⟩
 have i7 := rlen_map hA e6
 have j1 := rlen_map hA f0
 have j7 := rlen_map hA g2
 have k4 := rlen_map hA g6
 have l1 := rlen_map hA i1
 refine dops_callV rfl rfl (by cbv) (by cbv) m0 (.inr rfl) ?_
 obtain ⟨i6, l3, m1⟩ : ∃ (i6 : Bool), i6 = (alikeB (⟨⟨b0⟩, a8, b2⟩ : GPlain) (⟨⟨⟨⟨a4, a6⟩, a5, a7, a2, a1, a3, a0⟩, a9⟩, b1⟩ : GServer)) ∧ Real Tryz.prog 17 [.agg [.sl 5 (eraseR e7), .ii a8, .sl 17 (eraseR f7)], .agg [.sl 1 (eraseR c0), .sl 2 (eraseR c4), .ii a5, .sl 4 (eraseR d5), .ii a2, .ii a1, .ii a3, .ii a0, .sl 1 (eraseR e8), .sl 17 (eraseR f8)]] (.bool i6) := ⟨_, rfl, by subst g7 i0 e6 f0 g2 g6 i1; simp only [erR_Box, erR_Int, erR_Seg, erR_Session, erR_String, erR_Write]; exact r_spec_Alike A hA (⟨⟨b0⟩, a8, b2⟩ : GPlain) (⟨⟨⟨⟨a4, a6⟩, a5, a7, a2, a1, a3, a0⟩, a9⟩, b1⟩ : GServer) (by assumption) (by assumption) hil⟩
 refine dops_callV rfl rfl (by cbv) (by cbv) m1 (.inr rfl) ?_
 refine dz hA 1 ?_
 refine gs (gr (rn hA 1 ?_))
 obtain ⟨d3, e3, f4, g1, m5⟩ : ∃ (d3 : RR) (e3 : RR), d3 = List.map eoBox b0 ∧ e3 = List.map eoSession b2 ∧ Real Tryz.prog 18 [.agg [.sl 5 d8, .ii a8, .sl 17 f1]] (.agg [.ow 5 d3, .ii a8, .ow 17 e3]) := ⟨_, _, rfl, rfl, by subst c8 d6; exact r_laws_toPlain A hA (⟨⟨b0⟩, a8, b2⟩ : GPlain) jaP⟩
 have k1 := rlen_map hA f4
 have k7 := rlen_map hA g1
 refine ops_callV rfl rfl (by cbv) (by cbv) m5 (.inr rfl) (by cbv) ?_
 refine rz hA 2 ?_
 refine gs (gr (rn hA 1 ?_))
 obtain ⟨b5, b7, c5, d2, e4, c7, d1, e5, f3, g0, m2⟩ : ∃ (b5 : RR) (b7 : RR) (c5 : RR) (d2 : RR) (e4 : RR), b5 = List.map eString a4 ∧ b7 = List.map eoWrite a6 ∧ c5 = List.map eoSeg a7 ∧ d2 = List.map eInt a9 ∧ e4 = List.map eoSession b1 ∧ Real Tryz.prog 9 [.agg [.sl 1 b6, .sl 2 b8, .ii a5, .sl 4 d0, .ii a2, .ii a1, .ii a3, .ii a0, .sl 1 d9, .sl 17 f2]] (.agg [.ow 1 b5, .ow 2 b7, .ii a5, .ow 4 c5, .ii a2, .ii a1, .ii a3, .ii a0, .ow 1 d2, .ow 17 e4]) := ⟨_, _, _, _, _, rfl, rfl, rfl, rfl, rfl, by subst b3 b4 c1 c9 d7; exact r_laws_toServer A hA (⟨⟨⟨⟨a4, a6⟩, a5, a7, a2, a1, a3, a0⟩, a9⟩, b1⟩ : GServer) jaV⟩
 have i3 := rlen_map hA c7
 have j0 := rlen_map hA d1
 have j6 := rlen_map hA e5
 have j9 := rlen_map hA f3
 have k8 := rlen_map hA g0
 refine ops_callV rfl rfl (by cbv) (by cbv) m2 (.inr rfl) (by cbv) ?_
 refine rz hA 2 ?_
 refine gs (gr (rn hA 2 ?_))
 obtain ⟨i4, l5, l7⟩ : ∃ (i4 : Bool), i4 = (alikeB (⟨⟨b0⟩, a8, b2⟩ : GPlain) (⟨⟨⟨⟨a4, a6⟩, a5, a7, a2, a1, a3, a0⟩, a9⟩, b1⟩ : GServer)) ∧ Real Tryz.prog 19 [.agg [.sl 5 (eraseR d3), .ii a8, .sl 17 (eraseR e3)], .agg [.sl 1 (eraseR b5), .sl 2 (eraseR b7), .ii a5, .sl 4 (eraseR c5), .ii a2, .ii a1, .ii a3, .ii a0, .sl 1 (eraseR d2), .sl 17 (eraseR e4)]] (.bool i4) := ⟨_, rfl, by subst f4 g1 c7 d1 e5 f3 g0; simp only [erR_Box, erR_Int, erR_Seg, erR_Session, erR_String, erR_Write]; exact r_impl_Alike A hA (⟨⟨b0⟩, a8, b2⟩ : GPlain) (⟨⟨⟨⟨a4, a6⟩, a5, a7, a2, a1, a3, a0⟩, a9⟩, b1⟩ : GServer) (by assumption) (by assumption) hil⟩
 refine ops_callV rfl rfl (by cbv) (by cbv) l7 (.inl trivial) (by cbv) ?_
 refine rz hA 1 ?_
 refine gs (gx hA 3 ?_)
 refine go_cond rfl (fun c19 => ?_) (fun c19 => ?_)
 ·
  exact no_t c19 (show (A.bnot (A.beq i4 i6)) = false from by subst hA; simp [std, l5, l3])
 refine gk (gs (gs ?_))
 refine go_draw [0, 1, 2, 3, 4] (by cbv) ?_
 refine dn_ hA 2 ?_
 obtain ⟨e2, f6, g3, g9, l8⟩ : ∃ (e2 : RR) (f6 : RR), e2 = List.map eoBox b0 ∧ f6 = List.map eoSession b2 ∧ Real Tryz.prog 18 [.agg [.sl 5 d8, .ii a8, .sl 17 f1]] (.agg [.ow 5 e2, .ii a8, .ow 17 f6]) := ⟨_, _, rfl, rfl, by subst c8 d6; exact r_laws_toPlain A hA (⟨⟨b0⟩, a8, b2⟩ : GPlain) jaP⟩
 have k2 := rlen_map hA g3
 have l0 := rlen_map hA g9
 refine dops_callV rfl rfl (by cbv) (by cbv) l8 (.inr rfl) ?_
 have m3 : Real Tryz.prog 20 [.agg [.sl 5 (eraseR d3), .ii a8, .sl 17 (eraseR e3)], .agg [.sl 5 (eraseR e2), .ii a8, .sl 17 (eraseR f6)]] (.bool true) := by subst f4 g1 g3 g9; simp only [erR_Box, erR_Session]; exact r_laws_eqPlain A hA (⟨⟨b0⟩, a8, b2⟩ : GPlain) iaP
 refine dops_callV rfl rfl (by cbv) (by cbv) m3 (.inl trivial) ?_
 refine dz hA 1 ?_
 refine go_cond rfl (fun c24 => ?_) (fun c24 => ?_)
 ·
  exact no_t c24 (show (A.bnot true) = false from by subst hA; rfl)
 refine gk (gs (gs ?_))
 refine go_draw [0, 1, 2, 3, 4] (by cbv) ?_
 refine dn_ hA 2 ?_
 obtain ⟨b9, c2, d4, e1, f5, e0, e9, f9, g4, g8, m4⟩ : ∃ (b9 : RR) (c2 : RR) (d4 : RR) (e1 : RR) (f5 : RR), b9 = List.map eString a4 ∧ c2 = List.map eoWrite a6 ∧ d4 = List.map eoSeg a7 ∧ e1 = List.map eInt a9 ∧ f5 = List.map eoSession b1 ∧ Real Tryz.prog 9 [.agg [.sl 1 b6, .sl 2 b8, .ii a5, .sl 4 d0, .ii a2, .ii a1, .ii a3, .ii a0, .sl 1 d9, .sl 17 f2]] (.agg [.ow 1 b9, .ow 2 c2, .ii a5, .ow 4 d4, .ii a2, .ii a1, .ii a3, .ii a0, .ow 1 e1, .ow 17 f5]) := ⟨_, _, _, _, _, rfl, rfl, rfl, rfl, rfl, by subst b3 b4 c1 c9 d7; exact r_laws_toServer A hA (⟨⟨⟨⟨a4, a6⟩, a5, a7, a2, a1, a3, a0⟩, a9⟩, b1⟩ : GServer) jaV⟩
 have i5 := rlen_map hA e0
 have i9 := rlen_map hA e9
 have j5 := rlen_map hA f9
 have k0 := rlen_map hA g4
 have k9 := rlen_map hA g8
 refine dops_callV rfl rfl (by cbv) (by cbv) m4 (.inr rfl) ?_
 have l9 : Real Tryz.prog 11 [.agg [.sl 1 (eraseR b5), .sl 2 (eraseR b7), .ii a5, .sl 4 (eraseR c5), .ii a2, .ii a1, .ii a3, .ii a0, .sl 1 (eraseR d2), .sl 17 (eraseR e4)], .agg [.sl 1 (eraseR b9), .sl 2 (eraseR c2), .ii a5, .sl 4 (eraseR d4), .ii a2, .ii a1, .ii a3, .ii a0, .sl 1 (eraseR e1), .sl 17 (eraseR f5)]] (.bool true) := by subst c7 d1 e5 f3 g0 e0 e9 f9 g4 g8; simp only [erR_Int, erR_Seg, erR_Session, erR_String, erR_Write]; exact r_laws_eqServer A hA (⟨⟨⟨⟨a4, a6⟩, a5, a7, a2, a1, a3, a0⟩, a9⟩, b1⟩ : GServer) iaV
 refine dops_callV rfl rfl (by cbv) (by cbv) l9 (.inl trivial) ?_
 refine dz hA 1 ?_
 refine go_cond rfl (fun c29 => ?_) (fun c29 => ?_)
 ·
  exact no_t c29 (show (A.bnot true) = false from by subst hA; rfl)
 refine gk (gx hA 1 ?_)
 refine go_ret ⟨_, by cbv, ?_⟩
 show _ = (PV.bool true)
 rfl
end Go.Av
