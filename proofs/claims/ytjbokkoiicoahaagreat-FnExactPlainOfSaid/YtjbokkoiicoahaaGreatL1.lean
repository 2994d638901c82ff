/- Walks: the law of PlainOf. -/
import Derived.Test.YtjbokkoiicoahaaGreatJB
import Derived.Test.YtjbokkoiicoahaaGreatJC
import Derived.Test.YtjbokkoiicoahaaGreatV1
import Derived.Test.YtjbokkoiicoahaaGreatV2
import Derived.Test.YtjbokkoiicoahaaGreatV3
import Derived.Test.YtjbokkoiicoahaaGreatH1
namespace Go.Av
open Go Go.Proofs
set_option maxRecDepth 100000
set_option maxHeartbeats 4000000
set_option linter.unusedVariables false
set_option linter.unusedSimpArgs false
theorem r_laws_FnExactPlainOf (A : Alg) (hA : A = std) (aV : GServer) (haV : ∀ k ∈ zsServer aV, (k : Int) ≤ 9223372036854775807) : Real Tryz.prog 6 [.agg (eServer aV)] (.bool true) := by
 obtain ⟨⟨⟨⟨a2, a5⟩, a7, a1, a3, a4, a6, a0⟩, a9⟩, a8⟩ := aV
 obtain ⟨b3, b0⟩ := nm (a2.map eString)
 have j1 := rlen_map hA b0
 obtain ⟨b5, b1⟩ := nm (a5.map eWrite)
 have j5 := rlen_map hA b1
 obtain ⟨c7, b6⟩ := nm (a1.map eSeg)
 have k4 := rlen_map hA b6
 obtain ⟨d3, c2⟩ := nm (a9.map eInt)
 have l6 := rlen_map hA c2
 obtain ⟨e4, d4⟩ := nm (a8.map eSession)
 have m4 := rlen_map hA d4
 refine real_args (args' := [.agg [.sl 1 b3, .sl 2 b5, .ii a7, .sl 4 c7, .ii a3, .ii a4, .ii a6, .ii a0, .sl 1 d3, .sl 17 e4]]) (by subst b0 b1 b6 c2 d4; rfl) ?_
 refine real tyOk Tryz.func6 (by kernel_rfl) (afun_of rfl ?_)
 refine gx hA 2 ?_
 refine gx hA 1 ?_
 refine gs (gr (rn hA 2 ?_))
 obtain ⟨i3, j6, hc2⟩ : ∃ (i3 : Int), i3 = (chain 1048576 (zsServer (⟨⟨⟨⟨a2, a5⟩, a7, a1, a3, a4, a6, a0⟩, a9⟩, a8⟩ : GServer))) ∧ Real Tryz.prog 7 [.agg [.sl 1 b3, .sl 2 b5, .ii a7, .sl 4 c7, .ii a3, .ii a4, .ii a6, .ii a0, .sl 1 d3, .sl 17 e4], .ii 1048576] (.ii i3) := ⟨_, rfl, by subst b0 b1 b6 c2 d4; exact r_laws_szServer A hA (⟨⟨⟨⟨a2, a5⟩, a7, a1, a3, a4, a6, a0⟩, a9⟩, a8⟩ : GServer) 1048576 (by omega) (by omega) haV⟩
 refine ops_callV rfl rfl (by cbv) (by cbv) hc2 (.inr rfl) (by cbv) ?_
 have p1 := chain_bd j6 (by omega)
 refine rz hA 1 ?_
 refine gs (gx hA 2 ?_)
 refine go_cond rfl (fun c3 => ?_) (fun c3 => ?_)
 ·
  have ec3 : i3 < 0 := lss_t hA c3
  refine gx hA 1 ?_
  refine go_ret ⟨_, by cbv, ?_⟩
  show _ = (PV.bool true)
  rfl
 have ec3 : 0 ≤ i3 := lss_f hA c3
 refine gk (gs ?_)
 have jaV : ∀ k ∈ zsServer (⟨⟨⟨⟨a2, a5⟩, a7, a1, a3, a4, a6, a0⟩, a9⟩, a8⟩ : GServer), k ≤ 1048576 := fun k hk => by
  have := chain_all _ _ (show 0 ≤ chain _ _ from j6 ▸ (by omega : (0 : Int) ≤ i3)) k hk
  omega
 have saV : ((zsServer (⟨⟨⟨⟨a2, a5⟩, a7, a1, a3, a4, a6, a0⟩, a9⟩, a8⟩ : GServer)).sum : Int) ≤ 1048576 := chain_sum (show 0 ≤ chain _ _ from j6 ▸ (by omega : (0 : Int) ≤ i3))
 have iaV : ∀ k ∈ zsServer (⟨⟨⟨⟨a2, a5⟩, a7, a1, a3, a4, a6, a0⟩, a9⟩, a8⟩ : GServer), (k : Int) ≤ 4611686018427387904 := fun k hk => by have := jaV k hk; omega
 have hil : (itemsL a1).length ≤ 1048576 := items_sum (⟨⟨⟨⟨a2, a5⟩, a7, a1, a3, a4, a6, a0⟩, a9⟩, a8⟩ : GServer) saV
 have hus : ∀ q ∈ zsSegS a1, q ≤ 1048576 := fun q hq => jaV q (by simp only [zsServer, zsStore, zsLog, List.mem_append]; simp only [hq, true_or, or_true])
 have hss : ∀ q ∈ zsSessionS a8, q ≤ 1048576 := fun q hq => jaV q (by simp only [zsServer, List.mem_append]; simp only [hq, true_or, or_true])
 have iu := fun n => zs_pl hus hil hss n
 have r4 : 1 + cnServer (⟨⟨⟨⟨a2, a5⟩, a7, a1, a3, a4, a6, a0⟩, a9⟩, a8⟩ : GServer) ≤ 1099511627776 := by have := cnServer_les (⟨⟨⟨⟨a2, a5⟩, a7, a1, a3, a4, a6, a0⟩, a9⟩, a8⟩ : GServer); omega
 have r3 : cnBoxS (stateS (itemsL a1)).Boxes ≤ 140000 := cn_state _
 have r1 : cnSessionS a8 ≤ 20971520 := by
  have h1 := cnSessionS_les a8
  have h2 : (zsSessionS a8).sum ≤ (zsServer (⟨⟨⟨⟨a2, a5⟩, a7, a1, a3, a4, a6, a0⟩, a9⟩, a8⟩ : GServer)).sum := by
   simp only [zsServer, List.sum_append]; omega
  omega
 refine gr (rn hA 1 ?_)
 obtain ⟨c0, c8, e0, f3, g2, f2, f6, g6, g9, i2, hc5⟩ : ∃ (c0 : RR) (c8 : RR) (e0 : RR) (f3 : RR) (g2 : RR), c0 = List.map eString a2 ∧ c8 = List.map eoWrite a5 ∧ e0 = List.map eoSeg a1 ∧ f3 = List.map eInt a9 ∧ g2 = List.map eoSession a8 ∧ Real Tryz.prog 9 [.agg [.sl 1 b3, .sl 2 b5, .ii a7, .sl 4 c7, .ii a3, .ii a4, .ii a6, .ii a0, .sl 1 d3, .sl 17 e4]] (.agg [.ow 1 c0, .ow 2 c8, .ii a7, .ow 4 e0, .ii a3, .ii a4, .ii a6, .ii a0, .ow 1 f3, .ow 17 g2]) := ⟨_, _, _, _, _, rfl, rfl, rfl, rfl, rfl, by subst b0 b1 b6 c2 d4; exact r_laws_toServer A hA (⟨⟨⟨⟨a2, a5⟩, a7, a1, a3, a4, a6, a0⟩, a9⟩, a8⟩ : GServer) jaV⟩
 have i8 := rlen_map hA f2
 have j3 := rlen_map hA f6
 have k2 := rlen_map hA g6
 have l4 := rlen_map hA g9
 have m2 := rlen_map hA i2
 refine ops_callV rfl rfl (by cbv) (by cbv) hc5 (.inr rfl) (by cbv) ?_
 obtain ⟨d0, e2, d5, f0, hc7⟩ : ∃ (d0 : RR) (e2 : RR), d0 = List.map eoBox ((stateS (itemsL a1)).Boxes) ∧ e2 = List.map eoSession a8 ∧ Real Tryz.prog 21 [.agg [.sl 1 (eraseR c0), .sl 2 (eraseR c8), .ii a7, .sl 4 (eraseR e0), .ii a3, .ii a4, .ii a6, .ii a0, .sl 1 (eraseR f3), .sl 17 (eraseR g2)]] (.agg [.ow 5 d0, .ii a0, .ow 17 e2]) := ⟨_, _, rfl, rfl, by subst f2 f6 g6 g9 i2; simp only [erR_Int, erR_Seg, erR_Session, erR_String, erR_Write]; exact r_spec_PlainOf A hA (⟨⟨⟨⟨a2, a5⟩, a7, a1, a3, a4, a6, a0⟩, a9⟩, a8⟩ : GServer) (by assumption) hil⟩
 have l3 := rlen_map hA d5
 have m1 := rlen_map hA f0
 refine ops_callV rfl rfl (by cbv) (by cbv) hc7 (.inl (by simp only [fresh, freshL, d5, f0, frR_Box, frR_Session, and_self])) (by cbv) ?_
 refine rz hA 2 ?_
 refine gs (gr (rn hA 1 ?_))
 obtain ⟨b2, b4, c1, d1, e1, b7, c5, d6, e7, g1, hc9⟩ : ∃ (b2 : RR) (b4 : RR) (c1 : RR) (d1 : RR) (e1 : RR), b2 = List.map eString a2 ∧ b4 = List.map eoWrite a5 ∧ c1 = List.map eoSeg a1 ∧ d1 = List.map eInt a9 ∧ e1 = List.map eoSession a8 ∧ Real Tryz.prog 9 [.agg [.sl 1 b3, .sl 2 b5, .ii a7, .sl 4 c7, .ii a3, .ii a4, .ii a6, .ii a0, .sl 1 d3, .sl 17 e4]] (.agg [.ow 1 b2, .ow 2 b4, .ii a7, .ow 4 c1, .ii a3, .ii a4, .ii a6, .ii a0, .ow 1 d1, .ow 17 e1]) := ⟨_, _, _, _, _, rfl, rfl, rfl, rfl, rfl, by subst b0 b1 b6 c2 d4; exact r_laws_toServer A hA (⟨⟨⟨⟨a2, a5⟩, a7, a1, a3, a4, a6, a0⟩, a9⟩, a8⟩ : GServer) jaV⟩
 have i9 := rlen_map hA b7
 have j4 := rlen_map hA c5
 have k1 := rlen_map hA d6
 have l5 := rlen_map hA e7
 have m3 := rlen_map hA g1
 refine ops_callV rfl rfl (by cbv) (by cbv) hc9 (.inr rfl) (by cbv) ?_
 refine rz hA 2 ?_
 refine gs (gr (rn hA 1 ?_))
 obtain ⟨c9, d9, d2, e3, o5⟩ : ∃ (c9 : RR) (d9 : RR), c9 = List.map eoBox ((stateS (itemsL a1)).Boxes) ∧ d9 = List.map eoSession a8 ∧ Real Tryz.prog 22 [.agg [.sl 1 (eraseR b2), .sl 2 (eraseR b4), .ii a7, .sl 4 (eraseR c1), .ii a3, .ii a4, .ii a6, .ii a0, .sl 1 (eraseR d1), .sl 17 (eraseR e1)]] (.agg [.ow 5 c9, .ii a0, .ow 17 d9]) := ⟨_, _, rfl, rfl, by subst b7 c5 d6 e7 g1; simp only [erR_Int, erR_Seg, erR_Session, erR_String, erR_Write]; exact r_impl_PlainOf A hA (⟨⟨⟨⟨a2, a5⟩, a7, a1, a3, a4, a6, a0⟩, a9⟩, a8⟩ : GServer) (by assumption) hil⟩
 have l2 := rlen_map hA d2
 have l9 := rlen_map hA e3
 refine ops_callV rfl rfl (by cbv) (by cbv) o5 (.inl (by simp only [fresh, freshL, d2, e3, frR_Box, frR_Session, and_self])) (by cbv) ?_
 refine rz hA 2 ?_
 refine gs (gs (gr (rn hA 2 ?_)))
 have n9 : Real Tryz.prog 20 [.agg [.sl 5 (eraseR c9), .ii a0, .sl 17 (eraseR d9)], .agg [.sl 5 (eraseR d0), .ii a0, .sl 17 (eraseR e2)]] (.bool true) := by subst d2 e3 d5 f0; simp only [erR_Box, erR_Session]; exact r_laws_eqPlain A hA (⟨⟨(stateS (itemsL a1)).Boxes⟩, a0, a8⟩ : GPlain) (iu _)
 refine ops_callV rfl rfl (by cbv) (by cbv) n9 (.inl trivial) (by cbv) ?_
 refine rz hA 1 ?_
 refine go_cond rfl (fun c14 => ?_) (fun c14 => ?_)
 ·
  exact no_t c14 (show (A.bnot true) = false from by subst hA; rfl)
 refine gk (gs (gs ?_))
 refine go_draw [0, 1, 2, 3, 4] (by cbv) ?_
 refine dn_ hA 2 ?_
 obtain ⟨b9, c4, d7, e8, g0, e6, f5, g4, g7, i0, o2⟩ : ∃ (b9 : RR) (c4 : RR) (d7 : RR) (e8 : RR) (g0 : RR), b9 = List.map eString a2 ∧ c4 = List.map eoWrite a5 ∧ d7 = List.map eoSeg a1 ∧ e8 = List.map eInt a9 ∧ g0 = List.map eoSession a8 ∧ Real Tryz.prog 9 [.agg [.sl 1 b3, .sl 2 b5, .ii a7, .sl 4 c7, .ii a3, .ii a4, .ii a6, .ii a0, .sl 1 d3, .sl 17 e4]] (.agg [.ow 1 b9, .ow 2 c4, .ii a7, .ow 4 d7, .ii a3, .ii a4, .ii a6, .ii a0, .ow 1 e8, .ow 17 g0]) := ⟨_, _, _, _, _, rfl, rfl, rfl, rfl, rfl, by subst b0 b1 b6 c2 d4; exact r_laws_toServer A hA (⟨⟨⟨⟨a2, a5⟩, a7, a1, a3, a4, a6, a0⟩, a9⟩, a8⟩ : GServer) jaV⟩
 have i5 := rlen_map hA e6
 have j2 := rlen_map hA f5
 have k0 := rlen_map hA g4
 have l0 := rlen_map hA g7
 have m0 := rlen_map hA i0
 refine dops_callV rfl rfl (by cbv) (by cbv) o2 (.inr rfl) ?_
 have p0 : Real Tryz.prog 11 [.agg [.sl 1 (eraseR b2), .sl 2 (eraseR b4), .ii a7, .sl 4 (eraseR c1), .ii a3, .ii a4, .ii a6, .ii a0, .sl 1 (eraseR d1), .sl 17 (eraseR e1)], .agg [.sl 1 (eraseR b9), .sl 2 (eraseR c4), .ii a7, .sl 4 (eraseR d7), .ii a3, .ii a4, .ii a6, .ii a0, .sl 1 (eraseR e8), .sl 17 (eraseR g0)]] (.bool true) := by subst b7 c5 d6 e7 g1 e6 f5 g4 g7 i0; simp only [erR_Int, erR_Seg, erR_Session, erR_String, erR_Write]; exact r_laws_eqServer A hA (⟨⟨⟨⟨a2, a5⟩, a7, a1, a3, a4, a6, a0⟩, a9⟩, a8⟩ : GServer) iaV
 refine dops_callV rfl rfl (by cbv) (by cbv) p0 (.inl trivial) ?_
 refine dz hA 1 ?_
 refine go_cond rfl (fun c19 => ?_) (fun c19 => ?_)
 ·
  exact no_t c19 (show (A.bnot true) = false from by subst hA; rfl)
 refine gk (gx hA 1 ?_)
 refine gs (gr (rn hA 2 ?_))
 have q3 : cnServer (⟨⟨⟨⟨a2, a5⟩, a7, a1, a3, a4, a6, a0⟩, a9⟩, a8⟩ : GServer) = cnStringS a2 + cnWriteS a5 + cnSegS a1 + cnIntS a9 + cnSessionS a8 := rfl
 obtain ⟨k3, k5, k8, k6, k7, m20, n1, n0, m8, n2, m6, r0, n4⟩ : ∃ (k3 : RR) (k5 : RR) (k8 : RR) (k6 : RR) (k7 : RR) (m20 : Int), k3 = List.map eString (mkStringS (1) a2) ∧ k5 = List.map eoWrite (mkWriteS (1 + cnStringS a2) a5) ∧ k8 = List.map eoSeg (mkSegS (1 + cnStringS a2 + cnWriteS a5) a1) ∧ k6 = List.map eInt (mkIntS (1 + cnStringS a2 + cnWriteS a5 + cnSegS a1) a9) ∧ k7 = List.map eoSession (mkSessionS (1 + cnStringS a2 + cnWriteS a5 + cnSegS a1 + cnIntS a9) a8) ∧ m20 = 1 + cnStringS a2 + cnWriteS a5 + cnSegS a1 + cnIntS a9 + cnSessionS a8 ∧ RealM Tryz.prog 12 [.agg [.ow 1 b2, .ow 2 b4, .ii a7, .ow 4 c1, .ii a3, .ii a4, .ii a6, .ii a0, .ow 1 d1, .ow 17 e1], .ii 1] [.agg [.ow 1 k3, .ow 2 k5, .ii a7, .ow 4 k8, .ii a3, .ii a4, .ii a6, .ii a0, .ow 1 k6, .ow 17 k7], .ii 1] (.ii m20) := ⟨_, _, _, _, _, _, rfl, rfl, rfl, rfl, rfl, rfl, by subst b7 c5 d6 e7 g1; exact m_laws_markServer A hA (⟨⟨⟨⟨a2, a5⟩, a7, a1, a3, a4, a6, a0⟩, a9⟩, a8⟩ : GServer) 1 (by omega) (by omega)⟩
 have p7 := rlen_map hA n1
 have p2 := rlen_map hA n0
 have p8 := rlen_map hA m8
 have p6 := rlen_map hA n2
 have p4 := rlen_map hA m6
 have q9 := cnStringS_nn a2
 have p9 := cnWriteS_nn a5
 have q7 := cnSegS_nn a1
 have q2 := cnIntS_nn a9
 have q4 := cnSessionS_nn a8
 have o8 : 0 ≤ m20 := by omega
 refine ops_callM rfl (by cbv) (by cbv) (by cbv) n4 rfl (by cbv) ?_
 refine rz hA 1 ?_
 refine gs (gs (gr (rn hA 3 ?_)))
 refine ops_split 37 rfl (fun c26 => ?_) (fun c26 => ?_)
 ·
  have m9 : m20 < 0 := lss_t hA c26
  exact absurd m9 (Int.not_lt.2 o8)
 have m9 : 0 ≤ m20 := lss_f hA c26
 refine rn hA 2 ?_
 have o9 : Real Tryz.prog 20 [.agg [.sl 5 (eraseR c9), .ii a0, .sl 17 (eraseR d9)], .agg [.sl 5 (eraseR d0), .ii a0, .sl 17 (eraseR e2)]] (.bool true) := by subst d2 e3 d5 f0; simp only [erR_Box, erR_Session]; exact r_laws_eqPlain A hA (⟨⟨(stateS (itemsL a1)).Boxes⟩, a0, a8⟩ : GPlain) (iu _)
 refine ops_callG rfl rfl rfl rfl (by cbv) (by cbv) o9 (.inl trivial) (by cbv) ?_
 refine rz hA 2 ?_
 refine go_cond rfl (fun c29 => ?_) (fun c29 => ?_)
 ·
  exact no_t c29 (show (A.bnot true) = false from by subst hA; rfl)
 refine gk (gx hA 1 ?_)
 refine gs (gr (rn hA 2 ?_))
 have q8 : cnPlain (⟨⟨(stateS (itemsL a1)).Boxes⟩, a0, a8⟩ : GPlain) = cnBoxS ((stateS (itemsL a1)).Boxes) + cnSessionS a8 := rfl
 obtain ⟨i7, i4, m30, j8, j7, m5, n5⟩ : ∃ (i7 : RR) (i4 : RR) (m30 : Int), i7 = List.map eoBox (mkBoxS (1) ((stateS (itemsL a1)).Boxes)) ∧ i4 = List.map eoSession (mkSessionS (1 + cnBoxS ((stateS (itemsL a1)).Boxes)) a8) ∧ m30 = 1 + cnBoxS ((stateS (itemsL a1)).Boxes) + cnSessionS a8 ∧ RealM Tryz.prog 23 [.agg [.ow 5 c9, .ii a0, .ow 17 d9], .ii 1] [.agg [.ow 5 i7, .ii a0, .ow 17 i4], .ii 1] (.ii m30) := ⟨_, _, _, rfl, rfl, rfl, by subst d2 e3; exact m_laws_markPlain A hA (⟨⟨(stateS (itemsL a1)).Boxes⟩, a0, a8⟩ : GPlain) 1 (by omega) (by omega)⟩
 have p5 := rlen_map hA j8
 have p3 := rlen_map hA j7
 have q0 := cnBoxS_nn ((stateS (itemsL a1)).Boxes)
 have q6 := cnSessionS_nn a8
 have r2 : 0 ≤ m30 := by omega
 refine ops_callM rfl (by cbv) (by cbv) (by cbv) n5 rfl (by cbv) ?_
 refine rz hA 1 ?_
 refine gx hA 1 ?_
 refine gs (gr (rn hA 2 ?_))
 have q1 : cnPlain (⟨⟨((stateS (itemsL a1)).Boxes)⟩, a0, a8⟩ : GPlain) = cnBoxS ((stateS (itemsL a1)).Boxes) + cnSessionS a8 := rfl
 obtain ⟨q33, o6, n6⟩ : ∃ q : Int, q = 1 + cnBoxS ((stateS (itemsL a1)).Boxes) + cnSessionS a8 ∧ Real Tryz.prog 24 [.agg [.sl 5 (eraseR i7), .ii a0, .sl 17 (eraseR i4)], .ii 1] (.ii q) := ⟨_, rfl, by
  subst j8 j7; simp only [erR_Box, erR_Session]; exact r_laws_heldPlain A hA (⟨⟨((stateS (itemsL a1)).Boxes)⟩, a0, a8⟩ : GPlain) 1 (by omega) (by omega)⟩
 have o3 : 0 ≤ q33 := by omega
 refine ops_callV rfl rfl (by cbv) (by cbv) n6 (.inl trivial) (by cbv) ?_
 refine rz hA 1 ?_
 refine gs (gx hA 2 ?_)
 refine go_cond rfl (fun c35 => ?_) (fun c35 => ?_)
 ·
  have n3 : q33 < 0 := lss_t hA c35
  exact absurd n3 (Int.not_lt.2 o3)
 have n3 : 0 ≤ q33 := lss_f hA c35
 refine gk (gs (gx hA 3 ?_))
 refine go_cond rfl (fun c36 => ?_) (fun c36 => ?_)
 ·
  exact no_t c36 (show (A.cmp .neq q33 m30) = false from by subst hA; simp [std, o6, m5])
 refine gk (gs (gr (rn hA 1 ?_)))
 obtain ⟨b8, c6, d8, f1, f9, e5, f4, g3, g8, i1, n7⟩ : ∃ (b8 : RR) (c6 : RR) (d8 : RR) (f1 : RR) (f9 : RR), b8 = List.map eString a2 ∧ c6 = List.map eoWrite a5 ∧ d8 = List.map eoSeg a1 ∧ f1 = List.map eInt a9 ∧ f9 = List.map eoSession a8 ∧ Real Tryz.prog 9 [.agg [.sl 1 b3, .sl 2 b5, .ii a7, .sl 4 c7, .ii a3, .ii a4, .ii a6, .ii a0, .sl 1 d3, .sl 17 e4]] (.agg [.ow 1 b8, .ow 2 c6, .ii a7, .ow 4 d8, .ii a3, .ii a4, .ii a6, .ii a0, .ow 1 f1, .ow 17 f9]) := ⟨_, _, _, _, _, rfl, rfl, rfl, rfl, rfl, by subst b0 b1 b6 c2 d4; exact r_laws_toServer A hA (⟨⟨⟨⟨a2, a5⟩, a7, a1, a3, a4, a6, a0⟩, a9⟩, a8⟩ : GServer) jaV⟩
 have i6 := rlen_map hA e5
 have j0 := rlen_map hA f4
 have j9 := rlen_map hA g3
 have k9 := rlen_map hA g8
 have l7 := rlen_map hA i1
 refine ops_callV rfl rfl (by cbv) (by cbv) n7 (.inr rfl) (by cbv) ?_
 obtain ⟨e9, f8, f7, g5, o7⟩ : ∃ (e9 : RR) (f8 : RR), e9 = List.map eoBox ((stateS (itemsL a1)).Boxes) ∧ f8 = List.map eoSession a8 ∧ Real Tryz.prog 22 [.agg [.sl 1 (eraseR b8), .sl 2 (eraseR c6), .ii a7, .sl 4 (eraseR d8), .ii a3, .ii a4, .ii a6, .ii a0, .sl 1 (eraseR f1), .sl 17 (eraseR f9)]] (.agg [.ow 5 e9, .ii a0, .ow 17 f8]) := ⟨_, _, rfl, rfl, by subst e5 f4 g3 g8 i1; simp only [erR_Int, erR_Seg, erR_Session, erR_String, erR_Write]; exact r_impl_PlainOf A hA (⟨⟨⟨⟨a2, a5⟩, a7, a1, a3, a4, a6, a0⟩, a9⟩, a8⟩ : GServer) (by assumption) hil⟩
 have l1 := rlen_map hA f7
 have l8 := rlen_map hA g5
 refine ops_callV rfl rfl (by cbv) (by cbv) o7 (.inl (by simp only [fresh, freshL, f7, g5, frR_Box, frR_Session, and_self])) (by cbv) ?_
 refine rz hA 2 ?_
 refine gs (gs (gr (rn hA 2 ?_)))
 have o1 : Real Tryz.prog 20 [.agg [.sl 5 (eraseR e9), .ii a0, .sl 17 (eraseR f8)], .agg [.sl 5 (eraseR d0), .ii a0, .sl 17 (eraseR e2)]] (.bool true) := by subst f7 g5 d5 f0; simp only [erR_Box, erR_Session]; exact r_laws_eqPlain A hA (⟨⟨(stateS (itemsL a1)).Boxes⟩, a0, a8⟩ : GPlain) (iu _)
 refine ops_callV rfl rfl (by cbv) (by cbv) o1 (.inl trivial) (by cbv) ?_
 refine rz hA 1 ?_
 refine go_cond rfl (fun c43 => ?_) (fun c43 => ?_)
 ·
  exact no_t c43 (show (A.bnot true) = false from by subst hA; rfl)
 refine gk (gx hA 1 ?_)
 refine gs (gr (rn hA 2 ?_))
 have q5 : cnPlain (⟨⟨((stateS (itemsL a1)).Boxes)⟩, a0, a8⟩ : GPlain) = cnBoxS ((stateS (itemsL a1)).Boxes) + cnSessionS a8 := rfl
 obtain ⟨q44, o4, o0⟩ : ∃ q : Int, q = 1 + cnBoxS ((stateS (itemsL a1)).Boxes) + cnSessionS a8 ∧ Real Tryz.prog 24 [.agg [.sl 5 (eraseR i7), .ii a0, .sl 17 (eraseR i4)], .ii 1] (.ii q) := ⟨_, rfl, by
  subst j8 j7; simp only [erR_Box, erR_Session]; exact r_laws_heldPlain A hA (⟨⟨((stateS (itemsL a1)).Boxes)⟩, a0, a8⟩ : GPlain) 1 (by omega) (by omega)⟩
 have n8 : 0 ≤ q44 := by omega
 refine ops_callV rfl rfl (by cbv) (by cbv) o0 (.inl trivial) (by cbv) ?_
 refine rz hA 1 ?_
 refine gs (gx hA 2 ?_)
 refine go_cond rfl (fun c46 => ?_) (fun c46 => ?_)
 ·
  have m7 : q44 < 0 := lss_t hA c46
  exact absurd m7 (Int.not_lt.2 n8)
 have m7 : 0 ≤ q44 := lss_f hA c46
 refine gk (gs (gx hA 3 ?_))
 refine go_cond rfl (fun c47 => ?_) (fun c47 => ?_)
 ·
  exact no_t c47 (show (A.cmp .neq q44 m30) = false from by subst hA; simp [std, o4, m5])
 refine gk (gx hA 1 ?_)
 refine go_ret ⟨_, by cbv, ?_⟩
 show _ = (PV.bool true)
 rfl
end Go.Av
