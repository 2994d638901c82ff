/- Walks: the law of OpenAt. -/
import Derived.Test.YtjbokkoiicoahaaGreatL0
import Derived.Test.YtjbokkoiicoahaaGreatF3
import Derived.Test.YtjbokkoiicoahaaGreatV1
import Derived.Test.YtjbokkoiicoahaaGreatV2
import Derived.Test.YtjbokkoiicoahaaGreatV3
import Derived.Test.YtjbokkoiicoahaaGreatM3
import Derived.Test.YtjbokkoiicoahaaGreatH1
namespace Go.Av
open Go Go.Proofs
set_option maxRecDepth 100000
set_option maxHeartbeats 4000000
set_option linter.unusedVariables false
set_option linter.unusedSimpArgs false
theorem r_laws_FnExactOpenAt (A : Alg) (hA : A = std) (aV : GServer) (aKind : Int) (haV : ∀ k ∈ zsServer aV, (k : Int) ≤ 9223372036854775807) : Real Tryz.prog 4 [.agg (eServer aV), .int .i64 aKind] (.bool true) := by
 obtain ⟨⟨⟨⟨a0, a2⟩, a6, a7, a4, a3, a5, a1⟩, a8⟩, a9⟩ := aV
 obtain ⟨b8, b0⟩ := nm (a0.map eString)
 have m3 := rlen_map hA b0
 obtain ⟨c2, b3⟩ := nm (a2.map eWrite)
 have m8 := rlen_map hA b3
 obtain ⟨e3, c6⟩ := nm (a7.map eSeg)
 have p0 := rlen_map hA c6
 obtain ⟨f4, d8⟩ := nm (a8.map eInt)
 have p8 := rlen_map hA d8
 obtain ⟨g4, f3⟩ := nm (a9.map eSession)
 have q3 := rlen_map hA f3
 refine real_args (args' := [.agg [.sl 1 b8, .sl 2 c2, .int .i64 a6, .sl 4 e3, .int .i64 a4, .int .i64 a3, .int .i64 a5, .int .i64 a1, .sl 1 f4, .sl 17 g4], .int .i64 aKind]) (by subst b0 b3 c6 d8 f3; rfl) ?_
 refine real tyOk Tryz.func4 (by kernel_rfl) (afun_of rfl ?_)
 refine gs (gr (ra hA 2 (by cbv) (od ?_)))
 refine gs (gr (ra hA 1 (by cbv) (od ?_)))
 refine gs (gr (ra hA 2 (by cbv) ?_))
 obtain ⟨k4, n0, hc2⟩ : ∃ (k4 : Int), k4 = (chain 1048576 (zsServer (⟨⟨⟨⟨a0, a2⟩, a6, a7, a4, a3, a5, a1⟩, a8⟩, a9⟩ : GServer))) ∧ Real Tryz.prog 7 [.agg [.sl 1 b8, .sl 2 c2, .int .i64 a6, .sl 4 e3, .int .i64 a4, .int .i64 a3, .int .i64 a5, .int .i64 a1, .sl 1 f4, .sl 17 g4], .int .i64 1048576] (.int .i64 k4) := ⟨_, rfl, by subst b0 b3 c6 d8 f3; exact r_laws_szServer A hA (⟨⟨⟨⟨a0, a2⟩, a6, a7, a4, a3, a5, a1⟩, a8⟩, a9⟩ : GServer) 1048576 (by omega) (by omega) haV⟩
 refine ops_callV rfl rfl (by cbv) (by cbv) hc2 (.inr rfl) (by cbv) ?_
 have t5 := chain_bd n0 (by omega)
 refine ra hA 1 (by cbv) (od ?_)
 refine gs (gs (gr (ra hA 2 (by cbv) (od ?_))))
 refine go_cond rfl (fun c3 => ?_) (fun c3 => ?_)
 ·
  have ec3 : k4 < 0 := lss_t hA c3
  refine gs (gr (ra hA 1 (by cbv) (od ?_)))
  refine go_ret ⟨_, by cbv, ?_⟩
  show _ = (PV.bool true)
  rfl
 ·
  have ec3 : 0 ≤ k4 := lss_f hA c3
  refine gk (gs ?_)
  have jaV : ∀ k ∈ zsServer (⟨⟨⟨⟨a0, a2⟩, a6, a7, a4, a3, a5, a1⟩, a8⟩, a9⟩ : GServer), k ≤ 1048576 := fun k hk => by
   have := chain_all _ _ (show 0 ≤ chain _ _ from n0 ▸ (by omega : (0 : Int) ≤ k4)) k hk
   omega
  have saV : ((zsServer (⟨⟨⟨⟨a0, a2⟩, a6, a7, a4, a3, a5, a1⟩, a8⟩, a9⟩ : GServer)).sum : Int) ≤ 1048576 := chain_sum (show 0 ≤ chain _ _ from n0 ▸ (by omega : (0 : Int) ≤ k4))
  have iaV : ∀ k ∈ zsServer (⟨⟨⟨⟨a0, a2⟩, a6, a7, a4, a3, a5, a1⟩, a8⟩, a9⟩ : GServer), (k : Int) ≤ 4611686018427387904 := fun k hk => by have := jaV k hk; omega
  have v7 : 1 + cnServer (⟨⟨⟨⟨a0, a2⟩, a6, a7, a4, a3, a5, a1⟩, a8⟩, a9⟩ : GServer) ≤ 1099511627776 := by have := cnServer_les (⟨⟨⟨⟨a0, a2⟩, a6, a7, a4, a3, a5, a1⟩, a8⟩, a9⟩ : GServer); omega
  have v5 : 1 + cnServer (⟨⟨⟨⟨a0, a2⟩, a6, a7, a4, a3, a5, a1⟩, a8⟩, openL a9 aKind⟩ : GServer) ≤ 1099511627776 := by rw [cnV_ss _ a9]; have := cnS_open a9 aKind; have := cnServer_les (⟨⟨⟨⟨a0, a2⟩, a6, a7, a4, a3, a5, a1⟩, a8⟩, a9⟩ : GServer); omega
  have iu : ∀ q ∈ zsServer (⟨⟨⟨⟨a0, a2⟩, a6, a7, a4, a3, a5, a1⟩, a8⟩, openL a9 aKind⟩ : GServer), (q : Int) ≤ 4611686018427387904 := zsV_ss iaV (zsS_open fun q hq => jaV q (by simp only [zsServer, List.mem_append]; simp only [hq, true_or, or_true]))
  refine gr (ra hA 1 (by cbv) ?_)
  obtain ⟨d6, e4, g1, i2, j1, i0, i6, j4, j7, k2, hc5⟩ : ∃ (d6 : RR) (e4 : RR) (g1 : RR) (i2 : RR) (j1 : RR), d6 = List.map eString a0 ∧ e4 = List.map eoWrite a2 ∧ g1 = List.map eoSeg a7 ∧ i2 = List.map eInt a8 ∧ j1 = List.map eoSession a9 ∧ Real Tryz.prog 9 [.agg [.sl 1 b8, .sl 2 c2, .int .i64 a6, .sl 4 e3, .int .i64 a4, .int .i64 a3, .int .i64 a5, .int .i64 a1, .sl 1 f4, .sl 17 g4]] (.agg [.ow 1 d6, .ow 2 e4, .int .i64 a6, .ow 4 g1, .int .i64 a4, .int .i64 a3, .int .i64 a5, .int .i64 a1, .ow 1 i2, .ow 17 j1]) := ⟨_, _, _, _, _, rfl, rfl, rfl, rfl, rfl, by subst b0 b3 c6 d8 f3; exact r_laws_toServer A hA (⟨⟨⟨⟨a0, a2⟩, a6, a7, a4, a3, a5, a1⟩, a8⟩, a9⟩ : GServer) jaV⟩
  have l9 := rlen_map hA i0
  have m6 := rlen_map hA i6
  have o0 := rlen_map hA j4
  have p3 := rlen_map hA j7
  have q2 := rlen_map hA k2
  refine ops_callV rfl rfl (by cbv) (by cbv) hc5 (.inr rfl) (by cbv) ?_
  refine ra hA 1 (by cbv) ?_
  obtain ⟨b2, b5, c8, e2, f2, j8, b9, c4, d7, e7, f9, k3, hc7⟩ : ∃ (b2 : RR) (b5 : RR) (c8 : RR) (e2 : RR) (f2 : RR) (j8 : Bool), b2 = List.map eString a0 ∧ b5 = List.map eoWrite a2 ∧ c8 = List.map eoSeg a7 ∧ e2 = List.map eInt a8 ∧ f2 = List.map eoSession (openL a9 aKind) ∧ j8 = (openB a9 aKind) ∧ Real Tryz.prog 14 [.agg [.sl 1 (eraseR d6), .sl 2 (eraseR e4), .int .i64 a6, .sl 4 (eraseR g1), .int .i64 a4, .int .i64 a3, .int .i64 a5, .int .i64 a1, .sl 1 (eraseR i2), .sl 17 (eraseR j1)], .int .i64 aKind] (.tup [.agg [.ow 1 b2, .ow 2 b5, .int .i64 a6, .ow 4 c8, .int .i64 a4, .int .i64 a3, .int .i64 a5, .int .i64 a1, .ow 1 e2, .ow 17 f2], .bool j8]) := ⟨_, _, _, _, _, _, rfl, rfl, rfl, rfl, rfl, rfl, by subst i0 i6 j4 j7 k2; simp only [erR_Int, erR_Seg, erR_Session, erR_String, erR_Write]; exact r_spec_OpenAt A hA (⟨⟨⟨⟨a0, a2⟩, a6, a7, a4, a3, a5, a1⟩, a8⟩, a9⟩ : GServer) aKind jaV⟩
  have k9 := rlen_map hA b9
  have m0 := rlen_map hA c4
  have n7 := rlen_map hA d7
  have o5 := rlen_map hA e7
  have p7 := rlen_map hA f9
  refine ops_callV rfl rfl (by cbv) (by cbv) hc7 (.inl (by simp only [fresh, freshL, b9, c4, d7, e7, f9, k3, frR_Int, frR_Seg, frR_Session, frR_String, frR_Write, and_self])) (by cbv) ?_
  refine ra hA 6 (by cbv) (od ?_)
  refine gs (gr (ra hA 1 (by cbv) ?_))
  obtain ⟨b6, c0, d4, e9, g2, d2, d9, f6, g6, i7, hc9⟩ : ∃ (b6 : RR) (c0 : RR) (d4 : RR) (e9 : RR) (g2 : RR), b6 = List.map eString a0 ∧ c0 = List.map eoWrite a2 ∧ d4 = List.map eoSeg a7 ∧ e9 = List.map eInt a8 ∧ g2 = List.map eoSession a9 ∧ Real Tryz.prog 9 [.agg [.sl 1 b8, .sl 2 c2, .int .i64 a6, .sl 4 e3, .int .i64 a4, .int .i64 a3, .int .i64 a5, .int .i64 a1, .sl 1 f4, .sl 17 g4]] (.agg [.ow 1 b6, .ow 2 c0, .int .i64 a6, .ow 4 d4, .int .i64 a4, .int .i64 a3, .int .i64 a5, .int .i64 a1, .ow 1 e9, .ow 17 g2]) := ⟨_, _, _, _, _, rfl, rfl, rfl, rfl, rfl, by subst b0 b3 c6 d8 f3; exact r_laws_toServer A hA (⟨⟨⟨⟨a0, a2⟩, a6, a7, a4, a3, a5, a1⟩, a8⟩, a9⟩ : GServer) jaV⟩
  have m1 := rlen_map hA d2
  have m5 := rlen_map hA d9
  have o2 := rlen_map hA f6
  have p5 := rlen_map hA g6
  have q1 := rlen_map hA i7
  refine ops_callV rfl rfl (by cbv) (by cbv) hc9 (.inr rfl) (by cbv) ?_
  refine ra hA 2 (by cbv) (od ?_)
  refine gs (gr (ra hA 2 (by cbv) ?_))
  obtain ⟨b1, b4, c5, d5, f0, k1, b7, c1, d3, e6, f5, k6, r7⟩ : ∃ (b1 : RR) (b4 : RR) (c5 : RR) (d5 : RR) (f0 : RR) (k1 : Bool), b1 = List.map eString a0 ∧ b4 = List.map eoWrite a2 ∧ c5 = List.map eoSeg a7 ∧ d5 = List.map eInt a8 ∧ f0 = List.map eoSession (openL a9 aKind) ∧ k1 = (openB a9 aKind) ∧ Real Tryz.prog 15 [.agg [.sl 1 (eraseR b6), .sl 2 (eraseR c0), .int .i64 a6, .sl 4 (eraseR d4), .int .i64 a4, .int .i64 a3, .int .i64 a5, .int .i64 a1, .sl 1 (eraseR e9), .sl 17 (eraseR g2)], .int .i64 aKind] (.tup [.agg [.ow 1 b1, .ow 2 b4, .int .i64 a6, .ow 4 c5, .int .i64 a4, .int .i64 a3, .int .i64 a5, .int .i64 a1, .ow 1 d5, .ow 17 f0], .bool k1]) := ⟨_, _, _, _, _, _, rfl, rfl, rfl, rfl, rfl, rfl, by subst d2 d9 f6 g6 i7; simp only [erR_Int, erR_Seg, erR_Session, erR_String, erR_Write]; exact r_impl_OpenAt A hA (⟨⟨⟨⟨a0, a2⟩, a6, a7, a4, a3, a5, a1⟩, a8⟩, a9⟩ : GServer) aKind jaV⟩
  have k8 := rlen_map hA b7
  have l1 := rlen_map hA c1
  have n2 := rlen_map hA d3
  have o3 := rlen_map hA e6
  have p4 := rlen_map hA f5
  refine ops_callV rfl rfl (by cbv) (by cbv) r7 (.inl (by simp only [fresh, freshL, b7, c1, d3, e6, f5, k6, frR_Int, frR_Seg, frR_Session, frR_String, frR_Write, and_self])) (by cbv) ?_
  refine ra hA 6 (by cbv) (od ?_)
  refine gs (gs (gr (ra hA 2 (by cbv) ?_)))
  have s9 : Real Tryz.prog 11 [.agg [.sl 1 (eraseR b1), .sl 2 (eraseR b4), .int .i64 a6, .sl 4 (eraseR c5), .int .i64 a4, .int .i64 a3, .int .i64 a5, .int .i64 a1, .sl 1 (eraseR d5), .sl 17 (eraseR f0)], .agg [.sl 1 (eraseR b2), .sl 2 (eraseR b5), .int .i64 a6, .sl 4 (eraseR c8), .int .i64 a4, .int .i64 a3, .int .i64 a5, .int .i64 a1, .sl 1 (eraseR e2), .sl 17 (eraseR f2)]] (.bool true) := by subst b7 c1 d3 e6 f5 b9 c4 d7 e7 f9; simp only [erR_Int, erR_Seg, erR_Session, erR_String, erR_Write]; exact r_laws_eqServer A hA (⟨⟨⟨⟨a0, a2⟩, a6, a7, a4, a3, a5, a1⟩, a8⟩, openL a9 aKind⟩ : GServer) iu
  refine ops_callV rfl rfl (by cbv) (by cbv) s9 (.inl trivial) (by cbv) ?_
  refine ra hA 2 (by cbv) ?_
  refine ops_split 40 rfl (fun c14 => ?_) (fun c14 => ?_)
  ·
   exact no_t c14 (show (A.bnot true) = false from by subst hA; rfl)
  ·
   have c15 : true = true := bnot_f hA c14
   refine ra hA 4 (by cbv) (od ?_)
   refine go_cond rfl (fun c16 => ?_) (fun c16 => ?_)
   ·
    exact no_t c16 (show (A.bnot (A.beq k1 j8)) = false from by subst hA; simp [std, k6, k3])
   ·
    refine gk (gs (gs ?_))
    refine go_draw (by cbv) ?_
    refine rd hA 2 (by cbv) ?_
    obtain ⟨d1, e0, f7, g8, i9, g7, i3, j3, j6, k0, r5⟩ : ∃ (d1 : RR) (e0 : RR) (f7 : RR) (g8 : RR) (i9 : RR), d1 = List.map eString a0 ∧ e0 = List.map eoWrite a2 ∧ f7 = List.map eoSeg a7 ∧ g8 = List.map eInt a8 ∧ i9 = List.map eoSession a9 ∧ Real Tryz.prog 9 [.agg [.sl 1 b8, .sl 2 c2, .int .i64 a6, .sl 4 e3, .int .i64 a4, .int .i64 a3, .int .i64 a5, .int .i64 a1, .sl 1 f4, .sl 17 g4]] (.agg [.ow 1 d1, .ow 2 e0, .int .i64 a6, .ow 4 f7, .int .i64 a4, .int .i64 a3, .int .i64 a5, .int .i64 a1, .ow 1 g8, .ow 17 i9]) := ⟨_, _, _, _, _, rfl, rfl, rfl, rfl, rfl, by subst b0 b3 c6 d8 f3; exact r_laws_toServer A hA (⟨⟨⟨⟨a0, a2⟩, a6, a7, a4, a3, a5, a1⟩, a8⟩, a9⟩ : GServer) jaV⟩
    have l0 := rlen_map hA g7
    have m2 := rlen_map hA i3
    have n8 := rlen_map hA j3
    have p1 := rlen_map hA j6
    have p9 := rlen_map hA k0
    refine dops_callV rfl rfl (by cbv) (by cbv) r5 (.inr rfl) ?_
    have r8 : Real Tryz.prog 11 [.agg [.sl 1 (eraseR b6), .sl 2 (eraseR c0), .int .i64 a6, .sl 4 (eraseR d4), .int .i64 a4, .int .i64 a3, .int .i64 a5, .int .i64 a1, .sl 1 (eraseR e9), .sl 17 (eraseR g2)], .agg [.sl 1 (eraseR d1), .sl 2 (eraseR e0), .int .i64 a6, .sl 4 (eraseR f7), .int .i64 a4, .int .i64 a3, .int .i64 a5, .int .i64 a1, .sl 1 (eraseR g8), .sl 17 (eraseR i9)]] (.bool true) := by subst d2 d9 f6 g6 i7 g7 i3 j3 j6 k0; simp only [erR_Int, erR_Seg, erR_Session, erR_String, erR_Write]; exact r_laws_eqServer A hA (⟨⟨⟨⟨a0, a2⟩, a6, a7, a4, a3, a5, a1⟩, a8⟩, a9⟩ : GServer) iaV
    refine dops_callV rfl rfl (by cbv) (by cbv) r8 (.inl trivial) ?_
    refine rd hA 1 (by cbv) (dd_ ?_)
    refine go_cond rfl (fun c21 => ?_) (fun c21 => ?_)
    ·
     exact no_t c21 (show (A.bnot true) = false from by subst hA; rfl)
    ·
     refine gk (gs (gr (ra hA 1 (by cbv) (od ?_))))
     refine gs (gr (ra hA 2 (by cbv) ?_))
     have u5 : cnServer (⟨⟨⟨⟨a0, a2⟩, a6, a7, a4, a3, a5, a1⟩, a8⟩, a9⟩ : GServer) = cnStringS a0 + cnWriteS a2 + cnSegS a7 + cnIntS a8 + cnSessionS a9 := rfl
     obtain ⟨o6, o9, o7, o4, o8, m22, q6, q7, q9, q5, r1, v8, r4⟩ : ∃ (o6 : RR) (o9 : RR) (o7 : RR) (o4 : RR) (o8 : RR) (m22 : Int), o6 = List.map eString (mkStringS (1) a0) ∧ o9 = List.map eoWrite (mkWriteS (1 + cnStringS a0) a2) ∧ o7 = List.map eoSeg (mkSegS (1 + cnStringS a0 + cnWriteS a2) a7) ∧ o4 = List.map eInt (mkIntS (1 + cnStringS a0 + cnWriteS a2 + cnSegS a7) a8) ∧ o8 = List.map eoSession (mkSessionS (1 + cnStringS a0 + cnWriteS a2 + cnSegS a7 + cnIntS a8) a9) ∧ m22 = 1 + cnStringS a0 + cnWriteS a2 + cnSegS a7 + cnIntS a8 + cnSessionS a9 ∧ RealM Tryz.prog 12 [.agg [.ow 1 b6, .ow 2 c0, .int .i64 a6, .ow 4 d4, .int .i64 a4, .int .i64 a3, .int .i64 a5, .int .i64 a1, .ow 1 e9, .ow 17 g2], .int .i64 1] [.agg [.ow 1 o6, .ow 2 o9, .int .i64 a6, .ow 4 o7, .int .i64 a4, .int .i64 a3, .int .i64 a5, .int .i64 a1, .ow 1 o4, .ow 17 o8], .int .i64 1] (.int .i64 m22) := ⟨_, _, _, _, _, _, rfl, rfl, rfl, rfl, rfl, rfl, by subst d2 d9 f6 g6 i7; exact m_laws_markServer A hA (⟨⟨⟨⟨a0, a2⟩, a6, a7, a4, a3, a5, a1⟩, a8⟩, a9⟩ : GServer) 1 (by omega) (by omega)⟩
     have t3 := rlen_map hA q6
     have t4 := rlen_map hA q7
     have t1 := rlen_map hA q9
     have u0 := rlen_map hA q5
     have t9 := rlen_map hA r1
     have v0 := cnStringS_nn a0
     have v2 := cnWriteS_nn a2
     have u9 := cnSegS_nn a7
     have u4 := cnIntS_nn a8
     have u8 := cnSessionS_nn a9
     have s7 : 0 ≤ m22 := by omega
     refine ops_callM rfl (by cbv) (by cbv) (by cbv) r4 rfl (by cbv) ?_
     refine ra hA 1 (by cbv) (od ?_)
     refine gs (gs (gr (ra hA 3 (by cbv) ?_)))
     refine ops_split 55 rfl (fun c28 => ?_) (fun c28 => ?_)
     ·
      have q4 : m22 < 0 := lss_t hA c28
      exact absurd q4 (Int.not_lt.2 s7)
     ·
      have q4 : 0 ≤ m22 := lss_f hA c28
      refine ra hA 2 (by cbv) ?_
      have s1 : Real Tryz.prog 11 [.agg [.sl 1 (eraseR b1), .sl 2 (eraseR b4), .int .i64 a6, .sl 4 (eraseR c5), .int .i64 a4, .int .i64 a3, .int .i64 a5, .int .i64 a1, .sl 1 (eraseR d5), .sl 17 (eraseR f0)], .agg [.sl 1 (eraseR b2), .sl 2 (eraseR b5), .int .i64 a6, .sl 4 (eraseR c8), .int .i64 a4, .int .i64 a3, .int .i64 a5, .int .i64 a1, .sl 1 (eraseR e2), .sl 17 (eraseR f2)]] (.bool true) := by subst b7 c1 d3 e6 f5 b9 c4 d7 e7 f9; simp only [erR_Int, erR_Seg, erR_Session, erR_String, erR_Write]; exact r_laws_eqServer A hA (⟨⟨⟨⟨a0, a2⟩, a6, a7, a4, a3, a5, a1⟩, a8⟩, openL a9 aKind⟩ : GServer) iu
      refine ops_callG rfl rfl rfl rfl (by cbv) (by cbv) s1 (.inl trivial) (by cbv) ?_
      refine ra hA 3 (by cbv) ?_
      refine ops_split 61 rfl (fun c31 => ?_) (fun c31 => ?_)
      ·
       exact no_t c31 (show (A.bnot true) = false from by subst hA; rfl)
      ·
       have c32 : true = true := bnot_f hA c31
       refine ra hA 4 (by cbv) (od ?_)
       refine go_cond rfl (fun c33 => ?_) (fun c33 => ?_)
       ·
        exact no_t c33 (show (A.bnot (A.beq k1 j8)) = false from by subst hA; simp [std, k6, k3])
       ·
        refine gk (gs (gr (ra hA 1 (by cbv) (od ?_))))
        refine gs (gr (ra hA 2 (by cbv) ?_))
        have u1 : cnServer (⟨⟨⟨⟨a0, a2⟩, a6, a7, a4, a3, a5, a1⟩, a8⟩, openL a9 aKind⟩ : GServer) = cnStringS a0 + cnWriteS a2 + cnSegS a7 + cnIntS a8 + cnSessionS (openL a9 aKind) := rfl
        obtain ⟨l4, l5, l7, l3, l6, m34, n5, n6, n3, n4, m9, q8, r3⟩ : ∃ (l4 : RR) (l5 : RR) (l7 : RR) (l3 : RR) (l6 : RR) (m34 : Int), l4 = List.map eString (mkStringS (1) a0) ∧ l5 = List.map eoWrite (mkWriteS (1 + cnStringS a0) a2) ∧ l7 = List.map eoSeg (mkSegS (1 + cnStringS a0 + cnWriteS a2) a7) ∧ l3 = List.map eInt (mkIntS (1 + cnStringS a0 + cnWriteS a2 + cnSegS a7) a8) ∧ l6 = List.map eoSession (mkSessionS (1 + cnStringS a0 + cnWriteS a2 + cnSegS a7 + cnIntS a8) (openL a9 aKind)) ∧ m34 = 1 + cnStringS a0 + cnWriteS a2 + cnSegS a7 + cnIntS a8 + cnSessionS (openL a9 aKind) ∧ RealM Tryz.prog 12 [.agg [.ow 1 b1, .ow 2 b4, .int .i64 a6, .ow 4 c5, .int .i64 a4, .int .i64 a3, .int .i64 a5, .int .i64 a1, .ow 1 d5, .ow 17 f0], .int .i64 1] [.agg [.ow 1 l4, .ow 2 l5, .int .i64 a6, .ow 4 l7, .int .i64 a4, .int .i64 a3, .int .i64 a5, .int .i64 a1, .ow 1 l3, .ow 17 l6], .int .i64 1] (.int .i64 m34) := ⟨_, _, _, _, _, _, rfl, rfl, rfl, rfl, rfl, rfl, by subst b7 c1 d3 e6 f5; exact m_laws_markServer A hA (⟨⟨⟨⟨a0, a2⟩, a6, a7, a4, a3, a5, a1⟩, a8⟩, openL a9 aKind⟩ : GServer) 1 (by omega) (by omega)⟩
        have t0 := rlen_map hA n5
        have t8 := rlen_map hA n6
        have t7 := rlen_map hA n3
        have t2 := rlen_map hA n4
        have t6 := rlen_map hA m9
        have u3 := cnStringS_nn a0
        have u6 := cnWriteS_nn a2
        have u2 := cnSegS_nn a7
        have v3 := cnIntS_nn a8
        have v4 := cnSessionS_nn (openL a9 aKind)
        have v6 : 0 ≤ m34 := by omega
        refine ops_callM rfl (by cbv) (by cbv) (by cbv) r3 rfl (by cbv) ?_
        refine ra hA 1 (by cbv) (od ?_)
        refine gs (gr (ra hA 1 (by cbv) (od ?_)))
        refine gs (gr (ra hA 2 (by cbv) ?_))
        have v1 : cnServer (⟨⟨⟨⟨a0, a2⟩, a6, a7, a4, a3, a5, a1⟩, a8⟩, (openL a9 aKind)⟩ : GServer) = cnStringS a0 + cnWriteS a2 + cnSegS a7 + cnIntS a8 + cnSessionS (openL a9 aKind) := rfl
        obtain ⟨q40, s6, r9⟩ : ∃ q : Int, q = 1 + cnStringS a0 + cnWriteS a2 + cnSegS a7 + cnIntS a8 + cnSessionS (openL a9 aKind) ∧ Real Tryz.prog 13 [.agg [.sl 1 (eraseR l4), .sl 2 (eraseR l5), .int .i64 a6, .sl 4 (eraseR l7), .int .i64 a4, .int .i64 a3, .int .i64 a5, .int .i64 a1, .sl 1 (eraseR l3), .sl 17 (eraseR l6)], .int .i64 1] (.int .i64 q) := ⟨_, rfl, by
         subst n5 n6 n3 n4 m9; simp only [erR_Int, erR_Seg, erR_Session, erR_String, erR_Write]; exact r_laws_heldServer A hA (⟨⟨⟨⟨a0, a2⟩, a6, a7, a4, a3, a5, a1⟩, a8⟩, (openL a9 aKind)⟩ : GServer) 1 (by omega) (by omega)⟩
        have s0 : 0 ≤ q40 := by omega
        refine ops_callV rfl rfl (by cbv) (by cbv) r9 (.inl trivial) (by cbv) ?_
        refine ra hA 1 (by cbv) (od ?_)
        refine gs (gs (gr (ra hA 2 (by cbv) (od ?_))))
        refine go_cond rfl (fun c42 => ?_) (fun c42 => ?_)
        ·
         have r0 : q40 < 0 := lss_t hA c42
         exact absurd r0 (Int.not_lt.2 s0)
        ·
         have r0 : 0 ≤ q40 := lss_f hA c42
         refine gk (gs (gs (gr (ra hA 3 (by cbv) (od ?_)))))
         refine go_cond rfl (fun c43 => ?_) (fun c43 => ?_)
         ·
          exact no_t c43 (show (A.cmp .neq q40 m34) = false from by subst hA; simp [std, s6, q8])
         ·
          refine gk (gs (gr (ra hA 1 (by cbv) ?_)))
          obtain ⟨d0, e1, f8, g5, i8, g9, i5, j2, j5, j9, r6⟩ : ∃ (d0 : RR) (e1 : RR) (f8 : RR) (g5 : RR) (i8 : RR), d0 = List.map eString a0 ∧ e1 = List.map eoWrite a2 ∧ f8 = List.map eoSeg a7 ∧ g5 = List.map eInt a8 ∧ i8 = List.map eoSession a9 ∧ Real Tryz.prog 9 [.agg [.sl 1 b8, .sl 2 c2, .int .i64 a6, .sl 4 e3, .int .i64 a4, .int .i64 a3, .int .i64 a5, .int .i64 a1, .sl 1 f4, .sl 17 g4]] (.agg [.ow 1 d0, .ow 2 e1, .int .i64 a6, .ow 4 f8, .int .i64 a4, .int .i64 a3, .int .i64 a5, .int .i64 a1, .ow 1 g5, .ow 17 i8]) := ⟨_, _, _, _, _, rfl, rfl, rfl, rfl, rfl, by subst b0 b3 c6 d8 f3; exact r_laws_toServer A hA (⟨⟨⟨⟨a0, a2⟩, a6, a7, a4, a3, a5, a1⟩, a8⟩, a9⟩ : GServer) jaV⟩
          have l2 := rlen_map hA g9
          have m4 := rlen_map hA i5
          have n9 := rlen_map hA j2
          have p2 := rlen_map hA j5
          have q0 := rlen_map hA j9
          refine ops_callV rfl rfl (by cbv) (by cbv) r6 (.inr rfl) (by cbv) ?_
          refine ra hA 1 (by cbv) ?_
          obtain ⟨c7, c9, f1, g0, i1, k5, e5, e8, g3, i4, j0, m7, s5⟩ : ∃ (c7 : RR) (c9 : RR) (f1 : RR) (g0 : RR) (i1 : RR) (k5 : Bool), c7 = List.map eString a0 ∧ c9 = List.map eoWrite a2 ∧ f1 = List.map eoSeg a7 ∧ g0 = List.map eInt a8 ∧ i1 = List.map eoSession (openL a9 aKind) ∧ k5 = (openB a9 aKind) ∧ Real Tryz.prog 15 [.agg [.sl 1 (eraseR d0), .sl 2 (eraseR e1), .int .i64 a6, .sl 4 (eraseR f8), .int .i64 a4, .int .i64 a3, .int .i64 a5, .int .i64 a1, .sl 1 (eraseR g5), .sl 17 (eraseR i8)], .int .i64 aKind] (.tup [.agg [.ow 1 c7, .ow 2 c9, .int .i64 a6, .ow 4 f1, .int .i64 a4, .int .i64 a3, .int .i64 a5, .int .i64 a1, .ow 1 g0, .ow 17 i1], .bool k5]) := ⟨_, _, _, _, _, _, rfl, rfl, rfl, rfl, rfl, rfl, by subst g9 i5 j2 j5 j9; simp only [erR_Int, erR_Seg, erR_Session, erR_String, erR_Write]; exact r_impl_OpenAt A hA (⟨⟨⟨⟨a0, a2⟩, a6, a7, a4, a3, a5, a1⟩, a8⟩, a9⟩ : GServer) aKind jaV⟩
          have k7 := rlen_map hA e5
          have l8 := rlen_map hA e8
          have n1 := rlen_map hA g3
          have o1 := rlen_map hA i4
          have p6 := rlen_map hA j0
          refine ops_callV rfl rfl (by cbv) (by cbv) s5 (.inl (by simp only [fresh, freshL, e5, e8, g3, i4, j0, m7, frR_Int, frR_Seg, frR_Session, frR_String, frR_Write, and_self])) (by cbv) ?_
          refine ra hA 6 (by cbv) (od ?_)
          refine gs (gs (gr (ra hA 2 (by cbv) ?_)))
          have s2 : Real Tryz.prog 11 [.agg [.sl 1 (eraseR c7), .sl 2 (eraseR c9), .int .i64 a6, .sl 4 (eraseR f1), .int .i64 a4, .int .i64 a3, .int .i64 a5, .int .i64 a1, .sl 1 (eraseR g0), .sl 17 (eraseR i1)], .agg [.sl 1 (eraseR b2), .sl 2 (eraseR b5), .int .i64 a6, .sl 4 (eraseR c8), .int .i64 a4, .int .i64 a3, .int .i64 a5, .int .i64 a1, .sl 1 (eraseR e2), .sl 17 (eraseR f2)]] (.bool true) := by subst e5 e8 g3 i4 j0 b9 c4 d7 e7 f9; simp only [erR_Int, erR_Seg, erR_Session, erR_String, erR_Write]; exact r_laws_eqServer A hA (⟨⟨⟨⟨a0, a2⟩, a6, a7, a4, a3, a5, a1⟩, a8⟩, openL a9 aKind⟩ : GServer) iu
          refine ops_callV rfl rfl (by cbv) (by cbv) s2 (.inl trivial) (by cbv) ?_
          refine ra hA 2 (by cbv) ?_
          refine ops_split 88 rfl (fun c50 => ?_) (fun c50 => ?_)
          ·
           exact no_t c50 (show (A.bnot true) = false from by subst hA; rfl)
          ·
           have c51 : true = true := bnot_f hA c50
           refine ra hA 4 (by cbv) (od ?_)
           refine go_cond rfl (fun c52 => ?_) (fun c52 => ?_)
           ·
            exact no_t c52 (show (A.bnot (A.beq k5 j8)) = false from by subst hA; simp [std, m7, k3])
           ·
            refine gk (gs (gr (ra hA 1 (by cbv) (od ?_))))
            refine gs (gr (ra hA 2 (by cbv) ?_))
            have u7 : cnServer (⟨⟨⟨⟨a0, a2⟩, a6, a7, a4, a3, a5, a1⟩, a8⟩, (openL a9 aKind)⟩ : GServer) = cnStringS a0 + cnWriteS a2 + cnSegS a7 + cnIntS a8 + cnSessionS (openL a9 aKind) := rfl
            obtain ⟨q53, s4, s3⟩ : ∃ q : Int, q = 1 + cnStringS a0 + cnWriteS a2 + cnSegS a7 + cnIntS a8 + cnSessionS (openL a9 aKind) ∧ Real Tryz.prog 13 [.agg [.sl 1 (eraseR l4), .sl 2 (eraseR l5), .int .i64 a6, .sl 4 (eraseR l7), .int .i64 a4, .int .i64 a3, .int .i64 a5, .int .i64 a1, .sl 1 (eraseR l3), .sl 17 (eraseR l6)], .int .i64 1] (.int .i64 q) := ⟨_, rfl, by
             subst n5 n6 n3 n4 m9; simp only [erR_Int, erR_Seg, erR_Session, erR_String, erR_Write]; exact r_laws_heldServer A hA (⟨⟨⟨⟨a0, a2⟩, a6, a7, a4, a3, a5, a1⟩, a8⟩, (openL a9 aKind)⟩ : GServer) 1 (by omega) (by omega)⟩
            have s8 : 0 ≤ q53 := by omega
            refine ops_callV rfl rfl (by cbv) (by cbv) s3 (.inl trivial) (by cbv) ?_
            refine ra hA 1 (by cbv) (od ?_)
            refine gs (gs (gr (ra hA 2 (by cbv) (od ?_))))
            refine go_cond rfl (fun c55 => ?_) (fun c55 => ?_)
            ·
             have r2 : q53 < 0 := lss_t hA c55
             exact absurd r2 (Int.not_lt.2 s8)
            ·
             have r2 : 0 ≤ q53 := lss_f hA c55
             refine gk (gs (gs (gr (ra hA 3 (by cbv) (od ?_)))))
             refine go_cond rfl (fun c56 => ?_) (fun c56 => ?_)
             ·
              exact no_t c56 (show (A.cmp .neq q53 m34) = false from by subst hA; simp [std, s4, q8])
             ·
              refine gk (gs (gr (ra hA 1 (by cbv) (od ?_))))
              refine go_ret ⟨_, by cbv, ?_⟩
              show _ = (PV.bool true)
              rfl
end Go.Av
