/- Walks: the law of FeedAt. -/
import Derived.Test.YtjbokkoiicoahaaGreatL0
import Derived.Test.YtjbokkoiicoahaaGreatF3
import Derived.Test.YtjbokkoiicoahaaGreatV1
import Derived.Test.YtjbokkoiicoahaaGreatV2
import Derived.Test.YtjbokkoiicoahaaGreatV3
import Derived.Test.YtjbokkoiicoahaaGreatM3
import Derived.Test.YtjbokkoiicoahaaGreatH1
namespace Go.Av
open Go Go.Proofs
set_option maxRecDepth 100000
set_option maxHeartbeats 4000000
set_option linter.unusedVariables false
set_option linter.unusedSimpArgs false
theorem r_laws_FnExactFeedAt (A : Alg) (hA : A = std) (aV : GServer) (aI : Int) (aText : ByteArray) (haV : ∀ k ∈ zsServer aV, (k : Int) ≤ 9223372036854775807) (haText : ByteArray.size aText ≤ maxLen) : Real Tryz.prog 3 [.agg (eServer aV), .int .i64 aI, .str aText] (.bool true) := by
 obtain ⟨⟨⟨⟨a0, a2⟩, a6, a7, a4, a3, a5, a1⟩, a8⟩, a9⟩ := aV
 obtain ⟨b8, b0⟩ := nm (a0.map eString)
 have m5 := rlen_map hA b0
 obtain ⟨c3, b3⟩ := nm (a2.map eWrite)
 have m9 := rlen_map hA b3
 obtain ⟨e4, c7⟩ := nm (a7.map eSeg)
 have p0 := rlen_map hA c7
 obtain ⟨f5, d9⟩ := nm (a8.map eInt)
 have p9 := rlen_map hA d9
 obtain ⟨g5, f4⟩ := nm (a9.map eSession)
 have q4 := rlen_map hA f4
 refine real_args (args' := [.agg [.sl 1 b8, .sl 2 c3, .int .i64 a6, .sl 4 e4, .int .i64 a4, .int .i64 a3, .int .i64 a5, .int .i64 a1, .sl 1 f5, .sl 17 g5], .int .i64 aI, .str aText]) (by subst b0 b3 c7 d9 f4; rfl) ?_
 refine real tyOk Tryz.func3 (by kernel_rfl) (afun_of rfl ?_)
 refine gs (gr (ra hA 2 (by cbv) (od ?_)))
 refine gs (gs (gr (ra hA 3 (by cbv) (od ?_))))
 refine go_cond rfl (fun c1 => ?_) (fun c1 => ?_)
 ·
  have ec1 : 1048576 < (A.slen aText) := gtr_t hA c1
  refine gs (gr (ra hA 1 (by cbv) (od ?_)))
  refine go_ret ⟨_, by cbv, ?_⟩
  show _ = (PV.bool true)
  rfl
 ·
  have ec1 : (A.slen aText) ≤ 1048576 := gtr_f hA c1
  refine gk (gs (gr (ra hA 1 (by cbv) (od ?_))))
  refine gs (gr (ra hA 2 (by cbv) ?_))
  obtain ⟨k6, n1, hc3⟩ : ∃ (k6 : Int), k6 = (chain 1048576 (zsServer (⟨⟨⟨⟨a0, a2⟩, a6, a7, a4, a3, a5, a1⟩, a8⟩, a9⟩ : GServer))) ∧ Real Tryz.prog 7 [.agg [.sl 1 b8, .sl 2 c3, .int .i64 a6, .sl 4 e4, .int .i64 a4, .int .i64 a3, .int .i64 a5, .int .i64 a1, .sl 1 f5, .sl 17 g5], .int .i64 1048576] (.int .i64 k6) := ⟨_, rfl, by subst b0 b3 c7 d9 f4; exact r_laws_szServer A hA (⟨⟨⟨⟨a0, a2⟩, a6, a7, a4, a3, a5, a1⟩, a8⟩, a9⟩ : GServer) 1048576 (by omega) (by omega) haV⟩
  refine ops_callV rfl rfl (by cbv) (by cbv) hc3 (.inr rfl) (by cbv) ?_
  have u0 := chain_bd n1 (by omega)
  refine ra hA 1 (by cbv) (od ?_)
  refine gs (gs (gr (ra hA 2 (by cbv) (od ?_))))
  refine go_cond rfl (fun c4 => ?_) (fun c4 => ?_)
  ·
   have ec4 : k6 < 0 := lss_t hA c4
   refine gs (gr (ra hA 1 (by cbv) (od ?_)))
   refine go_ret ⟨_, by cbv, ?_⟩
   show _ = (PV.bool true)
   rfl
  ·
   have ec4 : 0 ≤ k6 := lss_f hA c4
   refine gk (gs ?_)
   have jaV : ∀ k ∈ zsServer (⟨⟨⟨⟨a0, a2⟩, a6, a7, a4, a3, a5, a1⟩, a8⟩, a9⟩ : GServer), k ≤ 1048576 := fun k hk => by
    have := chain_all _ _ (show 0 ≤ chain _ _ from n1 ▸ (by omega : (0 : Int) ≤ k6)) k hk
    omega
   have saV : ((zsServer (⟨⟨⟨⟨a0, a2⟩, a6, a7, a4, a3, a5, a1⟩, a8⟩, a9⟩ : GServer)).sum : Int) ≤ 1048576 := chain_sum (show 0 ≤ chain _ _ from n1 ▸ (by omega : (0 : Int) ≤ k6))
   have iaV : ∀ k ∈ zsServer (⟨⟨⟨⟨a0, a2⟩, a6, a7, a4, a3, a5, a1⟩, a8⟩, a9⟩ : GServer), (k : Int) ≤ 4611686018427387904 := fun k hk => by have := jaV k hk; omega
   have jaText : ByteArray.size aText ≤ 1048576 := by have := slen_eq hA aText; omega
   have w0 : 1 + cnServer (⟨⟨⟨⟨a0, a2⟩, a6, a7, a4, a3, a5, a1⟩, a8⟩, a9⟩ : GServer) ≤ 1099511627776 := by have := cnServer_les (⟨⟨⟨⟨a0, a2⟩, a6, a7, a4, a3, a5, a1⟩, a8⟩, a9⟩ : GServer); omega
   have v7 : 1 + cnServer (⟨⟨⟨⟨a0, a2⟩, a6, a7, a4, a3, a5, a1⟩, a8⟩, fedL a9 aI aText⟩ : GServer) ≤ 1099511627776 := by rw [cnV_ss _ a9, cnS_fed]; omega
   have iu : ∀ q ∈ zsServer (⟨⟨⟨⟨a0, a2⟩, a6, a7, a4, a3, a5, a1⟩, a8⟩, fedL a9 aI aText⟩ : GServer), (q : Int) ≤ 4611686018427387904 := zsV_ss iaV (zsS_fed jaText fun q hq => jaV q (by simp only [zsServer, List.mem_append]; simp only [hq, true_or, or_true]))
   refine gr (ra hA 1 (by cbv) ?_)
   obtain ⟨d6, e5, g1, i2, j2, i1, i7, j5, j8, k3, hc6⟩ : ∃ (d6 : RR) (e5 : RR) (g1 : RR) (i2 : RR) (j2 : RR), d6 = List.map eString a0 ∧ e5 = List.map eoWrite a2 ∧ g1 = List.map eoSeg a7 ∧ i2 = List.map eInt a8 ∧ j2 = List.map eoSession a9 ∧ Real Tryz.prog 9 [.agg [.sl 1 b8, .sl 2 c3, .int .i64 a6, .sl 4 e4, .int .i64 a4, .int .i64 a3, .int .i64 a5, .int .i64 a1, .sl 1 f5, .sl 17 g5]] (.agg [.ow 1 d6, .ow 2 e5, .int .i64 a6, .ow 4 g1, .int .i64 a4, .int .i64 a3, .int .i64 a5, .int .i64 a1, .ow 1 i2, .ow 17 j2]) := ⟨_, _, _, _, _, rfl, rfl, rfl, rfl, rfl, by subst b0 b3 c7 d9 f4; exact r_laws_toServer A hA (⟨⟨⟨⟨a0, a2⟩, a6, a7, a4, a3, a5, a1⟩, a8⟩, a9⟩ : GServer) jaV⟩
   have m0 := rlen_map hA i1
   have m6 := rlen_map hA i7
   have o2 := rlen_map hA j5
   have p4 := rlen_map hA j8
   have q3 := rlen_map hA k3
   refine ops_callV rfl rfl (by cbv) (by cbv) hc6 (.inr rfl) (by cbv) ?_
   refine ra hA 2 (by cbv) ?_
   obtain ⟨b2, b6, c9, e3, f3, j9, b9, c5, d8, e8, g0, k4, hc8⟩ : ∃ (b2 : RR) (b6 : RR) (c9 : RR) (e3 : RR) (f3 : RR) (j9 : Bool), b2 = List.map eString a0 ∧ b6 = List.map eoWrite a2 ∧ c9 = List.map eoSeg a7 ∧ e3 = List.map eInt a8 ∧ f3 = List.map eoSession (fedL a9 aI aText) ∧ j9 = (fedB a9 aI aText) ∧ Real Tryz.prog 8 [.agg [.sl 1 (eraseR d6), .sl 2 (eraseR e5), .int .i64 a6, .sl 4 (eraseR g1), .int .i64 a4, .int .i64 a3, .int .i64 a5, .int .i64 a1, .sl 1 (eraseR i2), .sl 17 (eraseR j2)], .int .i64 aI, .str aText] (.tup [.agg [.ow 1 b2, .ow 2 b6, .int .i64 a6, .ow 4 c9, .int .i64 a4, .int .i64 a3, .int .i64 a5, .int .i64 a1, .ow 1 e3, .ow 17 f3], .bool j9]) := ⟨_, _, _, _, _, _, rfl, rfl, rfl, rfl, rfl, rfl, by subst i1 i7 j5 j8 k3; simp only [erR_Int, erR_Seg, erR_Session, erR_String, erR_Write]; exact r_spec_FeedAt A hA (⟨⟨⟨⟨a0, a2⟩, a6, a7, a4, a3, a5, a1⟩, a8⟩, a9⟩ : GServer) aI aText jaV jaText⟩
   have l0 := rlen_map hA b9
   have m2 := rlen_map hA c5
   have n8 := rlen_map hA d8
   have o5 := rlen_map hA e8
   have p8 := rlen_map hA g0
   refine ops_callV rfl rfl (by cbv) (by cbv) hc8 (.inl (by simp only [fresh, freshL, b9, c5, d8, e8, g0, k4, frR_Int, frR_Seg, frR_Session, frR_String, frR_Write, and_self])) (by cbv) ?_
   refine ra hA 6 (by cbv) (od ?_)
   refine gs (gr (ra hA 1 (by cbv) ?_))
   obtain ⟨b5, c0, d5, f0, g3, d2, e0, f9, g6, i8, t0⟩ : ∃ (b5 : RR) (c0 : RR) (d5 : RR) (f0 : RR) (g3 : RR), b5 = List.map eString a0 ∧ c0 = List.map eoWrite a2 ∧ d5 = List.map eoSeg a7 ∧ f0 = List.map eInt a8 ∧ g3 = List.map eoSession a9 ∧ Real Tryz.prog 9 [.agg [.sl 1 b8, .sl 2 c3, .int .i64 a6, .sl 4 e4, .int .i64 a4, .int .i64 a3, .int .i64 a5, .int .i64 a1, .sl 1 f5, .sl 17 g5]] (.agg [.ow 1 b5, .ow 2 c0, .int .i64 a6, .ow 4 d5, .int .i64 a4, .int .i64 a3, .int .i64 a5, .int .i64 a1, .ow 1 f0, .ow 17 g3]) := ⟨_, _, _, _, _, rfl, rfl, rfl, rfl, rfl, by subst b0 b3 c7 d9 f4; exact r_laws_toServer A hA (⟨⟨⟨⟨a0, a2⟩, a6, a7, a4, a3, a5, a1⟩, a8⟩, a9⟩ : GServer) jaV⟩
   have m1 := rlen_map hA d2
   have m8 := rlen_map hA e0
   have o4 := rlen_map hA f9
   have p6 := rlen_map hA g6
   have q2 := rlen_map hA i8
   refine ops_callV rfl rfl (by cbv) (by cbv) t0 (.inr rfl) (by cbv) ?_
   refine ra hA 2 (by cbv) (od ?_)
   refine gs (gr (ra hA 3 (by cbv) ?_))
   obtain ⟨b1, b4, c6, d7, f1, k2, b7, c2, d4, e7, f6, k7, s9⟩ : ∃ (b1 : RR) (b4 : RR) (c6 : RR) (d7 : RR) (f1 : RR) (k2 : Bool), b1 = List.map eString a0 ∧ b4 = List.map eoWrite a2 ∧ c6 = List.map eoSeg a7 ∧ d7 = List.map eInt a8 ∧ f1 = List.map eoSession (fedL a9 aI aText) ∧ k2 = (fedB a9 aI aText) ∧ Real Tryz.prog 10 [.agg [.sl 1 (eraseR b5), .sl 2 (eraseR c0), .int .i64 a6, .sl 4 (eraseR d5), .int .i64 a4, .int .i64 a3, .int .i64 a5, .int .i64 a1, .sl 1 (eraseR f0), .sl 17 (eraseR g3)], .int .i64 aI, .str aText] (.tup [.agg [.ow 1 b1, .ow 2 b4, .int .i64 a6, .ow 4 c6, .int .i64 a4, .int .i64 a3, .int .i64 a5, .int .i64 a1, .ow 1 d7, .ow 17 f1], .bool k2]) := ⟨_, _, _, _, _, _, rfl, rfl, rfl, rfl, rfl, rfl, by subst d2 e0 f9 g6 i8; simp only [erR_Int, erR_Seg, erR_Session, erR_String, erR_Write]; exact r_impl_FeedAt A hA (⟨⟨⟨⟨a0, a2⟩, a6, a7, a4, a3, a5, a1⟩, a8⟩, a9⟩ : GServer) aI aText jaV jaText⟩
   have k8 := rlen_map hA b7
   have l7 := rlen_map hA c2
   have n2 := rlen_map hA d4
   have o1 := rlen_map hA e7
   have p5 := rlen_map hA f6
   refine ops_callV rfl rfl (by cbv) (by cbv) s9 (.inl (by simp only [fresh, freshL, b7, c2, d4, e7, f6, k7, frR_Int, frR_Seg, frR_Session, frR_String, frR_Write, and_self])) (by cbv) ?_
   refine ra hA 6 (by cbv) (od ?_)
   refine gs (gs (gr (ra hA 2 (by cbv) ?_)))
   have s2 : Real Tryz.prog 11 [.agg [.sl 1 (eraseR b1), .sl 2 (eraseR b4), .int .i64 a6, .sl 4 (eraseR c6), .int .i64 a4, .int .i64 a3, .int .i64 a5, .int .i64 a1, .sl 1 (eraseR d7), .sl 17 (eraseR f1)], .agg [.sl 1 (eraseR b2), .sl 2 (eraseR b6), .int .i64 a6, .sl 4 (eraseR c9), .int .i64 a4, .int .i64 a3, .int .i64 a5, .int .i64 a1, .sl 1 (eraseR e3), .sl 17 (eraseR f3)]] (.bool true) := by subst b7 c2 d4 e7 f6 b9 c5 d8 e8 g0; simp only [erR_Int, erR_Seg, erR_Session, erR_String, erR_Write]; exact r_laws_eqServer A hA (⟨⟨⟨⟨a0, a2⟩, a6, a7, a4, a3, a5, a1⟩, a8⟩, fedL a9 aI aText⟩ : GServer) iu
   refine ops_callV rfl rfl (by cbv) (by cbv) s2 (.inl trivial) (by cbv) ?_
   refine ra hA 2 (by cbv) ?_
   refine ops_split 47 rfl (fun c15 => ?_) (fun c15 => ?_)
   ·
    exact no_t c15 (show (A.bnot true) = false from by subst hA; rfl)
   ·
    have c16 : true = true := bnot_f hA c15
    refine ra hA 4 (by cbv) (od ?_)
    refine go_cond rfl (fun c17 => ?_) (fun c17 => ?_)
    ·
     exact no_t c17 (show (A.bnot (A.beq k2 j9)) = false from by subst hA; simp [std, k7, k4])
    ·
     refine gk (gs (gs ?_))
     refine go_draw (by cbv) ?_
     refine rd hA 2 (by cbv) ?_
     obtain ⟨d0, e2, f7, g9, i9, g8, i6, j4, j6, k0, s4⟩ : ∃ (d0 : RR) (e2 : RR) (f7 : RR) (g9 : RR) (i9 : RR), d0 = List.map eString a0 ∧ e2 = List.map eoWrite a2 ∧ f7 = List.map eoSeg a7 ∧ g9 = List.map eInt a8 ∧ i9 = List.map eoSession a9 ∧ Real Tryz.prog 9 [.agg [.sl 1 b8, .sl 2 c3, .int .i64 a6, .sl 4 e4, .int .i64 a4, .int .i64 a3, .int .i64 a5, .int .i64 a1, .sl 1 f5, .sl 17 g5]] (.agg [.ow 1 d0, .ow 2 e2, .int .i64 a6, .ow 4 f7, .int .i64 a4, .int .i64 a3, .int .i64 a5, .int .i64 a1, .ow 1 g9, .ow 17 i9]) := ⟨_, _, _, _, _, rfl, rfl, rfl, rfl, rfl, by subst b0 b3 c7 d9 f4; exact r_laws_toServer A hA (⟨⟨⟨⟨a0, a2⟩, a6, a7, a4, a3, a5, a1⟩, a8⟩, a9⟩ : GServer) jaV⟩
     have l3 := rlen_map hA g8
     have m3 := rlen_map hA i6
     have n9 := rlen_map hA j4
     have p3 := rlen_map hA j6
     have q0 := rlen_map hA k0
     refine dops_callV rfl rfl (by cbv) (by cbv) s4 (.inr rfl) ?_
     have s1 : Real Tryz.prog 11 [.agg [.sl 1 (eraseR b5), .sl 2 (eraseR c0), .int .i64 a6, .sl 4 (eraseR d5), .int .i64 a4, .int .i64 a3, .int .i64 a5, .int .i64 a1, .sl 1 (eraseR f0), .sl 17 (eraseR g3)], .agg [.sl 1 (eraseR d0), .sl 2 (eraseR e2), .int .i64 a6, .sl 4 (eraseR f7), .int .i64 a4, .int .i64 a3, .int .i64 a5, .int .i64 a1, .sl 1 (eraseR g9), .sl 17 (eraseR i9)]] (.bool true) := by subst d2 e0 f9 g6 i8 g8 i6 j4 j6 k0; simp only [erR_Int, erR_Seg, erR_Session, erR_String, erR_Write]; exact r_laws_eqServer A hA (⟨⟨⟨⟨a0, a2⟩, a6, a7, a4, a3, a5, a1⟩, a8⟩, a9⟩ : GServer) iaV
     refine dops_callV rfl rfl (by cbv) (by cbv) s1 (.inl trivial) ?_
     refine rd hA 1 (by cbv) (dd_ ?_)
     refine go_cond rfl (fun c22 => ?_) (fun c22 => ?_)
     ·
      exact no_t c22 (show (A.bnot true) = false from by subst hA; rfl)
     ·
      refine gk (gs (gr (ra hA 1 (by cbv) (od ?_))))
      refine gs (gr (ra hA 2 (by cbv) ?_))
      have v5 : cnServer (⟨⟨⟨⟨a0, a2⟩, a6, a7, a4, a3, a5, a1⟩, a8⟩, a9⟩ : GServer) = cnStringS a0 + cnWriteS a2 + cnSegS a7 + cnIntS a8 + cnSessionS a9 := rfl
      obtain ⟨p1, o8, o6, o9, o7, m23, q5, r0, q8, q6, r1, v8, r5⟩ : ∃ (p1 : RR) (o8 : RR) (o6 : RR) (o9 : RR) (o7 : RR) (m23 : Int), p1 = List.map eString (mkStringS (1) a0) ∧ o8 = List.map eoWrite (mkWriteS (1 + cnStringS a0) a2) ∧ o6 = List.map eoSeg (mkSegS (1 + cnStringS a0 + cnWriteS a2) a7) ∧ o9 = List.map eInt (mkIntS (1 + cnStringS a0 + cnWriteS a2 + cnSegS a7) a8) ∧ o7 = List.map eoSession (mkSessionS (1 + cnStringS a0 + cnWriteS a2 + cnSegS a7 + cnIntS a8) a9) ∧ m23 = 1 + cnStringS a0 + cnWriteS a2 + cnSegS a7 + cnIntS a8 + cnSessionS a9 ∧ RealM Tryz.prog 12 [.agg [.ow 1 b5, .ow 2 c0, .int .i64 a6, .ow 4 d5, .int .i64 a4, .int .i64 a3, .int .i64 a5, .int .i64 a1, .ow 1 f0, .ow 17 g3], .int .i64 1] [.agg [.ow 1 p1, .ow 2 o8, .int .i64 a6, .ow 4 o6, .int .i64 a4, .int .i64 a3, .int .i64 a5, .int .i64 a1, .ow 1 o9, .ow 17 o7], .int .i64 1] (.int .i64 m23) := ⟨_, _, _, _, _, _, rfl, rfl, rfl, rfl, rfl, rfl, by subst d2 e0 f9 g6 i8; exact m_laws_markServer A hA (⟨⟨⟨⟨a0, a2⟩, a6, a7, a4, a3, a5, a1⟩, a8⟩, a9⟩ : GServer) 1 (by omega) (by omega)⟩
      have t4 := rlen_map hA q5
      have t5 := rlen_map hA r0
      have t8 := rlen_map hA q8
      have u1 := rlen_map hA q6
      have t3 := rlen_map hA r1
      have v2 := cnStringS_nn a0
      have v0 := cnWriteS_nn a2
      have u5 := cnSegS_nn a7
      have u9 := cnIntS_nn a8
      have v1 := cnSessionS_nn a9
      have r9 : 0 ≤ m23 := by omega
      refine ops_callM rfl (by cbv) (by cbv) (by cbv) r5 rfl (by cbv) ?_
      refine ra hA 1 (by cbv) (od ?_)
      refine gs (gs (gr (ra hA 3 (by cbv) ?_)))
      refine ops_split 62 rfl (fun c29 => ?_) (fun c29 => ?_)
      ·
       have r2 : m23 < 0 := lss_t hA c29
       exact absurd r2 (Int.not_lt.2 r9)
      ·
       have r2 : 0 ≤ m23 := lss_f hA c29
       refine ra hA 2 (by cbv) ?_
       have r7 : Real Tryz.prog 11 [.agg [.sl 1 (eraseR b1), .sl 2 (eraseR b4), .int .i64 a6, .sl 4 (eraseR c6), .int .i64 a4, .int .i64 a3, .int .i64 a5, .int .i64 a1, .sl 1 (eraseR d7), .sl 17 (eraseR f1)], .agg [.sl 1 (eraseR b2), .sl 2 (eraseR b6), .int .i64 a6, .sl 4 (eraseR c9), .int .i64 a4, .int .i64 a3, .int .i64 a5, .int .i64 a1, .sl 1 (eraseR e3), .sl 17 (eraseR f3)]] (.bool true) := by subst b7 c2 d4 e7 f6 b9 c5 d8 e8 g0; simp only [erR_Int, erR_Seg, erR_Session, erR_String, erR_Write]; exact r_laws_eqServer A hA (⟨⟨⟨⟨a0, a2⟩, a6, a7, a4, a3, a5, a1⟩, a8⟩, fedL a9 aI aText⟩ : GServer) iu
       refine ops_callG rfl rfl rfl rfl (by cbv) (by cbv) r7 (.inl trivial) (by cbv) ?_
       refine ra hA 3 (by cbv) ?_
       refine ops_split 68 rfl (fun c32 => ?_) (fun c32 => ?_)
       ·
        exact no_t c32 (show (A.bnot true) = false from by subst hA; rfl)
       ·
        have c33 : true = true := bnot_f hA c32
        refine ra hA 4 (by cbv) (od ?_)
        refine go_cond rfl (fun c34 => ?_) (fun c34 => ?_)
        ·
         exact no_t c34 (show (A.bnot (A.beq k2 j9)) = false from by subst hA; simp [std, k7, k4])
        ·
         refine gk (gs (gr (ra hA 1 (by cbv) (od ?_))))
         refine gs (gr (ra hA 2 (by cbv) ?_))
         have v3 : cnServer (⟨⟨⟨⟨a0, a2⟩, a6, a7, a4, a3, a5, a1⟩, a8⟩, fedL a9 aI aText⟩ : GServer) = cnStringS a0 + cnWriteS a2 + cnSegS a7 + cnIntS a8 + cnSessionS (fedL a9 aI aText) := rfl
         obtain ⟨l9, l1, l2, l8, l4, m35, n7, n6, n4, n3, n5, q9, r4⟩ : ∃ (l9 : RR) (l1 : RR) (l2 : RR) (l8 : RR) (l4 : RR) (m35 : Int), l9 = List.map eString (mkStringS (1) a0) ∧ l1 = List.map eoWrite (mkWriteS (1 + cnStringS a0) a2) ∧ l2 = List.map eoSeg (mkSegS (1 + cnStringS a0 + cnWriteS a2) a7) ∧ l8 = List.map eInt (mkIntS (1 + cnStringS a0 + cnWriteS a2 + cnSegS a7) a8) ∧ l4 = List.map eoSession (mkSessionS (1 + cnStringS a0 + cnWriteS a2 + cnSegS a7 + cnIntS a8) (fedL a9 aI aText)) ∧ m35 = 1 + cnStringS a0 + cnWriteS a2 + cnSegS a7 + cnIntS a8 + cnSessionS (fedL a9 aI aText) ∧ RealM Tryz.prog 12 [.agg [.ow 1 b1, .ow 2 b4, .int .i64 a6, .ow 4 c6, .int .i64 a4, .int .i64 a3, .int .i64 a5, .int .i64 a1, .ow 1 d7, .ow 17 f1], .int .i64 1] [.agg [.ow 1 l9, .ow 2 l1, .int .i64 a6, .ow 4 l2, .int .i64 a4, .int .i64 a3, .int .i64 a5, .int .i64 a1, .ow 1 l8, .ow 17 l4], .int .i64 1] (.int .i64 m35) := ⟨_, _, _, _, _, _, rfl, rfl, rfl, rfl, rfl, rfl, by subst b7 c2 d4 e7 f6; exact m_laws_markServer A hA (⟨⟨⟨⟨a0, a2⟩, a6, a7, a4, a3, a5, a1⟩, a8⟩, fedL a9 aI aText⟩ : GServer) 1 (by omega) (by omega)⟩
         have t9 := rlen_map hA n7
         have u2 := rlen_map hA n6
         have t2 := rlen_map hA n4
         have t6 := rlen_map hA n3
         have t7 := rlen_map hA n5
         have u7 := cnStringS_nn a0
         have u3 := cnWriteS_nn a2
         have v4 := cnSegS_nn a7
         have v6 := cnIntS_nn a8
         have u8 := cnSessionS_nn (fedL a9 aI aText)
         have v9 : 0 ≤ m35 := by omega
         refine ops_callM rfl (by cbv) (by cbv) (by cbv) r4 rfl (by cbv) ?_
         refine ra hA 1 (by cbv) (od ?_)
         refine gs (gr (ra hA 1 (by cbv) (od ?_)))
         refine gs (gr (ra hA 2 (by cbv) ?_))
         have u4 : cnServer (⟨⟨⟨⟨a0, a2⟩, a6, a7, a4, a3, a5, a1⟩, a8⟩, (fedL a9 aI aText)⟩ : GServer) = cnStringS a0 + cnWriteS a2 + cnSegS a7 + cnIntS a8 + cnSessionS (fedL a9 aI aText) := rfl
         obtain ⟨q41, s6, s8⟩ : ∃ q : Int, q = 1 + cnStringS a0 + cnWriteS a2 + cnSegS a7 + cnIntS a8 + cnSessionS (fedL a9 aI aText) ∧ Real Tryz.prog 13 [.agg [.sl 1 (eraseR l9), .sl 2 (eraseR l1), .int .i64 a6, .sl 4 (eraseR l2), .int .i64 a4, .int .i64 a3, .int .i64 a5, .int .i64 a1, .sl 1 (eraseR l8), .sl 17 (eraseR l4)], .int .i64 1] (.int .i64 q) := ⟨_, rfl, by
          subst n7 n6 n4 n3 n5; simp only [erR_Int, erR_Seg, erR_Session, erR_String, erR_Write]; exact r_laws_heldServer A hA (⟨⟨⟨⟨a0, a2⟩, a6, a7, a4, a3, a5, a1⟩, a8⟩, (fedL a9 aI aText)⟩ : GServer) 1 (by omega) (by omega)⟩
         have s5 : 0 ≤ q41 := by omega
         refine ops_callV rfl rfl (by cbv) (by cbv) s8 (.inl trivial) (by cbv) ?_
         refine ra hA 1 (by cbv) (od ?_)
         refine gs (gs (gr (ra hA 2 (by cbv) (od ?_))))
         refine go_cond rfl (fun c43 => ?_) (fun c43 => ?_)
         ·
          have r3 : q41 < 0 := lss_t hA c43
          exact absurd r3 (Int.not_lt.2 s5)
         ·
          have r3 : 0 ≤ q41 := lss_f hA c43
          refine gk (gs (gs (gr (ra hA 3 (by cbv) (od ?_)))))
          refine go_cond rfl (fun c44 => ?_) (fun c44 => ?_)
          ·
           exact no_t c44 (show (A.cmp .neq q41 m35) = false from by subst hA; simp [std, s6, q9])
          ·
           refine gk (gs (gr (ra hA 1 (by cbv) ?_)))
           obtain ⟨d3, e1, f8, i0, j0, g7, i5, j3, j7, k1, s7⟩ : ∃ (d3 : RR) (e1 : RR) (f8 : RR) (i0 : RR) (j0 : RR), d3 = List.map eString a0 ∧ e1 = List.map eoWrite a2 ∧ f8 = List.map eoSeg a7 ∧ i0 = List.map eInt a8 ∧ j0 = List.map eoSession a9 ∧ Real Tryz.prog 9 [.agg [.sl 1 b8, .sl 2 c3, .int .i64 a6, .sl 4 e4, .int .i64 a4, .int .i64 a3, .int .i64 a5, .int .i64 a1, .sl 1 f5, .sl 17 g5]] (.agg [.ow 1 d3, .ow 2 e1, .int .i64 a6, .ow 4 f8, .int .i64 a4, .int .i64 a3, .int .i64 a5, .int .i64 a1, .ow 1 i0, .ow 17 j0]) := ⟨_, _, _, _, _, rfl, rfl, rfl, rfl, rfl, by subst b0 b3 c7 d9 f4; exact r_laws_toServer A hA (⟨⟨⟨⟨a0, a2⟩, a6, a7, a4, a3, a5, a1⟩, a8⟩, a9⟩ : GServer) jaV⟩
           have l6 := rlen_map hA g7
           have m4 := rlen_map hA i5
           have o0 := rlen_map hA j3
           have p2 := rlen_map hA j7
           have q1 := rlen_map hA k1
           refine ops_callV rfl rfl (by cbv) (by cbv) s7 (.inr rfl) (by cbv) ?_
           refine ra hA 2 (by cbv) ?_
           obtain ⟨c8, d1, f2, g2, i3, k5, e6, e9, g4, i4, j1, m7, t1⟩ : ∃ (c8 : RR) (d1 : RR) (f2 : RR) (g2 : RR) (i3 : RR) (k5 : Bool), c8 = List.map eString a0 ∧ d1 = List.map eoWrite a2 ∧ f2 = List.map eoSeg a7 ∧ g2 = List.map eInt a8 ∧ i3 = List.map eoSession (fedL a9 aI aText) ∧ k5 = (fedB a9 aI aText) ∧ Real Tryz.prog 10 [.agg [.sl 1 (eraseR d3), .sl 2 (eraseR e1), .int .i64 a6, .sl 4 (eraseR f8), .int .i64 a4, .int .i64 a3, .int .i64 a5, .int .i64 a1, .sl 1 (eraseR i0), .sl 17 (eraseR j0)], .int .i64 aI, .str aText] (.tup [.agg [.ow 1 c8, .ow 2 d1, .int .i64 a6, .ow 4 f2, .int .i64 a4, .int .i64 a3, .int .i64 a5, .int .i64 a1, .ow 1 g2, .ow 17 i3], .bool k5]) := ⟨_, _, _, _, _, _, rfl, rfl, rfl, rfl, rfl, rfl, by subst g7 i5 j3 j7 k1; simp only [erR_Int, erR_Seg, erR_Session, erR_String, erR_Write]; exact r_impl_FeedAt A hA (⟨⟨⟨⟨a0, a2⟩, a6, a7, a4, a3, a5, a1⟩, a8⟩, a9⟩ : GServer) aI aText jaV jaText⟩
           have k9 := rlen_map hA e6
           have l5 := rlen_map hA e9
           have n0 := rlen_map hA g4
           have o3 := rlen_map hA i4
           have p7 := rlen_map hA j1
           refine ops_callV rfl rfl (by cbv) (by cbv) t1 (.inl (by simp only [fresh, freshL, e6, e9, g4, i4, j1, m7, frR_Int, frR_Seg, frR_Session, frR_String, frR_Write, and_self])) (by cbv) ?_
           refine ra hA 6 (by cbv) (od ?_)
           refine gs (gs (gr (ra hA 2 (by cbv) ?_)))
           have s3 : Real Tryz.prog 11 [.agg [.sl 1 (eraseR c8), .sl 2 (eraseR d1), .int .i64 a6, .sl 4 (eraseR f2), .int .i64 a4, .int .i64 a3, .int .i64 a5, .int .i64 a1, .sl 1 (eraseR g2), .sl 17 (eraseR i3)], .agg [.sl 1 (eraseR b2), .sl 2 (eraseR b6), .int .i64 a6, .sl 4 (eraseR c9), .int .i64 a4, .int .i64 a3, .int .i64 a5, .int .i64 a1, .sl 1 (eraseR e3), .sl 17 (eraseR f3)]] (.bool true) := by subst e6 e9 g4 i4 j1 b9 c5 d8 e8 g0; simp only [erR_Int, erR_Seg, erR_Session, erR_String, erR_Write]; exact r_laws_eqServer A hA (⟨⟨⟨⟨a0, a2⟩, a6, a7, a4, a3, a5, a1⟩, a8⟩, fedL a9 aI aText⟩ : GServer) iu
           refine ops_callV rfl rfl (by cbv) (by cbv) s3 (.inl trivial) (by cbv) ?_
           refine ra hA 2 (by cbv) ?_
           refine ops_split 96 rfl (fun c51 => ?_) (fun c51 => ?_)
           ·
            exact no_t c51 (show (A.bnot true) = false from by subst hA; rfl)
           ·
            have c52 : true = true := bnot_f hA c51
            refine ra hA 4 (by cbv) (od ?_)
            refine go_cond rfl (fun c53 => ?_) (fun c53 => ?_)
            ·
             exact no_t c53 (show (A.bnot (A.beq k5 j9)) = false from by subst hA; simp [std, m7, k4])
            ·
             refine gk (gs (gr (ra hA 1 (by cbv) (od ?_))))
             refine gs (gr (ra hA 2 (by cbv) ?_))
             have u6 : cnServer (⟨⟨⟨⟨a0, a2⟩, a6, a7, a4, a3, a5, a1⟩, a8⟩, (fedL a9 aI aText)⟩ : GServer) = cnStringS a0 + cnWriteS a2 + cnSegS a7 + cnIntS a8 + cnSessionS (fedL a9 aI aText) := rfl
             obtain ⟨q54, r6, r8⟩ : ∃ q : Int, q = 1 + cnStringS a0 + cnWriteS a2 + cnSegS a7 + cnIntS a8 + cnSessionS (fedL a9 aI aText) ∧ Real Tryz.prog 13 [.agg [.sl 1 (eraseR l9), .sl 2 (eraseR l1), .int .i64 a6, .sl 4 (eraseR l2), .int .i64 a4, .int .i64 a3, .int .i64 a5, .int .i64 a1, .sl 1 (eraseR l8), .sl 17 (eraseR l4)], .int .i64 1] (.int .i64 q) := ⟨_, rfl, by
              subst n7 n6 n4 n3 n5; simp only [erR_Int, erR_Seg, erR_Session, erR_String, erR_Write]; exact r_laws_heldServer A hA (⟨⟨⟨⟨a0, a2⟩, a6, a7, a4, a3, a5, a1⟩, a8⟩, (fedL a9 aI aText)⟩ : GServer) 1 (by omega) (by omega)⟩
             have s0 : 0 ≤ q54 := by omega
             refine ops_callV rfl rfl (by cbv) (by cbv) r8 (.inl trivial) (by cbv) ?_
             refine ra hA 1 (by cbv) (od ?_)
             refine gs (gs (gr (ra hA 2 (by cbv) (od ?_))))
             refine go_cond rfl (fun c56 => ?_) (fun c56 => ?_)
             ·
              have q7 : q54 < 0 := lss_t hA c56
              exact absurd q7 (Int.not_lt.2 s0)
             ·
              have q7 : 0 ≤ q54 := lss_f hA c56
              refine gk (gs (gs (gr (ra hA 3 (by cbv) (od ?_)))))
              refine go_cond rfl (fun c57 => ?_) (fun c57 => ?_)
              ·
               exact no_t c57 (show (A.cmp .neq q54 m35) = false from by subst hA; simp [std, r6, q9])
              ·
               refine gk (gs (gr (ra hA 1 (by cbv) (od ?_))))
               refine go_ret ⟨_, by cbv, ?_⟩
               show _ = (PV.bool true)
               rfl
end Go.Av
