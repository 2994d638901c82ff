/- Walks: what is held. -/
import Derived.Test.YtjbokkoiicoahaaGreatM2
namespace Go.Av
open Go Go.Proofs
set_option maxRecDepth 100000
set_option maxHeartbeats 4000000
set_option linter.unusedVariables false
set_option linter.unusedSimpArgs false
theorem m_laws_markDisk (A : Alg) (hA : A = std) (x : GDisk) (k : Int) (h0 : 0 ≤ k) (h1 : k + cnDisk x ≤ 1099511627776) : RealM Tryz.prog 117 [.agg (eoDisk x), .ii k] [.agg (eoDisk (mkDisk k x)), .ii k] (.ii (k + cnStringS x.Sectors + cnWriteS x.Cache)) := by
 obtain ⟨d0, e1⟩ := x
 obtain ⟨g3, e7⟩ := nm (d0.map eString)
 have k7 := rlen_map hA e7
 obtain ⟨g8, g0⟩ := nm (e1.map eoWrite)
 have l3 := rlen_map hA g0
 refine realM_args (args1 := [.agg [.ow 1 g3, .ow 2 g8], .ii k]) (by subst e7 g0; rfl) rfl ?_
 have h1 : k + (cnStringS d0 + cnWriteS e1) ≤ 1099511627776 := h1
 have nn0 := cnStringS_nn d0
 have nn1 := cnWriteS_nn e1
 refine realM tyOk Tryz.func117 (by kernel_rfl) (afunM_of rfl (by cbv) (fun hv => ?_))
 refine gs (gB (rn hA 2 (oz ?_)))
 refine gs (gB (rn hA 3 ?_))
 obtain ⟨b2, m1, b4, hm1, e9⟩ : ∃ (b2 : RR) (m1 : Int), b2 = List.map eString (mkStringS k d0) ∧ m1 = k + cnStringS d0 ∧ RealM Tryz.prog 72 [.ow 1 g3, .ii k] [.ow 1 b2, .ii k] (.ii m1) := ⟨_, _, rfl, rfl, by subst e7; exact m_laws_markStringS A hA d0 k (by omega) (by omega)⟩
 have g4 := rlen_map hA b4
 have i4 := cnStringS_nn d0
 have nm1 : 0 ≤ m1 := by omega
 refine ops_callM rfl (by cbv) (by cbv) (by cbv) e9 rfl (by cbv) ?_
 refine rn hA 1 (oz ?_)
 refine gs (gB (rn hA 3 ?_))
 obtain ⟨f8, m3, f4, hm3, j9⟩ : ∃ (f8 : RR) (m3 : Int), f8 = List.map eoWrite (mkWriteS m1 e1) ∧ m3 = m1 + cnWriteS e1 ∧ RealM Tryz.prog 157 [.ow 2 g8, .ii m1] [.ow 2 f8, .ii m1] (.ii m3) := ⟨_, _, rfl, rfl, by subst g0; exact m_laws_markWriteS A hA e1 m1 (by omega) (by omega)⟩
 have l2 := rlen_map hA f4
 have k1 := cnWriteS_nn e1
 have nm3 : 0 ≤ m3 := by omega
 refine ops_callM rfl (by cbv) (by cbv) (by cbv) j9 rfl (by cbv) ?_
 refine rn hA 1 (oz ?_)
 refine gs (gB (rn hA 2 (oz ?_)))
 refine go_ret ⟨⟨rfl, rfl, trivial⟩, Eq.trans (b := some [.agg [.ow 1 b2, .ow 2 f8], .ii k]) (by cbv) ?_, _, by cbv, ?_⟩
 ·
  subst b4 hm1 f4 hm3
  rfl
 show _ = (PV.int .i64 m3)
 subst b4 hm1 f4 hm3
 rfl
theorem m_laws_markLog (A : Alg) (hA : A = std) (x : GLog) (k : Int) (h0 : 0 ≤ k) (h1 : k + cnLog x ≤ 1099511627776) : RealM Tryz.prog 69 [.agg (eoLog x), .ii k] [.agg (eoLog (mkLog k x)), .ii k] (.ii (k + cnStringS x.Disk.Sectors + cnWriteS x.Disk.Cache + cnSegS x.Used)) := by
 obtain ⟨⟨a6, b3⟩, j7, e8, g7, g6, i5, d4⟩ := x
 obtain ⟨f0, d3⟩ := nm (a6.map eString)
 have j8 := rlen_map hA d3
 obtain ⟨f3, d7⟩ := nm (b3.map eoWrite)
 have k5 := rlen_map hA d7
 obtain ⟨i3, g2⟩ := nm (e8.map eoSeg)
 have l4 := rlen_map hA g2
 refine realM_args (args1 := [.agg [.ow 1 f0, .ow 2 f3, .ii j7, .ow 4 i3, .ii g7, .ii g6, .ii i5, .ii d4], .ii k]) (by subst d3 d7 g2; rfl) rfl ?_
 have h1 : k + (cnStringS a6 + cnWriteS b3 + cnSegS e8) ≤ 1099511627776 := h1
 have nn0 := cnStringS_nn a6
 have nn1 := cnWriteS_nn b3
 have nn3 := cnSegS_nn e8
 refine realM tyOk Tryz.func69 (by kernel_rfl) (afunM_of rfl (by cbv) (fun hv => ?_))
 refine gs (gB (rn hA 2 (oz ?_)))
 refine gs (gB (rn hA 3 ?_))
 have k2 : cnDisk (⟨a6, b3⟩ : GDisk) = cnStringS a6 + cnWriteS b3 := rfl
 obtain ⟨b2, d8, m1, b4, d9, hm1, e9⟩ : ∃ (b2 : RR) (d8 : RR) (m1 : Int), b2 = List.map eString (mkStringS (k) a6) ∧ d8 = List.map eoWrite (mkWriteS (k + cnStringS a6) b3) ∧ m1 = k + cnStringS a6 + cnWriteS b3 ∧ RealM Tryz.prog 117 [.agg [.ow 1 f0, .ow 2 f3], .ii k] [.agg [.ow 1 b2, .ow 2 d8], .ii k] (.ii m1) := ⟨_, _, _, rfl, rfl, rfl, by subst d3 d7; exact m_laws_markDisk A hA (⟨a6, b3⟩ : GDisk) k (by omega) (by omega)⟩
 have g4 := rlen_map hA b4
 have k4 := rlen_map hA d9
 have i4 := cnStringS_nn a6
 have k8 := cnWriteS_nn b3
 have nm1 : 0 ≤ m1 := by omega
 refine ops_callM rfl (by cbv) (by cbv) (by cbv) e9 rfl (by cbv) ?_
 refine rn hA 1 (oz ?_)
 refine gs (gB (rn hA 3 ?_))
 obtain ⟨j0, m4, i8, hm4, l7⟩ : ∃ (j0 : RR) (m4 : Int), j0 = List.map eoSeg (mkSegS m1 e8) ∧ m4 = m1 + cnSegS e8 ∧ RealM Tryz.prog 118 [.ow 4 i3, .ii m1] [.ow 4 j0, .ii m1] (.ii m4) := ⟨_, _, rfl, rfl, by subst g2; exact m_laws_markSegS A hA e8 m1 (by omega) (by omega)⟩
 have l9 := rlen_map hA i8
 have l6 := cnSegS_nn e8
 have nm4 : 0 ≤ m4 := by omega
 refine ops_callM rfl (by cbv) (by cbv) (by cbv) l7 rfl (by cbv) ?_
 refine rn hA 1 (oz ?_)
 refine gs (gB (rn hA 2 (oz ?_)))
 refine go_ret ⟨⟨rfl, rfl, rfl, trivial⟩, Eq.trans (b := some [.agg [.ow 1 b2, .ow 2 d8, .ii j7, .ow 4 j0, .ii g7, .ii g6, .ii i5, .ii d4], .ii k]) (by cbv) ?_, _, by cbv, ?_⟩
 ·
  subst b4 d9 hm1 i8 hm4
  rfl
 show _ = (PV.int .i64 m4)
 subst b4 d9 hm1 i8 hm4
 rfl
theorem m_laws_markStore (A : Alg) (hA : A = std) (x : GStore) (k : Int) (h0 : 0 ≤ k) (h1 : k + cnStore x ≤ 1099511627776) : RealM Tryz.prog 36 [.agg (eoStore x), .ii k] [.agg (eoStore (mkStore k x)), .ii k] (.ii (k + cnStringS x.Log.Disk.Sectors + cnWriteS x.Log.Disk.Cache + cnSegS x.Log.Used + cnIntS x.Freed)) := by
 obtain ⟨⟨⟨a2, a4⟩, d2, c0, c3, c2, c6, b8⟩, e3⟩ := x
 obtain ⟨e0, c4⟩ := nm (a2.map eString)
 have i6 := rlen_map hA c4
 obtain ⟨e4, c7⟩ := nm (a4.map eoWrite)
 have j5 := rlen_map hA c7
 obtain ⟨g1, e6⟩ := nm (c0.map eoSeg)
 have k6 := rlen_map hA e6
 obtain ⟨g9, f6⟩ := nm (e3.map eInt)
 have l0 := rlen_map hA f6
 refine realM_args (args1 := [.agg [.ow 1 e0, .ow 2 e4, .ii d2, .ow 4 g1, .ii c3, .ii c2, .ii c6, .ii b8, .ow 1 g9], .ii k]) (by subst c4 c7 e6 f6; rfl) rfl ?_
 have h1 : k + (cnStringS a2 + cnWriteS a4 + cnSegS c0 + cnIntS e3) ≤ 1099511627776 := h1
 have nn0 := cnStringS_nn a2
 have nn1 := cnWriteS_nn a4
 have nn3 := cnSegS_nn c0
 have nn8 := cnIntS_nn e3
 refine realM tyOk Tryz.func36 (by kernel_rfl) (afunM_of rfl (by cbv) (fun hv => ?_))
 refine gs (gB (rn hA 2 (oz ?_)))
 refine gs (gB (rn hA 3 ?_))
 have k2 : cnLog (⟨⟨a2, a4⟩, d2, c0, c3, c2, c6, b8⟩ : GLog) = cnStringS a2 + cnWriteS a4 + cnSegS c0 := rfl
 obtain ⟨b2, d8, f5, m1, b4, d9, f7, hm1, e9⟩ : ∃ (b2 : RR) (d8 : RR) (f5 : RR) (m1 : Int), b2 = List.map eString (mkStringS (k) a2) ∧ d8 = List.map eoWrite (mkWriteS (k + cnStringS a2) a4) ∧ f5 = List.map eoSeg (mkSegS (k + cnStringS a2 + cnWriteS a4) c0) ∧ m1 = k + cnStringS a2 + cnWriteS a4 + cnSegS c0 ∧ RealM Tryz.prog 69 [.agg [.ow 1 e0, .ow 2 e4, .ii d2, .ow 4 g1, .ii c3, .ii c2, .ii c6, .ii b8], .ii k] [.agg [.ow 1 b2, .ow 2 d8, .ii d2, .ow 4 f5, .ii c3, .ii c2, .ii c6, .ii b8], .ii k] (.ii m1) := ⟨_, _, _, _, rfl, rfl, rfl, rfl, by subst c4 c7 e6; exact m_laws_markLog A hA (⟨⟨a2, a4⟩, d2, c0, c3, c2, c6, b8⟩ : GLog) k (by omega) (by omega)⟩
 have g4 := rlen_map hA b4
 have k4 := rlen_map hA d9
 have l1 := rlen_map hA f7
 have i4 := cnStringS_nn a2
 have k8 := cnWriteS_nn a4
 have k1 := cnSegS_nn c0
 have nm1 : 0 ≤ m1 := by omega
 refine ops_callM rfl (by cbv) (by cbv) (by cbv) e9 rfl (by cbv) ?_
 refine rn hA 1 (oz ?_)
 refine gs (gB (rn hA 3 ?_))
 obtain ⟨j3, m5, i7, hm5, l5⟩ : ∃ (j3 : RR) (m5 : Int), j3 = List.map eInt (mkIntS m1 e3) ∧ m5 = m1 + cnIntS e3 ∧ RealM Tryz.prog 70 [.ow 1 g9, .ii m1] [.ow 1 j3, .ii m1] (.ii m5) := ⟨_, _, rfl, rfl, by subst f6; exact m_laws_markIntS A hA e3 m1 (by omega) (by omega)⟩
 have m7 := rlen_map hA i7
 have m9 := cnIntS_nn e3
 have nm5 : 0 ≤ m5 := by omega
 refine ops_callM rfl (by cbv) (by cbv) (by cbv) l5 rfl (by cbv) ?_
 refine rn hA 1 (oz ?_)
 refine gs (gB (rn hA 2 (oz ?_)))
 refine go_ret ⟨⟨rfl, rfl, rfl, rfl, trivial⟩, Eq.trans (b := some [.agg [.ow 1 b2, .ow 2 d8, .ii d2, .ow 4 f5, .ii c3, .ii c2, .ii c6, .ii b8, .ow 1 j3], .ii k]) (by cbv) ?_, _, by cbv, ?_⟩
 ·
  subst b4 d9 f7 hm1 i7 hm5
  rfl
 show _ = (PV.int .i64 m5)
 subst b4 d9 f7 hm1 i7 hm5
 rfl
theorem m_laws_markServer (A : Alg) (hA : A = std) (x : GServer) (k : Int) (h0 : 0 ≤ k) (h1 : k + cnServer x ≤ 1099511627776) : RealM Tryz.prog 12 [.agg (eoServer x), .ii k] [.agg (eoServer (mkServer k x)), .ii k] (.ii (k + cnStringS x.Store.Log.Disk.Sectors + cnWriteS x.Store.Log.Disk.Cache + cnSegS x.Store.Log.Used + cnIntS x.Store.Freed + cnSessionS x.Sessions)) := by
 obtain ⟨⟨⟨⟨a0, a1⟩, b6, a3, a9, a8, b5, a7⟩, b0⟩, a5⟩ := x
 obtain ⟨c5, b7⟩ := nm (a0.map eString)
 have i0 := rlen_map hA b7
 obtain ⟨d1, c1⟩ := nm (a1.map eoWrite)
 have i2 := rlen_map hA c1
 obtain ⟨e5, c8⟩ := nm (a3.map eoSeg)
 have j6 := rlen_map hA c8
 obtain ⟨f1, d6⟩ := nm (b0.map eInt)
 have k3 := rlen_map hA d6
 obtain ⟨c9, b9⟩ := nm (a5.map eoSession)
 have i1 := rlen_map hA b9
 refine realM_args (args1 := [.agg [.ow 1 c5, .ow 2 d1, .ii b6, .ow 4 e5, .ii a9, .ii a8, .ii b5, .ii a7, .ow 1 f1, .ow 17 c9], .ii k]) (by subst b7 c1 c8 d6 b9; rfl) rfl ?_
 have h1 : k + (cnStringS a0 + cnWriteS a1 + cnSegS a3 + cnIntS b0 + cnSessionS a5) ≤ 1099511627776 := h1
 have nn0 := cnStringS_nn a0
 have nn1 := cnWriteS_nn a1
 have nn3 := cnSegS_nn a3
 have nn8 := cnIntS_nn b0
 have nn9 := cnSessionS_nn a5
 refine realM tyOk Tryz.func12 (by kernel_rfl) (afunM_of rfl (by cbv) (fun hv => ?_))
 refine gs (gB (rn hA 2 (oz ?_)))
 refine gs (gB (rn hA 3 ?_))
 have k2 : cnStore (⟨⟨⟨a0, a1⟩, b6, a3, a9, a8, b5, a7⟩, b0⟩ : GStore) = cnStringS a0 + cnWriteS a1 + cnSegS a3 + cnIntS b0 := rfl
 obtain ⟨b2, d8, f5, j2, m1, b4, d9, f7, i9, hm1, e9⟩ : ∃ (b2 : RR) (d8 : RR) (f5 : RR) (j2 : RR) (m1 : Int), b2 = List.map eString (mkStringS (k) a0) ∧ d8 = List.map eoWrite (mkWriteS (k + cnStringS a0) a1) ∧ f5 = List.map eoSeg (mkSegS (k + cnStringS a0 + cnWriteS a1) a3) ∧ j2 = List.map eInt (mkIntS (k + cnStringS a0 + cnWriteS a1 + cnSegS a3) b0) ∧ m1 = k + cnStringS a0 + cnWriteS a1 + cnSegS a3 + cnIntS b0 ∧ RealM Tryz.prog 36 [.agg [.ow 1 c5, .ow 2 d1, .ii b6, .ow 4 e5, .ii a9, .ii a8, .ii b5, .ii a7, .ow 1 f1], .ii k] [.agg [.ow 1 b2, .ow 2 d8, .ii b6, .ow 4 f5, .ii a9, .ii a8, .ii b5, .ii a7, .ow 1 j2], .ii k] (.ii m1) := ⟨_, _, _, _, _, rfl, rfl, rfl, rfl, rfl, by subst b7 c1 c8 d6; exact m_laws_markStore A hA (⟨⟨⟨a0, a1⟩, b6, a3, a9, a8, b5, a7⟩, b0⟩ : GStore) k (by omega) (by omega)⟩
 have g4 := rlen_map hA b4
 have k4 := rlen_map hA d9
 have l1 := rlen_map hA f7
 have m0 := rlen_map hA i9
 have i4 := cnStringS_nn a0
 have k8 := cnWriteS_nn a1
 have k1 := cnSegS_nn a3
 have l6 := cnIntS_nn b0
 have nm1 : 0 ≤ m1 := by omega
 refine ops_callM rfl (by cbv) (by cbv) (by cbv) e9 rfl (by cbv) ?_
 refine rn hA 1 (oz ?_)
 refine gs (gB (rn hA 3 ?_))
 obtain ⟨j4, m6, j1, hm6, l8⟩ : ∃ (j4 : RR) (m6 : Int), j4 = List.map eoSession (mkSessionS m1 a5) ∧ m6 = m1 + cnSessionS a5 ∧ RealM Tryz.prog 37 [.ow 17 c9, .ii m1] [.ow 17 j4, .ii m1] (.ii m6) := ⟨_, _, rfl, rfl, by subst b9; exact m_laws_markSessionS A hA a5 m1 (by omega) (by omega)⟩
 have m2 := rlen_map hA j1
 have m8 := cnSessionS_nn a5
 have nm6 : 0 ≤ m6 := by omega
 refine ops_callM rfl (by cbv) (by cbv) (by cbv) l8 rfl (by cbv) ?_
 refine rn hA 1 (oz ?_)
 refine gs (gB (rn hA 2 (oz ?_)))
 refine go_ret ⟨⟨rfl, rfl, rfl, rfl, rfl, trivial⟩, Eq.trans (b := some [.agg [.ow 1 b2, .ow 2 d8, .ii b6, .ow 4 f5, .ii a9, .ii a8, .ii b5, .ii a7, .ow 1 j2, .ow 17 j4], .ii k]) (by cbv) ?_, _, by cbv, ?_⟩
 ·
  subst b4 d9 f7 i9 hm1 j1 hm6
  rfl
 show _ = (PV.int .i64 m6)
 subst b4 d9 f7 i9 hm1 j1 hm6
 rfl
theorem m_laws_markState (A : Alg) (hA : A = std) (x : GState) (k : Int) (h0 : 0 ≤ k) (h1 : k + cnState x ≤ 1099511627776) : RealM Tryz.prog 53 [.agg (eoState x), .ii k] [.agg (eoState (mkState k x)), .ii k] (.ii (k + cnBoxS x.Boxes)) := by
 obtain ⟨e2⟩ := x
 obtain ⟨g5, f9⟩ := nm (e2.map eoBox)
 have k9 := rlen_map hA f9
 refine realM_args (args1 := [.agg [.ow 5 g5], .ii k]) (by subst f9; rfl) rfl ?_
 have h1 : k + (cnBoxS e2) ≤ 1099511627776 := h1
 have nn0 := cnBoxS_nn e2
 refine realM tyOk Tryz.func53 (by kernel_rfl) (afunM_of rfl (by cbv) (fun hv => ?_))
 refine gs (gB (rn hA 2 (oz ?_)))
 refine gs (gB (rn hA 3 ?_))
 obtain ⟨b2, m1, b4, hm1, e9⟩ : ∃ (b2 : RR) (m1 : Int), b2 = List.map eoBox (mkBoxS k e2) ∧ m1 = k + cnBoxS e2 ∧ RealM Tryz.prog 97 [.ow 5 g5, .ii k] [.ow 5 b2, .ii k] (.ii m1) := ⟨_, _, rfl, rfl, by subst f9; exact m_laws_markBoxS A hA e2 k (by omega) (by omega)⟩
 have g4 := rlen_map hA b4
 have i4 := cnBoxS_nn e2
 have nm1 : 0 ≤ m1 := by omega
 refine ops_callM rfl (by cbv) (by cbv) (by cbv) e9 rfl (by cbv) ?_
 refine rn hA 1 (oz ?_)
 refine gs (gB (rn hA 2 (oz ?_)))
 refine go_ret ⟨⟨rfl, trivial⟩, Eq.trans (b := some [.agg [.ow 5 b2], .ii k]) (by cbv) ?_, _, by cbv, ?_⟩
 ·
  subst b4 hm1
  rfl
 show _ = (PV.int .i64 m1)
 subst b4 hm1
 rfl
theorem m_laws_markPlain (A : Alg) (hA : A = std) (x : GPlain) (k : Int) (h0 : 0 ≤ k) (h1 : k + cnPlain x ≤ 1099511627776) : RealM Tryz.prog 23 [.agg (eoPlain x), .ii k] [.agg (eoPlain (mkPlain k x)), .ii k] (.ii (k + cnBoxS x.State.Boxes + cnSessionS x.Sessions)) := by
 obtain ⟨⟨b1⟩, d4, a5⟩ := x
 obtain ⟨f2, d5⟩ := nm (b1.map eoBox)
 have k0 := rlen_map hA d5
 obtain ⟨c9, b9⟩ := nm (a5.map eoSession)
 have i1 := rlen_map hA b9
 refine realM_args (args1 := [.agg [.ow 5 f2, .ii d4, .ow 17 c9], .ii k]) (by subst d5 b9; rfl) rfl ?_
 have h1 : k + (cnBoxS b1 + cnSessionS a5) ≤ 1099511627776 := h1
 have nn0 := cnBoxS_nn b1
 have nn2 := cnSessionS_nn a5
 refine realM tyOk Tryz.func23 (by kernel_rfl) (afunM_of rfl (by cbv) (fun hv => ?_))
 refine gs (gB (rn hA 2 (oz ?_)))
 refine gs (gB (rn hA 3 ?_))
 have k2 : cnState (⟨b1⟩ : GState) = cnBoxS b1 := rfl
 obtain ⟨b2, m1, b4, hm1, e9⟩ : ∃ (b2 : RR) (m1 : Int), b2 = List.map eoBox (mkBoxS (k) b1) ∧ m1 = k + cnBoxS b1 ∧ RealM Tryz.prog 53 [.agg [.ow 5 f2], .ii k] [.agg [.ow 5 b2], .ii k] (.ii m1) := ⟨_, _, rfl, rfl, by subst d5; exact m_laws_markState A hA (⟨b1⟩ : GState) k (by omega) (by omega)⟩
 have g4 := rlen_map hA b4
 have i4 := cnBoxS_nn b1
 have nm1 : 0 ≤ m1 := by omega
 refine ops_callM rfl (by cbv) (by cbv) (by cbv) e9 rfl (by cbv) ?_
 refine rn hA 1 (oz ?_)
 refine gs (gB (rn hA 3 ?_))
 obtain ⟨f8, m3, f4, hm3, j9⟩ : ∃ (f8 : RR) (m3 : Int), f8 = List.map eoSession (mkSessionS m1 a5) ∧ m3 = m1 + cnSessionS a5 ∧ RealM Tryz.prog 37 [.ow 17 c9, .ii m1] [.ow 17 f8, .ii m1] (.ii m3) := ⟨_, _, rfl, rfl, by subst b9; exact m_laws_markSessionS A hA a5 m1 (by omega) (by omega)⟩
 have l2 := rlen_map hA f4
 have k1 := cnSessionS_nn a5
 have nm3 : 0 ≤ m3 := by omega
 refine ops_callM rfl (by cbv) (by cbv) (by cbv) j9 rfl (by cbv) ?_
 refine rn hA 1 (oz ?_)
 refine gs (gB (rn hA 2 (oz ?_)))
 refine go_ret ⟨⟨rfl, rfl, trivial⟩, Eq.trans (b := some [.agg [.ow 5 b2, .ii d4, .ow 17 f8], .ii k]) (by cbv) ?_, _, by cbv, ?_⟩
 ·
  subst b4 hm1 f4 hm3
  rfl
 show _ = (PV.int .i64 m3)
 subst b4 hm1 f4 hm3
 rfl
end Go.Av
namespace Go.Av
open Go Go.Proofs
set_option maxRecDepth 100000
set_option maxHeartbeats 4000000
set_option linter.unusedVariables false
set_option linter.unusedSimpArgs false
def S77_1 (p0 : RR) (p1 : Int) (p2 : Int) : St := { sl := [.sl 1 p0, .ii p1, .bad, .bad, .bad, .ii p2, .bad, .bad, .bad, .bad, .bad, .bad, .bad, .bad, .bad, .bad, .bad, .bad, .bad, .bad, .bad, .bad], bl := [] }
theorem r_laws_heldStringS (A : Alg) (hA : A = std) (x : List ByteArray) (k : Int) (h0 : 0 ≤ k) (h1 : k + cnStringS x ≤ 1099511627776) : Real Tryz.prog 77 [.sl 1 (List.map eString (mkStringS k x)), .ii k] (.ii (k + cnStringS x)) := by
 obtain ⟨a_r, b1⟩ := nm (List.map eString (mkStringS k x))
 have l5 : A.rlen a_r = (List.length x : Int) := by rw [rlen_map hA b1, mkStringS_len]
 have h2 : (List.length x : Int) ≤ 1099511627776 := by have := cnStringS_ge x; omega
 refine real_args (args' := [.sl 1 a_r, .ii k]) (by subst b1; rfl) ?_
 refine real tyOk Tryz.func77 (by kernel_rfl) (afun_of rfl ?_)
 refine gx hA 1 ?_
 refine gs (gx hA 1 ?_)
 refine go_block ?_
 refine go_loopE (fun σ m => ∃ (i : Nat) (n5 : Int) (kk : Int), σ = (S77_1 a_r kk n5) ∧ (n5 = (i : Int) ∧ i ≤ List.length x ∧ kk = k + cnStringS (x.take i)) ∧ m = List.length x - i) _ [] [0, 1, 5] [] (S77_1 a_r k 0) rfl (by cbv) ⟨0, 0, k, rfl, ?_, rfl⟩ (fun σ m hI => ?_)
 ·
  exact ⟨rfl, Nat.zero_le _, by simp [cnStringS]⟩
 obtain ⟨i, n5, kk, rfl, ⟨hn5, hi, hkk⟩, rfl⟩ := hI
 refine gs (gx hA 4 ?_)
 refine go_cond rfl (fun c1 => ?_) (fun c1 => ?_)
 ·
  have ec1 : n5 < (A.rlen a_r) := lss_t hA c1
  refine gk (gs ?_)
  refine go_block ?_
  refine gs (gs ?_)
  have h05 : (0 : Int) ≤ n5 := by omega
  have hlt : i < List.length x := by omega
  obtain ⟨y, hyi⟩ : ∃ y, x[i]? = some y := ⟨_, List.getElem?_eq_getElem hlt⟩
  have cat := cnStringS_at hyi
  have cle := cnStringS_le x (i + 1)
  have cnn := cnStringS_nn (x.take i)
  have hro := mkStringS_get k hyi
  rw [← hkk] at hro
  have cce : ceString y = 1 := rfl
  obtain ⟨r1, hr1, e1⟩ : ∃ r : Int, r = 0 ∧ 0 ≤ r := ⟨0, rfl, by decide⟩
  obtain ⟨r0, hr0, e0⟩ : ∃ r : Int, r = 1 + r1 ∧ 0 ≤ r := ⟨_, rfl, nn_add (by decide) e1⟩
  have p0 : 0 ≤ kk := by clear hr1 e1 hr0 e0; omega
  have hrce : r0 = ceString y := by subst hr1 hr0; rw [cce]; omega
  have q0 : kk + r0 ≤ 1099511627776 ∧ kk + r0 = kk + r0 := ⟨by clear hr1 e1 hr0 e0; omega, rfl⟩
  have k9 : n5 < (List.length x : Int) := by clear hr1 e1 hr0 e0; omega
  have hi1 : i + 1 ≤ List.length x := by clear hr1 e1 hr0 e0; omega
  have f3 : A.num .add .i64 n5 1 = ((i + 1 : Nat) : Int) := by
   clear hr1 e1 hr0 e0; rw [add_i64 hA (by omega) (by omega)]; omega
  have hdec : List.length x - (i + 1) < List.length x - i := by clear hr1 e1 hr0 e0; omega
  obtain ⟨s_0, y7⟩ := nm (mt kk : ByteArray)
  obtain ⟨c_1, f6, d5, f5, d7⟩ := add_one hA p0 q0 hr0 e1
  have hrow : ([.str s_0] : List PV) = eString (meString kk y) := by
   subst f6
   show _ = ([_] : List PV)
   exact congr (congrArg List.cons (congrArg PV.str y7)) (rfl)
  have hget : a_r[(Int.toNat n5)]? = some [.str s_0] := by
   rw [hrow, hn5]; exact map_at eString b1 hro
  refine go_draw [0, 1, 2, 3, 4, 5, 6] (by cbv) ?_
  refine dn_ hA 2 ?_
  refine dops_step rfl rfl rfl (idx_sl rfl rfl rfl rfl rfl h05 rfl hget) ?_
  refine dn_ hA 2 ?_
  obtain ⟨o1, x7, hc3⟩ : ∃ (o1 : ByteArray), o1 = (mt kk) ∧ Real Tryz.prog 71 [.ii kk] (.str o1) := ⟨_, rfl, by exact r_laws_markText A hA kk p0 (le_k q0 e0)⟩
  refine dops_callV rfl rfl (by cbv) (by cbv) hc3 (.inr rfl) ?_
  refine dz hA 1 ?_
  refine go_cond rfl (fun c4 => ?_) (fun c4 => ?_)
  ·
   exact no_t c4 (show (A.scmp .neq s_0 o1) = false from by subst hA; simp [std, y7, x7])
  refine gk (gr (rn hA 1 ?_))
  refine ops_step rfl rfl (int_add hA rfl rfl rfl d5) ?_
  refine rz hA 1 ?_
  refine gy hA 3 ?_
  refine ⟨(S77_1 a_r c_1 (A.num .add .i64 n5 1)), List.length x - (i + 1), ?_, by cbv, i + 1, (A.num .add .i64 n5 1), c_1, rfl, ?_, rfl⟩
  ·
   exact hdec
  exact ⟨f3, hi1, fin_k d7 hr1 hrce hkk cat⟩
 have ec1 : (A.rlen a_r) ≤ n5 := lss_f hA c1
 refine go_exit ⟨fun _ => ?_, fun h => absurd rfl h⟩
 refine gx hA 2 ?_
 refine go_ret ⟨_, by cbv, ?_⟩
 show _ = (PV.int .i64 kk)
 refine congrArg (PV.int .i64) ?_
 rw [hkk, List.take_of_length_le (by omega)]
def S76_1 (p0 : RR) (p1 : Int) (p2 : Int) : St := { sl := [.sl 1 p0, .ii p1, .bad, .bad, .bad, .ii p2, .bad, .bad, .bad, .bad, .bad, .bad, .bad, .bad, .bad, .bad, .bad, .bad, .bad, .bad, .bad], bl := [] }
theorem r_laws_heldIntS (A : Alg) (hA : A = std) (x : List Int) (k : Int) (h0 : 0 ≤ k) (h1 : k + cnIntS x ≤ 1099511627776) : Real Tryz.prog 76 [.sl 1 (List.map eInt (mkIntS k x)), .ii k] (.ii (k + cnIntS x)) := by
 obtain ⟨a_r, b1⟩ := nm (List.map eInt (mkIntS k x))
 have l5 : A.rlen a_r = (List.length x : Int) := by rw [rlen_map hA b1, mkIntS_len]
 have h2 : (List.length x : Int) ≤ 1099511627776 := by have := cnIntS_ge x; omega
 refine real_args (args' := [.sl 1 a_r, .ii k]) (by subst b1; rfl) ?_
 refine real tyOk Tryz.func76 (by kernel_rfl) (afun_of rfl ?_)
 refine gx hA 1 ?_
 refine gs (gx hA 1 ?_)
 refine go_block ?_
 refine go_loopE (fun σ m => ∃ (i : Nat) (n5 : Int) (kk : Int), σ = (S76_1 a_r kk n5) ∧ (n5 = (i : Int) ∧ i ≤ List.length x ∧ kk = k + cnIntS (x.take i)) ∧ m = List.length x - i) _ [] [0, 1, 5] [] (S76_1 a_r k 0) rfl (by cbv) ⟨0, 0, k, rfl, ?_, rfl⟩ (fun σ m hI => ?_)
 ·
  exact ⟨rfl, Nat.zero_le _, by simp [cnIntS]⟩
 obtain ⟨i, n5, kk, rfl, ⟨hn5, hi, hkk⟩, rfl⟩ := hI
 refine gs (gx hA 4 ?_)
 refine go_cond rfl (fun c1 => ?_) (fun c1 => ?_)
 ·
  have ec1 : n5 < (A.rlen a_r) := lss_t hA c1
  refine gk (gs ?_)
  refine go_block ?_
  refine gs (gs ?_)
  have h05 : (0 : Int) ≤ n5 := by omega
  have hlt : i < List.length x := by omega
  obtain ⟨y, hyi⟩ : ∃ y, x[i]? = some y := ⟨_, List.getElem?_eq_getElem hlt⟩
  have cat := cnIntS_at hyi
  have cle := cnIntS_le x (i + 1)
  have cnn := cnIntS_nn (x.take i)
  have hro := mkIntS_get k hyi
  rw [← hkk] at hro
  have cce : ceInt y = 1 := rfl
  obtain ⟨r1, hr1, e1⟩ : ∃ r : Int, r = 0 ∧ 0 ≤ r := ⟨0, rfl, by decide⟩
  obtain ⟨r0, hr0, e0⟩ : ∃ r : Int, r = 1 + r1 ∧ 0 ≤ r := ⟨_, rfl, nn_add (by decide) e1⟩
  have p0 : 0 ≤ kk := by clear hr1 e1 hr0 e0; omega
  have hrce : r0 = ceInt y := by subst hr1 hr0; rw [cce]; omega
  have q0 : kk + r0 ≤ 1099511627776 ∧ kk + r0 = kk + r0 := ⟨by clear hr1 e1 hr0 e0; omega, rfl⟩
  have k9 : n5 < (List.length x : Int) := by clear hr1 e1 hr0 e0; omega
  have hi1 : i + 1 ≤ List.length x := by clear hr1 e1 hr0 e0; omega
  have f3 : A.num .add .i64 n5 1 = ((i + 1 : Nat) : Int) := by
   clear hr1 e1 hr0 e0; rw [add_i64 hA (by omega) (by omega)]; omega
  have hdec : List.length x - (i + 1) < List.length x - i := by clear hr1 e1 hr0 e0; omega
  obtain ⟨c_1, f6, d5, f5, d7⟩ := add_one hA p0 q0 hr0 e1
  have hrow : ([.ii kk] : List PV) = eInt (meInt kk y) := by
   subst f6
   show _ = ([_] : List PV)
   exact congr (congrArg List.cons (congrArg (PV.int .i64) rfl)) (rfl)
  have hget : a_r[(Int.toNat n5)]? = some [.ii kk] := by
   rw [hrow, hn5]; exact map_at eInt b1 hro
  refine gr (rn hA 2 ?_)
  refine ops_step rfl rfl (idx_sl rfl rfl rfl rfl rfl h05 rfl hget) ?_
  refine rz hA 3 ?_
  refine go_cond rfl (fun c2 => ?_) (fun c2 => ?_)
  ·
   exact no_t c2 (show (A.cmp .neq kk kk) = false from by subst hA; simp [std])
  refine gk (gr (rn hA 1 ?_))
  refine ops_step rfl rfl (int_add hA rfl rfl rfl d5) ?_
  refine rz hA 1 ?_
  refine gy hA 3 ?_
  refine ⟨(S76_1 a_r c_1 (A.num .add .i64 n5 1)), List.length x - (i + 1), ?_, by cbv, i + 1, (A.num .add .i64 n5 1), c_1, rfl, ?_, rfl⟩
  ·
   exact hdec
  exact ⟨f3, hi1, fin_k d7 hr1 hrce hkk cat⟩
 have ec1 : (A.rlen a_r) ≤ n5 := lss_f hA c1
 refine go_exit ⟨fun _ => ?_, fun h => absurd rfl h⟩
 refine gx hA 2 ?_
 refine go_ret ⟨_, by cbv, ?_⟩
 show _ = (PV.int .i64 kk)
 refine congrArg (PV.int .i64) ?_
 rw [hkk, List.take_of_length_le (by omega)]
def S79_1 (p0 : RR) (p1 : Int) (p2 : Int) : St := { sl := [.sl 1 p0, .ii p1, .bad, .bad, .bad, .ii p2, .bad, .bad, .bad, .bad, .bad, .bad, .bad, .bad, .bad, .bad, .bad, .bad, .bad, .bad, .bad, .bad, .bad], bl := [] }
theorem r_laws_heldBoolS (A : Alg) (hA : A = std) (x : List Bool) (k : Int) (h0 : 0 ≤ k) (h1 : k + cnBoolS x ≤ 1099511627776) : Real Tryz.prog 79 [.sl 1 (List.map eBool (mkBoolS k x)), .ii k] (.ii (k + cnBoolS x)) := by
 obtain ⟨a_r, b1⟩ := nm (List.map eBool (mkBoolS k x))
 have l5 : A.rlen a_r = (List.length x : Int) := by rw [rlen_map hA b1, mkBoolS_len]
 have h2 : (List.length x : Int) ≤ 1099511627776 := by have := cnBoolS_ge x; omega
 refine real_args (args' := [.sl 1 a_r, .ii k]) (by subst b1; rfl) ?_
 refine real tyOk Tryz.func79 (by kernel_rfl) (afun_of rfl ?_)
 refine gx hA 1 ?_
 refine gs (gx hA 1 ?_)
 refine go_block ?_
 refine go_loopE (fun σ m => ∃ (i : Nat) (n5 : Int) (kk : Int), σ = (S79_1 a_r kk n5) ∧ (n5 = (i : Int) ∧ i ≤ List.length x ∧ kk = k + cnBoolS (x.take i)) ∧ m = List.length x - i) _ [] [0, 1, 5] [] (S79_1 a_r k 0) rfl (by cbv) ⟨0, 0, k, rfl, ?_, rfl⟩ (fun σ m hI => ?_)
 ·
  exact ⟨rfl, Nat.zero_le _, by simp [cnBoolS]⟩
 obtain ⟨i, n5, kk, rfl, ⟨hn5, hi, hkk⟩, rfl⟩ := hI
 refine gs (gx hA 4 ?_)
 refine go_cond rfl (fun c1 => ?_) (fun c1 => ?_)
 ·
  have ec1 : n5 < (A.rlen a_r) := lss_t hA c1
  refine gk (gs ?_)
  refine go_block ?_
  refine gs (gs ?_)
  have h05 : (0 : Int) ≤ n5 := by omega
  have hlt : i < List.length x := by omega
  obtain ⟨y, hyi⟩ : ∃ y, x[i]? = some y := ⟨_, List.getElem?_eq_getElem hlt⟩
  have cat := cnBoolS_at hyi
  have cle := cnBoolS_le x (i + 1)
  have cnn := cnBoolS_nn (x.take i)
  have hro := mkBoolS_get k hyi
  rw [← hkk] at hro
  have cce : ceBool y = 1 := rfl
  obtain ⟨r1, hr1, e1⟩ : ∃ r : Int, r = 0 ∧ 0 ≤ r := ⟨0, rfl, by decide⟩
  obtain ⟨r0, hr0, e0⟩ : ∃ r : Int, r = 1 + r1 ∧ 0 ≤ r := ⟨_, rfl, nn_add (by decide) e1⟩
  have p0 : 0 ≤ kk := by clear hr1 e1 hr0 e0; omega
  have hrce : r0 = ceBool y := by subst hr1 hr0; rw [cce]; omega
  have q0 : kk + r0 ≤ 1099511627776 ∧ kk + r0 = kk + r0 := ⟨by clear hr1 e1 hr0 e0; omega, rfl⟩
  have k9 : n5 < (List.length x : Int) := by clear hr1 e1 hr0 e0; omega
  have hi1 : i + 1 ≤ List.length x := by clear hr1 e1 hr0 e0; omega
  have f3 : A.num .add .i64 n5 1 = ((i + 1 : Nat) : Int) := by
   clear hr1 e1 hr0 e0; rw [add_i64 hA (by omega) (by omega)]; omega
  have hdec : List.length x - (i + 1) < List.length x - i := by clear hr1 e1 hr0 e0; omega
  obtain ⟨c_1, f6, d5, f5, d7⟩ := add_one hA p0 q0 hr0 e1
  have hrow : ([.bool (A.cmp .eql (A.num .rem .i64 kk 3) 0)] : List PV) = eBool (meBool kk y) := by
   subst f6
   show _ = ([_] : List PV)
   exact congr (congrArg List.cons (congrArg PV.bool (mb_eq hA rfl))) (rfl)
  have hget : a_r[(Int.toNat n5)]? = some [.bool (A.cmp .eql (A.num .rem .i64 kk 3) 0)] := by
   rw [hrow, hn5]; exact map_at eBool b1 hro
  refine gr (rn hA 2 ?_)
  refine ops_step rfl rfl (idx_sl rfl rfl rfl rfl rfl h05 rfl hget) ?_
  refine rz hA 5 ?_
  refine go_cond rfl (fun c2 => ?_) (fun c2 => ?_)
  ·
   exact no_t c2 (show (A.bnot (A.beq (A.cmp .eql (A.num .rem .i64 kk 3) 0) (A.cmp .eql (A.num .rem .i64 kk 3) 0))) = false from by subst hA; simp [std])
  refine gk (gr (rn hA 1 ?_))
  refine ops_step rfl rfl (int_add hA rfl rfl rfl d5) ?_
  refine rz hA 1 ?_
  refine gy hA 3 ?_
  refine ⟨(S79_1 a_r c_1 (A.num .add .i64 n5 1)), List.length x - (i + 1), ?_, by cbv, i + 1, (A.num .add .i64 n5 1), c_1, rfl, ?_, rfl⟩
  ·
   exact hdec
  exact ⟨f3, hi1, fin_k d7 hr1 hrce hkk cat⟩
 have ec1 : (A.rlen a_r) ≤ n5 := lss_f hA c1
 refine go_exit ⟨fun _ => ?_, fun h => absurd rfl h⟩
 refine gx hA 2 ?_
 refine go_ret ⟨_, by cbv, ?_⟩
 show _ = (PV.int .i64 kk)
 refine congrArg (PV.int .i64) ?_
 rw [hkk, List.take_of_length_le (by omega)]
def S78_1 (p0 : RR) (p1 : Int) (p2 : Int) : St := { sl := [.sl 3 p0, .ii p1, .bad, .bad, .bad, .ii p2, .bad, .bad, .bad, .bad, .bad, .bad, .bad, .bad, .bad, .bad, .bad, .bad, .bad, .bad, .bad, .bad, .bad, .bad, .bad, .bad, .bad, .bad, .bad, .bad, .bad, .bad, .bad, .bad, .bad, .bad, .bad, .bad, .bad, .bad, .bad], bl := [] }
theorem r_laws_heldMailS (A : Alg) (hA : A = std) (x : List GMail) (k : Int) (h0 : 0 ≤ k) (h1 : k + cnMailS x ≤ 1099511627776) : Real Tryz.prog 78 [.sl 3 (List.map eMail (mkMailS k x)), .ii k] (.ii (k + cnMailS x)) := by
 obtain ⟨a_r, b1⟩ := nm (List.map eMail (mkMailS k x))
 have l5 : A.rlen a_r = (List.length x : Int) := by rw [rlen_map hA b1, mkMailS_len]
 have h2 : (List.length x : Int) ≤ 1099511627776 := by have := cnMailS_ge x; omega
 refine real_args (args' := [.sl 3 a_r, .ii k]) (by subst b1; rfl) ?_
 refine real tyOk Tryz.func78 (by kernel_rfl) (afun_of rfl ?_)
 refine gx hA 1 ?_
 refine gs (gx hA 1 ?_)
 refine go_block ?_
 refine go_loopE (fun σ m => ∃ (i : Nat) (n5 : Int) (kk : Int), σ = (S78_1 a_r kk n5) ∧ (n5 = (i : Int) ∧ i ≤ List.length x ∧ kk = k + cnMailS (x.take i)) ∧ m = List.length x - i) _ [] [0, 1, 5] [] (S78_1 a_r k 0) rfl (by cbv) ⟨0, 0, k, rfl, ?_, rfl⟩ (fun σ m hI => ?_)
 ·
  exact ⟨rfl, Nat.zero_le _, by simp [cnMailS]⟩
 obtain ⟨i, n5, kk, rfl, ⟨hn5, hi, hkk⟩, rfl⟩ := hI
 refine gs (gx hA 4 ?_)
 refine go_cond rfl (fun c1 => ?_) (fun c1 => ?_)
 ·
  have ec1 : n5 < (A.rlen a_r) := lss_t hA c1
  refine gk (gs ?_)
  refine go_block ?_
  refine gs (gs ?_)
  have h05 : (0 : Int) ≤ n5 := by omega
  have hlt : i < List.length x := by omega
  obtain ⟨y, hyi⟩ : ∃ y, x[i]? = some y := ⟨_, List.getElem?_eq_getElem hlt⟩
  have cat := cnMailS_at hyi
  have cle := cnMailS_le x (i + 1)
  have cnn := cnMailS_nn (x.take i)
  have hro := mkMailS_get k hyi
  rw [← hkk] at hro
  obtain ⟨t4, n2, i2⟩ := y
  have cce : ceMail (⟨t4, n2, i2⟩ : GMail) = 1 + 1 + 1 := rfl
  obtain ⟨r3, hr3, e3⟩ : ∃ r : Int, r = 0 ∧ 0 ≤ r := ⟨0, rfl, by decide⟩
  obtain ⟨r2, hr2, e2⟩ : ∃ r : Int, r = 1 + r3 ∧ 0 ≤ r := ⟨_, rfl, nn_add (by decide) e3⟩
  obtain ⟨r1, hr1, e1⟩ : ∃ r : Int, r = 1 + r2 ∧ 0 ≤ r := ⟨_, rfl, nn_add (by decide) e2⟩
  obtain ⟨r0, hr0, e0⟩ : ∃ r : Int, r = 1 + r1 ∧ 0 ≤ r := ⟨_, rfl, nn_add (by decide) e1⟩
  have p0 : 0 ≤ kk := by clear hr3 e3 hr2 e2 hr1 e1 hr0 e0; omega
  have hrce : r0 = ceMail (⟨t4, n2, i2⟩ : GMail) := by subst hr3 hr2 hr1 hr0; rw [cce]; omega
  have q0 : kk + r0 ≤ 1099511627776 ∧ kk + r0 = kk + r0 := ⟨by clear hr3 e3 hr2 e2 hr1 e1 hr0 e0; omega, rfl⟩
  have k9 : n5 < (List.length x : Int) := by clear hr3 e3 hr2 e2 hr1 e1 hr0 e0; omega
  have hi1 : i + 1 ≤ List.length x := by clear hr3 e3 hr2 e2 hr1 e1 hr0 e0; omega
  have f3 : A.num .add .i64 n5 1 = ((i + 1 : Nat) : Int) := by
   clear hr3 e3 hr2 e2 hr1 e1 hr0 e0; rw [add_i64 hA (by omega) (by omega)]; omega
  have hdec : List.length x - (i + 1) < List.length x - i := by clear hr3 e3 hr2 e2 hr1 e1 hr0 e0; omega
  obtain ⟨c_1, f6, d5, f5, d7⟩ := add_one hA p0 q0 hr0 e1
  obtain ⟨c_2, i4, f9, g1, g0⟩ := add_one hA f5 d7 hr1 e2
  obtain ⟨s_2, l8⟩ := nm (mt c_2 : ByteArray)
  obtain ⟨c_3, k4, g7, j9, j0⟩ := add_one hA g1 g0 hr2 e3
  have hrow : ([.ii kk, .ii c_1, .str s_2] : List PV) = eMail (meMail kk (⟨t4, n2, i2⟩ : GMail)) := by
   subst f6 i4 k4
   show _ = ([_, _, _] : List PV)
   exact congr (congrArg List.cons (congrArg (PV.int .i64) rfl)) (congr (congrArg List.cons (congrArg (PV.int .i64) rfl)) (congr (congrArg List.cons (congrArg PV.str l8)) (rfl)))
  have hget : a_r[(Int.toNat n5)]? = some [.ii kk, .ii c_1, .str s_2] := by
   rw [hrow, hn5]; exact map_at eMail b1 hro
  refine gr (rn hA 2 ?_)
  refine ops_step rfl rfl (idx_sl rfl rfl rfl rfl rfl h05 rfl hget) ?_
  refine rz hA 4 ?_
  refine go_cond rfl (fun c2 => ?_) (fun c2 => ?_)
  ·
   exact no_t c2 (show (A.cmp .neq kk kk) = false from by subst hA; simp [std])
  refine gk (gs (gr (rn hA 1 ?_)))
  refine ops_step rfl rfl (int_add hA rfl rfl rfl d5) ?_
  refine rz hA 1 ?_
  refine gs (gs (gr (rn hA 2 ?_)))
  refine ops_step rfl rfl (idx_sl rfl rfl rfl rfl rfl h05 rfl hget) ?_
  refine rz hA 4 ?_
  refine go_cond rfl (fun c3 => ?_) (fun c3 => ?_)
  ·
   exact no_t c3 (show (A.cmp .neq c_1 c_1) = false from by subst hA; simp [std])
  refine gk (gs (gr (rn hA 1 ?_)))
  refine ops_step rfl rfl (int_add hA rfl rfl rfl f9) ?_
  refine rz hA 1 ?_
  refine gs (gs ?_)
  refine go_draw [0, 1, 2, 3, 4, 5, 6, 7] (by cbv) ?_
  refine dn_ hA 2 ?_
  refine dops_step rfl rfl rfl (idx_sl rfl rfl rfl rfl rfl h05 rfl hget) ?_
  refine dn_ hA 3 ?_
  obtain ⟨o2, y6, hc5⟩ : ∃ (o2 : ByteArray), o2 = (mt c_2) ∧ Real Tryz.prog 71 [.ii c_2] (.str o2) := ⟨_, rfl, by exact r_laws_markText A hA c_2 g1 (le_k g0 e2)⟩
  refine dops_callV rfl rfl (by cbv) (by cbv) hc5 (.inr rfl) ?_
  refine dz hA 1 ?_
  refine go_cond rfl (fun c6 => ?_) (fun c6 => ?_)
  ·
   exact no_t c6 (show (A.scmp .neq s_2 o2) = false from by subst hA; simp [std, l8, y6])
  refine gk (gr (rn hA 1 ?_))
  refine ops_step rfl rfl (int_add hA rfl rfl rfl g7) ?_
  refine rz hA 1 ?_
  refine gy hA 3 ?_
  refine ⟨(S78_1 a_r c_3 (A.num .add .i64 n5 1)), List.length x - (i + 1), ?_, by cbv, i + 1, (A.num .add .i64 n5 1), c_3, rfl, ?_, rfl⟩
  ·
   exact hdec
  exact ⟨f3, hi1, fin_k j0 hr3 hrce hkk cat⟩
 have ec1 : (A.rlen a_r) ≤ n5 := lss_f hA c1
 refine go_exit ⟨fun _ => ?_, fun h => absurd rfl h⟩
 refine gx hA 2 ?_
 refine go_ret ⟨_, by cbv, ?_⟩
 show _ = (PV.int .i64 kk)
 refine congrArg (PV.int .i64) ?_
 rw [hkk, List.take_of_length_le (by omega)]
def S98_1 (p0 : RR) (p1 : Int) (p2 : Int) : St := { sl := [.sl 5 p0, .ii p1, .bad, .bad, .bad, .ii p2, .bad, .bad, .bad, .bad, .bad, .bad, .bad, .bad, .bad, .bad, .bad, .bad, .bad, .bad, .bad, .bad, .bad, .bad, .bad, .bad, .bad, .bad, .bad, .bad, .bad, .bad, .bad, .bad, .bad, .bad, .bad, .bad, .bad, .bad, .bad, .bad, .bad, .bad, .bad, .bad, .bad, .bad, .bad, .bad, .bad, .bad, .bad, .bad, .bad, .bad, .bad, .bad, .bad, .bad], bl := [] }
theorem r_laws_heldBoxS (A : Alg) (hA : A = std) (x : List GBox) (k : Int) (h0 : 0 ≤ k) (h1 : k + cnBoxS x ≤ 1099511627776) : Real Tryz.prog 98 [.sl 5 (List.map eBox (mkBoxS k x)), .ii k] (.ii (k + cnBoxS x)) := by
 obtain ⟨a_r, b1⟩ := nm (List.map eBox (mkBoxS k x))
 have l5 : A.rlen a_r = (List.length x : Int) := by rw [rlen_map hA b1, mkBoxS_len]
 have h2 : (List.length x : Int) ≤ 1099511627776 := by have := cnBoxS_ge x; omega
 refine real_args (args' := [.sl 5 a_r, .ii k]) (by subst b1; rfl) ?_
 refine real tyOk Tryz.func98 (by kernel_rfl) (afun_of rfl ?_)
 refine gx hA 1 ?_
 refine gs (gx hA 1 ?_)
 refine go_block ?_
 refine go_loopE (fun σ m => ∃ (i : Nat) (n5 : Int) (kk : Int), σ = (S98_1 a_r kk n5) ∧ (n5 = (i : Int) ∧ i ≤ List.length x ∧ kk = k + cnBoxS (x.take i)) ∧ m = List.length x - i) _ [] [0, 1, 5] [] (S98_1 a_r k 0) rfl (by cbv) ⟨0, 0, k, rfl, ?_, rfl⟩ (fun σ m hI => ?_)
 ·
  exact ⟨rfl, Nat.zero_le _, by simp [cnBoxS]⟩
 obtain ⟨i, n5, kk, rfl, ⟨hn5, hi, hkk⟩, rfl⟩ := hI
 refine gs (gx hA 4 ?_)
 refine go_cond rfl (fun c1 => ?_) (fun c1 => ?_)
 ·
  have ec1 : n5 < (A.rlen a_r) := lss_t hA c1
  refine gk (gs ?_)
  refine go_block ?_
  refine gs (gs ?_)
  have h05 : (0 : Int) ≤ n5 := by omega
  have hlt : i < List.length x := by omega
  obtain ⟨y, hyi⟩ : ∃ y, x[i]? = some y := ⟨_, List.getElem?_eq_getElem hlt⟩
  have cat := cnBoxS_at hyi
  have cle := cnBoxS_le x (i + 1)
  have cnn := cnBoxS_nn (x.take i)
  have hro := mkBoxS_get k hyi
  rw [← hkk] at hro
  obtain ⟨n3, o6, o5, o3, f0⟩ := y
  have cce : ceBox (⟨n3, o6, o5, o3, f0⟩ : GBox) = 1 + 1 + 1 + 1 + cnMailS f0 := rfl
  have n9 := cnMailS_nn f0
  obtain ⟨r5, hr5, e5⟩ : ∃ r : Int, r = 0 ∧ 0 ≤ r := ⟨0, rfl, by decide⟩
  obtain ⟨r4, hr4, e4⟩ : ∃ r : Int, r = cnMailS f0 + r5 ∧ 0 ≤ r := ⟨_, rfl, nn_add n9 e5⟩
  obtain ⟨r3, hr3, e3⟩ : ∃ r : Int, r = 1 + r4 ∧ 0 ≤ r := ⟨_, rfl, nn_add (by decide) e4⟩
  obtain ⟨r2, hr2, e2⟩ : ∃ r : Int, r = 1 + r3 ∧ 0 ≤ r := ⟨_, rfl, nn_add (by decide) e3⟩
  obtain ⟨r1, hr1, e1⟩ : ∃ r : Int, r = 1 + r2 ∧ 0 ≤ r := ⟨_, rfl, nn_add (by decide) e2⟩
  obtain ⟨r0, hr0, e0⟩ : ∃ r : Int, r = 1 + r1 ∧ 0 ≤ r := ⟨_, rfl, nn_add (by decide) e1⟩
  have p0 : 0 ≤ kk := by clear hr5 e5 hr4 e4 hr3 e3 hr2 e2 hr1 e1 hr0 e0; omega
  have hrce : r0 = ceBox (⟨n3, o6, o5, o3, f0⟩ : GBox) := by subst hr5 hr4 hr3 hr2 hr1 hr0; rw [cce]; omega
  have q0 : kk + r0 ≤ 1099511627776 ∧ kk + r0 = kk + r0 := ⟨by clear hr5 e5 hr4 e4 hr3 e3 hr2 e2 hr1 e1 hr0 e0; omega, rfl⟩
  have k9 : n5 < (List.length x : Int) := by clear hr5 e5 hr4 e4 hr3 e3 hr2 e2 hr1 e1 hr0 e0; omega
  have hi1 : i + 1 ≤ List.length x := by clear hr5 e5 hr4 e4 hr3 e3 hr2 e2 hr1 e1 hr0 e0; omega
  have f3 : A.num .add .i64 n5 1 = ((i + 1 : Nat) : Int) := by
   clear hr5 e5 hr4 e4 hr3 e3 hr2 e2 hr1 e1 hr0 e0; rw [add_i64 hA (by omega) (by omega)]; omega
  have hdec : List.length x - (i + 1) < List.length x - i := by clear hr5 e5 hr4 e4 hr3 e3 hr2 e2 hr1 e1 hr0 e0; omega
  obtain ⟨c_1, f6, d5, f5, d7⟩ := add_one hA p0 q0 hr0 e1
  obtain ⟨s_1, m0⟩ := nm (mt c_1 : ByteArray)
  obtain ⟨c_2, i4, f9, g1, g0⟩ := add_one hA f5 d7 hr1 e2
  obtain ⟨s_2, l8⟩ := nm (mt c_2 : ByteArray)
  obtain ⟨c_3, k4, g7, j9, j0⟩ := add_one hA g1 g0 hr2 e3
  obtain ⟨c_4, p5, m7, n4, n7⟩ := add_one hA j9 j0 hr3 e4
  obtain ⟨s_4, v2⟩ := nm (List.map eMail (mkMailS c_4 f0) : RR)
  have D5 : A.rlen s_4 = (List.length f0 : Int) := by rw [rlen_map hA v2, mkMailS_len]
  obtain ⟨c_5, v3⟩ := nm (c_4 + cnMailS f0 : Int)
  have x3 := add_cn v3 n4 n7 hr4 n9
  have hrow : ([.ii kk, .str s_1, .str s_2, .ii c_3, .sl 3 s_4] : List PV) = eBox (meBox kk (⟨n3, o6, o5, o3, f0⟩ : GBox)) := by
   subst f6 i4 k4 p5 v3
   show _ = ([_, _, _, _, _] : List PV)
   exact congr (congrArg List.cons (congrArg (PV.int .i64) rfl)) (congr (congrArg List.cons (congrArg PV.str m0)) (congr (congrArg List.cons (congrArg PV.str l8)) (congr (congrArg List.cons (congrArg (PV.int .i64) rfl)) (congr (congrArg List.cons (congrArg (PV.sl 3) v2)) (rfl)))))
  have hget : a_r[(Int.toNat n5)]? = some [.ii kk, .str s_1, .str s_2, .ii c_3, .sl 3 s_4] := by
   rw [hrow, hn5]; exact map_at eBox b1 hro
  refine gr (rn hA 2 ?_)
  refine ops_step rfl rfl (idx_sl rfl rfl rfl rfl rfl h05 rfl hget) ?_
  refine rz hA 4 ?_
  refine go_cond rfl (fun c2 => ?_) (fun c2 => ?_)
  ·
   exact no_t c2 (show (A.cmp .neq kk kk) = false from by subst hA; simp [std])
  refine gk (gs (gr (rn hA 1 ?_)))
  refine ops_step rfl rfl (int_add hA rfl rfl rfl d5) ?_
  refine rz hA 1 ?_
  refine gs (gs ?_)
  refine go_draw [0, 1, 2, 3, 4, 5, 6, 7] (by cbv) ?_
  refine dn_ hA 2 ?_
  refine dops_step rfl rfl rfl (idx_sl rfl rfl rfl rfl rfl h05 rfl hget) ?_
  refine dn_ hA 3 ?_
  obtain ⟨f2, l0, hc4⟩ : ∃ (f2 : ByteArray), f2 = (mt c_1) ∧ Real Tryz.prog 71 [.ii c_1] (.str f2) := ⟨_, rfl, by exact r_laws_markText A hA c_1 f5 (le_k d7 e1)⟩
  refine dops_callV rfl rfl (by cbv) (by cbv) hc4 (.inr rfl) ?_
  refine dz hA 1 ?_
  refine go_cond rfl (fun c5 => ?_) (fun c5 => ?_)
  ·
   exact no_t c5 (show (A.scmp .neq s_1 f2) = false from by subst hA; simp [std, m0, l0])
  refine gk (gs (gr (rn hA 1 ?_)))
  refine ops_step rfl rfl (int_add hA rfl rfl rfl f9) ?_
  refine rz hA 1 ?_
  refine gs (gs ?_)
  refine go_draw [0, 1, 2, 3, 4, 5, 6, 7] (by cbv) ?_
  refine dn_ hA 2 ?_
  refine dops_step rfl rfl rfl (idx_sl rfl rfl rfl rfl rfl h05 rfl hget) ?_
  refine dn_ hA 3 ?_
  obtain ⟨g5, o8, hc7⟩ : ∃ (g5 : ByteArray), g5 = (mt c_2) ∧ Real Tryz.prog 71 [.ii c_2] (.str g5) := ⟨_, rfl, by exact r_laws_markText A hA c_2 g1 (le_k g0 e2)⟩
  refine dops_callV rfl rfl (by cbv) (by cbv) hc7 (.inr rfl) ?_
  refine dz hA 1 ?_
  refine go_cond rfl (fun c8 => ?_) (fun c8 => ?_)
  ·
   exact no_t c8 (show (A.scmp .neq s_2 g5) = false from by subst hA; simp [std, l8, o8])
  refine gk (gs (gr (rn hA 1 ?_)))
  refine ops_step rfl rfl (int_add hA rfl rfl rfl g7) ?_
  refine rz hA 1 ?_
  refine gs (gs (gr (rn hA 2 ?_)))
  refine ops_step rfl rfl (idx_sl rfl rfl rfl rfl rfl h05 rfl hget) ?_
  refine rz hA 4 ?_
  refine go_cond rfl (fun c9 => ?_) (fun c9 => ?_)
  ·
   exact no_t c9 (show (A.cmp .neq c_3 c_3) = false from by subst hA; simp [std])
  refine gk (gs (gr (rn hA 1 ?_)))
  refine ops_step rfl rfl (int_add hA rfl rfl rfl m7) ?_
  refine rz hA 1 ?_
  refine gs (gr (rn hA 2 ?_))
  refine ops_step rfl rfl (idx_sl rfl rfl rfl rfl rfl h05 rfl hget) ?_
  refine rn hA 3 ?_
  have C4 : Real Tryz.prog 78 [.sl 3 s_4, .ii c_4] (.ii c_5) := by
   subst v2; rw [v3]; exact r_laws_heldMailS A hA f0 c_4 n4 (le_cn n7 hr4 e5)
  refine ops_callV rfl rfl (by cbv) (by cbv) C4 (.inl trivial) (by cbv) ?_
  refine rz hA 1 ?_
  refine gx hA 2 ?_
  refine go_cond rfl (fun c12 => ?_) (fun c12 => ?_)
  ·
   have y9 : c_5 < 0 := lss_t hA c12
   exact absurd y9 (Int.not_lt.2 x3.1)
  have y9 : 0 ≤ c_5 := lss_f hA c12
  refine gk (gy hA 3 ?_)
  refine ⟨(S98_1 a_r c_5 (A.num .add .i64 n5 1)), List.length x - (i + 1), ?_, by cbv, i + 1, (A.num .add .i64 n5 1), c_5, rfl, ?_, rfl⟩
  ·
   exact hdec
  exact ⟨f3, hi1, fin_k x3.2 hr5 hrce hkk cat⟩
 have ec1 : (A.rlen a_r) ≤ n5 := lss_f hA c1
 refine go_exit ⟨fun _ => ?_, fun h => absurd rfl h⟩
 refine gx hA 2 ?_
 refine go_ret ⟨_, by cbv, ?_⟩
 show _ = (PV.int .i64 kk)
 refine congrArg (PV.int .i64) ?_
 rw [hkk, List.take_of_length_le (by omega)]
def S39_1 (p0 : RR) (p1 : Int) (p2 : Int) : St := { sl := [.sl 17 p0, .ii p1, .bad, .bad, .bad, .ii p2, .bad, .bad, .bad, .bad, .bad, .bad, .bad, .bad, .bad, .bad, .bad, .bad, .bad, .bad, .bad, .bad, .bad, .bad, .bad, .bad, .bad, .bad, .bad, .bad, .bad, .bad, .bad, .bad, .bad, .bad, .bad, .bad, .bad, .bad, .bad, .bad, .bad, .bad, .bad, .bad, .bad, .bad, .bad, .bad, .bad, .bad, .bad, .bad, .bad, .bad, .bad, .bad, .bad, .bad, .bad, .bad, .bad, .bad, .bad, .bad, .bad, .bad, .bad, .bad, .bad, .bad, .bad, .bad, .bad, .bad, .bad, .bad, .bad, .bad, .bad, .bad, .bad, .bad, .bad, .bad, .bad, .bad, .bad, .bad, .bad, .bad, .bad, .bad, .bad, .bad, .bad, .bad, .bad, .bad, .bad, .bad, .bad, .bad, .bad, .bad, .bad, .bad, .bad, .bad, .bad, .bad, .bad, .bad, .bad, .bad, .bad, .bad, .bad, .bad, .bad, .bad, .bad, .bad, .bad, .bad, .bad, .bad, .bad, .bad, .bad, .bad, .bad, .bad, .bad, .bad, .bad, .bad, .bad, .bad, .bad, .bad, .bad, .bad, .bad, .bad, .bad, .bad, .bad, .bad, .bad, .bad, .bad, .bad, .bad, .bad, .bad, .bad, .bad, .bad, .bad, .bad, .bad, .bad, .bad, .bad, .bad, .bad, .bad, .bad, .bad, .bad, .bad, .bad, .bad, .bad, .bad, .bad, .bad, .bad, .bad, .bad, .bad, .bad, .bad, .bad, .bad], bl := [] }
theorem r_laws_heldSessionS (A : Alg) (hA : A = std) (x : List GSession) (k : Int) (h0 : 0 ≤ k) (h1 : k + cnSessionS x ≤ 1099511627776) : Real Tryz.prog 39 [.sl 17 (List.map eSession (mkSessionS k x)), .ii k] (.ii (k + cnSessionS x)) := by
 obtain ⟨a_r, b1⟩ := nm (List.map eSession (mkSessionS k x))
 have l5 : A.rlen a_r = (List.length x : Int) := by rw [rlen_map hA b1, mkSessionS_len]
 have h2 : (List.length x : Int) ≤ 1099511627776 := by have := cnSessionS_ge x; omega
 refine real_args (args' := [.sl 17 a_r, .ii k]) (by subst b1; rfl) ?_
 refine real tyOk Tryz.func39 (by kernel_rfl) (afun_of rfl ?_)
 refine gx hA 1 ?_
 refine gs (gx hA 1 ?_)
 refine go_block ?_
 refine go_loopE (fun σ m => ∃ (i : Nat) (n5 : Int) (kk : Int), σ = (S39_1 a_r kk n5) ∧ (n5 = (i : Int) ∧ i ≤ List.length x ∧ kk = k + cnSessionS (x.take i)) ∧ m = List.length x - i) _ [] [0, 1, 5] [] (S39_1 a_r k 0) rfl (by cbv) ⟨0, 0, k, rfl, ?_, rfl⟩ (fun σ m hI => ?_)
 ·
  exact ⟨rfl, Nat.zero_le _, by simp [cnSessionS]⟩
 obtain ⟨i, n5, kk, rfl, ⟨hn5, hi, hkk⟩, rfl⟩ := hI
 refine gs (gx hA 4 ?_)
 refine go_cond rfl (fun c1 => ?_) (fun c1 => ?_)
 ·
  have ec1 : n5 < (A.rlen a_r) := lss_t hA c1
  refine gk (gs ?_)
  refine go_block ?_
  refine gs (gs ?_)
  have h05 : (0 : Int) ≤ n5 := by omega
  have hlt : i < List.length x := by omega
  obtain ⟨y, hyi⟩ : ∃ y, x[i]? = some y := ⟨_, List.getElem?_eq_getElem hlt⟩
  have cat := cnSessionS_at hyi
  have cle := cnSessionS_le x (i + 1)
  have cnn := cnSessionS_nn (x.take i)
  have hro := mkSessionS_get k hyi
  rw [← hkk] at hro
  obtain ⟨o9, u1, q3, p6, ⟨g4, i6, c0, b6⟩, ⟨g3, i3, b2, b5⟩, ⟨i1, i9, j7, i5, b7⟩⟩ := y
  have cce : ceSession (⟨o9, u1, q3, p6, ⟨g4, i6, c0, b6⟩, ⟨g3, i3, b2, b5⟩, ⟨i1, i9, j7, i5, b7⟩⟩ : GSession) = 1 + 1 + 1 + 1 + 1 + 1 + cnStringS c0 + cnStringS b6 + 1 + 1 + cnMailS b2 + cnBoolS b5 + 1 + 1 + 1 + 1 + cnIntS b7 := rfl
  have l6 := cnStringS_nn c0
  have j4 := cnStringS_nn b6
  have i7 := cnMailS_nn b2
  have j3 := cnBoolS_nn b5
  have k7 := cnIntS_nn b7
  obtain ⟨r17, l4, e17⟩ : ∃ r : Int, r = 0 ∧ 0 ≤ r := ⟨0, rfl, by decide⟩
  obtain ⟨r16, k2, e16⟩ : ∃ r : Int, r = cnIntS b7 + r17 ∧ 0 ≤ r := ⟨_, rfl, nn_add k7 e17⟩
  obtain ⟨r15, l2, e15⟩ : ∃ r : Int, r = 1 + r16 ∧ 0 ≤ r := ⟨_, rfl, nn_add (by decide) e16⟩
  obtain ⟨r14, l7, e14⟩ : ∃ r : Int, r = 1 + r15 ∧ 0 ≤ r := ⟨_, rfl, nn_add (by decide) e15⟩
  obtain ⟨r13, l9, e13⟩ : ∃ r : Int, r = 1 + r14 ∧ 0 ≤ r := ⟨_, rfl, nn_add (by decide) e14⟩
  obtain ⟨r12, k8, e12⟩ : ∃ r : Int, r = 1 + r13 ∧ 0 ≤ r := ⟨_, rfl, nn_add (by decide) e13⟩
  obtain ⟨r11, k6, e11⟩ : ∃ r : Int, r = cnBoolS b5 + r12 ∧ 0 ≤ r := ⟨_, rfl, nn_add j3 e12⟩
  obtain ⟨r10, k1, e10⟩ : ∃ r : Int, r = cnMailS b2 + r11 ∧ 0 ≤ r := ⟨_, rfl, nn_add i7 e11⟩
  obtain ⟨r9, hr9, e9⟩ : ∃ r : Int, r = 1 + r10 ∧ 0 ≤ r := ⟨_, rfl, nn_add (by decide) e10⟩
  obtain ⟨r8, hr8, e8⟩ : ∃ r : Int, r = 1 + r9 ∧ 0 ≤ r := ⟨_, rfl, nn_add (by decide) e9⟩
  obtain ⟨r7, hr7, e7⟩ : ∃ r : Int, r = cnStringS b6 + r8 ∧ 0 ≤ r := ⟨_, rfl, nn_add j4 e8⟩
  obtain ⟨r6, hr6, e6⟩ : ∃ r : Int, r = cnStringS c0 + r7 ∧ 0 ≤ r := ⟨_, rfl, nn_add l6 e7⟩
  obtain ⟨r5, hr5, e5⟩ : ∃ r : Int, r = 1 + r6 ∧ 0 ≤ r := ⟨_, rfl, nn_add (by decide) e6⟩
  obtain ⟨r4, hr4, e4⟩ : ∃ r : Int, r = 1 + r5 ∧ 0 ≤ r := ⟨_, rfl, nn_add (by decide) e5⟩
  obtain ⟨r3, hr3, e3⟩ : ∃ r : Int, r = 1 + r4 ∧ 0 ≤ r := ⟨_, rfl, nn_add (by decide) e4⟩
  obtain ⟨r2, hr2, e2⟩ : ∃ r : Int, r = 1 + r3 ∧ 0 ≤ r := ⟨_, rfl, nn_add (by decide) e3⟩
  obtain ⟨r1, hr1, e1⟩ : ∃ r : Int, r = 1 + r2 ∧ 0 ≤ r := ⟨_, rfl, nn_add (by decide) e2⟩
  obtain ⟨r0, hr0, e0⟩ : ∃ r : Int, r = 1 + r1 ∧ 0 ≤ r := ⟨_, rfl, nn_add (by decide) e1⟩
  have p0 : 0 ≤ kk := by clear l4 e17 k2 e16 l2 e15 l7 e14 l9 e13 k8 e12 k6 e11 k1 e10 hr9 e9 hr8 e8 hr7 e7 hr6 e6 hr5 e5 hr4 e4 hr3 e3 hr2 e2 hr1 e1 hr0 e0; omega
  have hrce : r0 = ceSession (⟨o9, u1, q3, p6, ⟨g4, i6, c0, b6⟩, ⟨g3, i3, b2, b5⟩, ⟨i1, i9, j7, i5, b7⟩⟩ : GSession) := by subst l4 k2 l2 l7 l9 k8 k6 k1 hr9 hr8 hr7 hr6 hr5 hr4 hr3 hr2 hr1 hr0; rw [cce]; omega
  have q0 : kk + r0 ≤ 1099511627776 ∧ kk + r0 = kk + r0 := ⟨by clear l4 e17 k2 e16 l2 e15 l7 e14 l9 e13 k8 e12 k6 e11 k1 e10 hr9 e9 hr8 e8 hr7 e7 hr6 e6 hr5 e5 hr4 e4 hr3 e3 hr2 e2 hr1 e1 hr0 e0; omega, rfl⟩
  have k9 : n5 < (List.length x : Int) := by clear l4 e17 k2 e16 l2 e15 l7 e14 l9 e13 k8 e12 k6 e11 k1 e10 hr9 e9 hr8 e8 hr7 e7 hr6 e6 hr5 e5 hr4 e4 hr3 e3 hr2 e2 hr1 e1 hr0 e0; omega
  have hi1 : i + 1 ≤ List.length x := by clear l4 e17 k2 e16 l2 e15 l7 e14 l9 e13 k8 e12 k6 e11 k1 e10 hr9 e9 hr8 e8 hr7 e7 hr6 e6 hr5 e5 hr4 e4 hr3 e3 hr2 e2 hr1 e1 hr0 e0; omega
  have f3 : A.num .add .i64 n5 1 = ((i + 1 : Nat) : Int) := by
   clear l4 e17 k2 e16 l2 e15 l7 e14 l9 e13 k8 e12 k6 e11 k1 e10 hr9 e9 hr8 e8 hr7 e7 hr6 e6 hr5 e5 hr4 e4 hr3 e3 hr2 e2 hr1 e1 hr0 e0; rw [add_i64 hA (by omega) (by omega)]; omega
  have hdec : List.length x - (i + 1) < List.length x - i := by clear l4 e17 k2 e16 l2 e15 l7 e14 l9 e13 k8 e12 k6 e11 k1 e10 hr9 e9 hr8 e8 hr7 e7 hr6 e6 hr5 e5 hr4 e4 hr3 e3 hr2 e2 hr1 e1 hr0 e0; omega
  obtain ⟨c_1, f6, d5, f5, d7⟩ := add_one hA p0 q0 hr0 e1
  obtain ⟨s_1, m0⟩ := nm (mt c_1 : ByteArray)
  obtain ⟨c_2, i4, f9, g1, g0⟩ := add_one hA f5 d7 hr1 e2
  obtain ⟨s_2, l8⟩ := nm (mt c_2 : ByteArray)
  obtain ⟨c_3, k4, g7, j9, j0⟩ := add_one hA g1 g0 hr2 e3
  obtain ⟨c_4, p5, m7, n4, n7⟩ := add_one hA j9 j0 hr3 e4
  obtain ⟨c_5, u8, s1, q9, p8⟩ := add_one hA n4 n7 hr4 e5
  obtain ⟨s_5, y4⟩ := nm (mt c_5 : ByteArray)
  obtain ⟨c_6, u5, s0, p3, o7⟩ := add_one hA q9 p8 hr5 e6
  obtain ⟨s_6, n6⟩ := nm (List.map eString (mkStringS c_6 c0) : RR)
  have D6 : A.rlen s_6 = (List.length c0 : Int) := by rw [rlen_map hA n6, mkStringS_len]
  obtain ⟨c_7, u7⟩ := nm (c_6 + cnStringS c0 : Int)
  have m8 := add_cn u7 p3 o7 hr6 l6
  obtain ⟨s_7, n1⟩ := nm (List.map eString (mkStringS c_7 b6) : RR)
  have D3 : A.rlen s_7 = (List.length b6 : Int) := by rw [rlen_map hA n1, mkStringS_len]
  obtain ⟨c_8, u3⟩ := nm (c_7 + cnStringS b6 : Int)
  have s9 := add_cn u3 m8.1 m8.2 hr7 j4
  obtain ⟨c_9, v1, s3, u9, t2⟩ := add_one hA s9.1 s9.2 hr8 e9
  obtain ⟨s_9, z9⟩ := nm (mt c_9 : ByteArray)
  obtain ⟨t5, B3, y1, w6, w5⟩ := add_one hA u9 t2 hr9 e10
  obtain ⟨s6, t6⟩ := nm (List.map eMail (mkMailS t5 b2) : RR)
  have D1 : A.rlen s6 = (List.length b2 : Int) := by rw [rlen_map hA t6, mkMailS_len]
  obtain ⟨m5, s7⟩ := nm (t5 + cnMailS b2 : Int)
  have l3 := add_cn s7 w6 w5 k1 i7
  obtain ⟨t3, s8⟩ := nm (List.map eBool (mkBoolS m5 b5) : RR)
  have D0 : A.rlen t3 = (List.length b5 : Int) := by rw [rlen_map hA s8, mkBoolS_len]
  obtain ⟨m6, p9⟩ := nm (m5 + cnBoolS b5 : Int)
  have p4 := add_cn p9 l3.1 l3.2 k6 j3
  obtain ⟨s4, B0, x9, x1, w3⟩ := add_one hA p4.1 p4.2 k8 e13
  obtain ⟨v9, x0⟩ := nm (mt s4 : ByteArray)
  obtain ⟨q2, B1, y2, w7, w8⟩ := add_one hA x1 w3 l9 e14
  obtain ⟨u6, x2⟩ := nm (mt q2 : ByteArray)
  obtain ⟨p7, B2, y0, B4, B5⟩ := add_one hA w7 w8 l7 e15
  obtain ⟨q5, B6, y3, w9, w2⟩ := add_one hA B4 B5 l2 e16
  obtain ⟨s2, q6⟩ := nm (List.map eInt (mkIntS q5 b7) : RR)
  have D2 : A.rlen s2 = (List.length b7 : Int) := by rw [rlen_map hA q6, mkIntS_len]
  obtain ⟨o4, s5⟩ := nm (q5 + cnIntS b7 : Int)
  have t9 := add_cn s5 w9 w2 k2 k7
  have hrow : ([.ii kk, .str s_1, .str s_2, .bool (A.cmp .eql (A.num .rem .i64 c_3 3) 0), .ii c_4, .str s_5, .sl 1 s_6, .sl 1 s_7, .ii c_8, .str s_9, .sl 3 s6, .sl 1 t3, .ii m6, .str v9, .str u6, .ii p7, .sl 1 s2] : List PV) = eSession (meSession kk (⟨o9, u1, q3, p6, ⟨g4, i6, c0, b6⟩, ⟨g3, i3, b2, b5⟩, ⟨i1, i9, j7, i5, b7⟩⟩ : GSession)) := by
   subst f6 i4 k4 p5 u8 u5 u7 u3 v1 B3 s7 p9 B0 B1 B2 B6 s5
   show _ = ([_, _, _, _, _, _, _, _, _, _, _, _, _, _, _, _, _] : List PV)
   exact congr (congrArg List.cons (congrArg (PV.int .i64) rfl)) (congr (congrArg List.cons (congrArg PV.str m0)) (congr (congrArg List.cons (congrArg PV.str l8)) (congr (congrArg List.cons (congrArg PV.bool (mb_eq hA rfl))) (congr (congrArg List.cons (congrArg (PV.int .i64) rfl)) (congr (congrArg List.cons (congrArg PV.str y4)) (congr (congrArg List.cons (congrArg (PV.sl 1) n6)) (congr (congrArg List.cons (congrArg (PV.sl 1) n1)) (congr (congrArg List.cons (congrArg (PV.int .i64) rfl)) (congr (congrArg List.cons (congrArg PV.str z9)) (congr (congrArg List.cons (congrArg (PV.sl 3) t6)) (congr (congrArg List.cons (congrArg (PV.sl 1) s8)) (congr (congrArg List.cons (congrArg (PV.int .i64) rfl)) (congr (congrArg List.cons (congrArg PV.str x0)) (congr (congrArg List.cons (congrArg PV.str x2)) (congr (congrArg List.cons (congrArg (PV.int .i64) rfl)) (congr (congrArg List.cons (congrArg (PV.sl 1) q6)) (rfl)))))))))))))))))
  have hget : a_r[(Int.toNat n5)]? = some [.ii kk, .str s_1, .str s_2, .bool (A.cmp .eql (A.num .rem .i64 c_3 3) 0), .ii c_4, .str s_5, .sl 1 s_6, .sl 1 s_7, .ii c_8, .str s_9, .sl 3 s6, .sl 1 t3, .ii m6, .str v9, .str u6, .ii p7, .sl 1 s2] := by
   rw [hrow, hn5]; exact map_at eSession b1 hro
  refine gr (rn hA 2 ?_)
  refine ops_step rfl rfl (idx_sl rfl rfl rfl rfl rfl h05 rfl hget) ?_
  refine rz hA 4 ?_
  refine go_cond rfl (fun c2 => ?_) (fun c2 => ?_)
  ·
   exact no_t c2 (show (A.cmp .neq kk kk) = false from by subst hA; simp [std])
  refine gk (gs (gr (rn hA 1 ?_)))
  refine ops_step rfl rfl (int_add hA rfl rfl rfl d5) ?_
  refine rz hA 1 ?_
  refine gs (gs ?_)
  refine go_draw [0, 1, 2, 3, 4, 5, 6, 7] (by cbv) ?_
  refine dn_ hA 2 ?_
  refine dops_step rfl rfl rfl (idx_sl rfl rfl rfl rfl rfl h05 rfl hget) ?_
  refine dn_ hA 3 ?_
  obtain ⟨f2, l0, hc4⟩ : ∃ (f2 : ByteArray), f2 = (mt c_1) ∧ Real Tryz.prog 71 [.ii c_1] (.str f2) := ⟨_, rfl, by exact r_laws_markText A hA c_1 f5 (le_k d7 e1)⟩
  refine dops_callV rfl rfl (by cbv) (by cbv) hc4 (.inr rfl) ?_
  refine dz hA 1 ?_
  refine go_cond rfl (fun c5 => ?_) (fun c5 => ?_)
  ·
   exact no_t c5 (show (A.scmp .neq s_1 f2) = false from by subst hA; simp [std, m0, l0])
  refine gk (gs (gr (rn hA 1 ?_)))
  refine ops_step rfl rfl (int_add hA rfl rfl rfl f9) ?_
  refine rz hA 1 ?_
  refine gs (gs ?_)
  refine go_draw [0, 1, 2, 3, 4, 5, 6, 7] (by cbv) ?_
  refine dn_ hA 2 ?_
  refine dops_step rfl rfl rfl (idx_sl rfl rfl rfl rfl rfl h05 rfl hget) ?_
  refine dn_ hA 3 ?_
  obtain ⟨g5, o8, hc7⟩ : ∃ (g5 : ByteArray), g5 = (mt c_2) ∧ Real Tryz.prog 71 [.ii c_2] (.str g5) := ⟨_, rfl, by exact r_laws_markText A hA c_2 g1 (le_k g0 e2)⟩
  refine dops_callV rfl rfl (by cbv) (by cbv) hc7 (.inr rfl) ?_
  refine dz hA 1 ?_
  refine go_cond rfl (fun c8 => ?_) (fun c8 => ?_)
  ·
   exact no_t c8 (show (A.scmp .neq s_2 g5) = false from by subst hA; simp [std, l8, o8])
  refine gk (gs (gr (rn hA 1 ?_)))
  refine ops_step rfl rfl (int_add hA rfl rfl rfl g7) ?_
  refine rz hA 1 ?_
  refine gs (gs (gr (rn hA 2 ?_)))
  refine ops_step rfl rfl (idx_sl rfl rfl rfl rfl rfl h05 rfl hget) ?_
  refine rz hA 6 ?_
  refine go_cond rfl (fun c9 => ?_) (fun c9 => ?_)
  ·
   exact no_t c9 (show (A.bnot (A.beq (A.cmp .eql (A.num .rem .i64 c_3 3) 0) (A.cmp .eql (A.num .rem .i64 c_3 3) 0))) = false from by subst hA; simp [std])
  refine gk (gs (gr (rn hA 1 ?_)))
  refine ops_step rfl rfl (int_add hA rfl rfl rfl m7) ?_
  refine rz hA 1 ?_
  refine gs (gs (gr (rn hA 2 ?_)))
  refine ops_step rfl rfl (idx_sl rfl rfl rfl rfl rfl h05 rfl hget) ?_
  refine rz hA 5 ?_
  refine go_cond rfl (fun c10 => ?_) (fun c10 => ?_)
  ·
   exact no_t c10 (show (A.cmp .neq c_4 c_4) = false from by subst hA; simp [std])
  refine gk (gs (gr (rn hA 1 ?_)))
  refine ops_step rfl rfl (int_add hA rfl rfl rfl s1) ?_
  refine rz hA 1 ?_
  refine gs (gs ?_)
  refine go_draw [0, 1, 2, 3, 4, 5, 6, 7, 8] (by cbv) ?_
  refine dn_ hA 2 ?_
  refine dops_step rfl rfl rfl (idx_sl rfl rfl rfl rfl rfl h05 rfl hget) ?_
  refine dn_ hA 4 ?_
  obtain ⟨m9, x5, v6⟩ : ∃ (m9 : ByteArray), m9 = (mt c_5) ∧ Real Tryz.prog 71 [.ii c_5] (.str m9) := ⟨_, rfl, by exact r_laws_markText A hA c_5 q9 (le_k p8 e5)⟩
  refine dops_callV rfl rfl (by cbv) (by cbv) v6 (.inr rfl) ?_
  refine dz hA 1 ?_
  refine go_cond rfl (fun c13 => ?_) (fun c13 => ?_)
  ·
   exact no_t c13 (show (A.scmp .neq s_5 m9) = false from by subst hA; simp [std, y4, x5])
  refine gk (gs (gr (rn hA 1 ?_)))
  refine ops_step rfl rfl (int_add hA rfl rfl rfl s0) ?_
  refine rz hA 1 ?_
  refine gs (gr (rn hA 2 ?_))
  refine ops_step rfl rfl (idx_sl rfl rfl rfl rfl rfl h05 rfl hget) ?_
  refine rn hA 4 ?_
  have v8 : Real Tryz.prog 77 [.sl 1 s_6, .ii c_6] (.ii c_7) := by
   subst n6; rw [u7]; exact r_laws_heldStringS A hA c0 c_6 p3 (le_cn o7 hr6 e7)
  refine ops_callV rfl rfl (by cbv) (by cbv) v8 (.inl trivial) (by cbv) ?_
  refine rz hA 1 ?_
  refine gs (gx hA 2 ?_)
  refine go_cond rfl (fun c16 => ?_) (fun c16 => ?_)
  ·
   have z8 : c_7 < 0 := lss_t hA c16
   exact absurd z8 (Int.not_lt.2 m8.1)
  have z8 : 0 ≤ c_7 := lss_f hA c16
  refine gk (gs (gr (rn hA 2 ?_)))
  refine ops_step rfl rfl (idx_sl rfl rfl rfl rfl rfl h05 rfl hget) ?_
  refine rn hA 4 ?_
  have C9 : Real Tryz.prog 77 [.sl 1 s_7, .ii c_7] (.ii c_8) := by
   subst n1; rw [u3]; exact r_laws_heldStringS A hA b6 c_7 m8.1 (le_cn m8.2 hr7 e8)
  refine ops_callV rfl rfl (by cbv) (by cbv) C9 (.inl trivial) (by cbv) ?_
  refine rz hA 1 ?_
  refine gs (gx hA 2 ?_)
  refine go_cond rfl (fun c19 => ?_) (fun c19 => ?_)
  ·
   have z6 : c_8 < 0 := lss_t hA c19
   exact absurd z6 (Int.not_lt.2 s9.1)
  have z6 : 0 ≤ c_8 := lss_f hA c19
  refine gk (gs (gs (gr (rn hA 2 ?_))))
  refine ops_step rfl rfl (idx_sl rfl rfl rfl rfl rfl h05 rfl hget) ?_
  refine rz hA 5 ?_
  refine go_cond rfl (fun c20 => ?_) (fun c20 => ?_)
  ·
   exact no_t c20 (show (A.cmp .neq c_8 c_8) = false from by subst hA; simp [std])
  refine gk (gs (gr (rn hA 1 ?_)))
  refine ops_step rfl rfl (int_add hA rfl rfl rfl s3) ?_
  refine rz hA 1 ?_
  refine gs (gs ?_)
  refine go_draw [0, 1, 2, 3, 4, 5, 6, 7, 8] (by cbv) ?_
  refine dn_ hA 2 ?_
  refine dops_step rfl rfl rfl (idx_sl rfl rfl rfl rfl rfl h05 rfl hget) ?_
  refine dn_ hA 4 ?_
  obtain ⟨m4, u2, C1⟩ : ∃ (m4 : ByteArray), m4 = (mt c_9) ∧ Real Tryz.prog 71 [.ii c_9] (.str m4) := ⟨_, rfl, by exact r_laws_markText A hA c_9 u9 (le_k t2 e9)⟩
  refine dops_callV rfl rfl (by cbv) (by cbv) C1 (.inr rfl) ?_
  refine dz hA 1 ?_
  refine go_cond rfl (fun c23 => ?_) (fun c23 => ?_)
  ·
   exact no_t c23 (show (A.scmp .neq s_9 m4) = false from by subst hA; simp [std, z9, u2])
  refine gk (gs (gr (rn hA 1 ?_)))
  refine ops_step rfl rfl (int_add hA rfl rfl rfl y1) ?_
  refine rz hA 1 ?_
  refine gs (gr (rn hA 2 ?_))
  refine ops_step rfl rfl (idx_sl rfl rfl rfl rfl rfl h05 rfl hget) ?_
  refine rn hA 4 ?_
  have C2 : Real Tryz.prog 78 [.sl 3 s6, .ii t5] (.ii m5) := by
   subst t6; rw [s7]; exact r_laws_heldMailS A hA b2 t5 w6 (le_cn w5 k1 e11)
  refine ops_callV rfl rfl (by cbv) (by cbv) C2 (.inl trivial) (by cbv) ?_
  refine rz hA 1 ?_
  refine gs (gx hA 2 ?_)
  refine go_cond rfl (fun c26 => ?_) (fun c26 => ?_)
  ·
   have z3 : m5 < 0 := lss_t hA c26
   exact absurd z3 (Int.not_lt.2 l3.1)
  have z3 : 0 ≤ m5 := lss_f hA c26
  refine gk (gs (gr (rn hA 2 ?_)))
  refine ops_step rfl rfl (idx_sl rfl rfl rfl rfl rfl h05 rfl hget) ?_
  refine rn hA 4 ?_
  have C7 : Real Tryz.prog 79 [.sl 1 t3, .ii m5] (.ii m6) := by
   subst s8; rw [p9]; exact r_laws_heldBoolS A hA b5 m5 l3.1 (le_cn l3.2 k6 e12)
  refine ops_callV rfl rfl (by cbv) (by cbv) C7 (.inl trivial) (by cbv) ?_
  refine rz hA 1 ?_
  refine gs (gx hA 2 ?_)
  refine go_cond rfl (fun c29 => ?_) (fun c29 => ?_)
  ·
   have z1 : m6 < 0 := lss_t hA c29
   exact absurd z1 (Int.not_lt.2 p4.1)
  have z1 : 0 ≤ m6 := lss_f hA c29
  refine gk (gs (gs (gr (rn hA 2 ?_))))
  refine ops_step rfl rfl (idx_sl rfl rfl rfl rfl rfl h05 rfl hget) ?_
  refine rz hA 5 ?_
  refine go_cond rfl (fun c30 => ?_) (fun c30 => ?_)
  ·
   exact no_t c30 (show (A.cmp .neq m6 m6) = false from by subst hA; simp [std])
  refine gk (gs (gr (rn hA 1 ?_)))
  refine ops_step rfl rfl (int_add hA rfl rfl rfl x9) ?_
  refine rz hA 1 ?_
  refine gs (gs ?_)
  refine go_draw [0, 1, 2, 3, 4, 5, 6, 7, 8] (by cbv) ?_
  refine dn_ hA 2 ?_
  refine dops_step rfl rfl rfl (idx_sl rfl rfl rfl rfl rfl h05 rfl hget) ?_
  refine dn_ hA 4 ?_
  obtain ⟨m2, u4, C5⟩ : ∃ (m2 : ByteArray), m2 = (mt s4) ∧ Real Tryz.prog 71 [.ii s4] (.str m2) := ⟨_, rfl, by exact r_laws_markText A hA s4 x1 (le_k w3 e13)⟩
  refine dops_callV rfl rfl (by cbv) (by cbv) C5 (.inr rfl) ?_
  refine dz hA 1 ?_
  refine go_cond rfl (fun c33 => ?_) (fun c33 => ?_)
  ·
   exact no_t c33 (show (A.scmp .neq v9 m2) = false from by subst hA; simp [std, x0, u4])
  refine gk (gs (gr (rn hA 1 ?_)))
  refine ops_step rfl rfl (int_add hA rfl rfl rfl y2) ?_
  refine rz hA 1 ?_
  refine gs (gs ?_)
  refine go_draw [0, 1, 2, 3, 4, 5, 6, 7, 8] (by cbv) ?_
  refine dn_ hA 2 ?_
  refine dops_step rfl rfl rfl (idx_sl rfl rfl rfl rfl rfl h05 rfl hget) ?_
  refine dn_ hA 4 ?_
  obtain ⟨m1, v7, C0⟩ : ∃ (m1 : ByteArray), m1 = (mt q2) ∧ Real Tryz.prog 71 [.ii q2] (.str m1) := ⟨_, rfl, by exact r_laws_markText A hA q2 w7 (le_k w8 e14)⟩
  refine dops_callV rfl rfl (by cbv) (by cbv) C0 (.inr rfl) ?_
  refine dz hA 1 ?_
  refine go_cond rfl (fun c36 => ?_) (fun c36 => ?_)
  ·
   exact no_t c36 (show (A.scmp .neq u6 m1) = false from by subst hA; simp [std, x2, v7])
  refine gk (gs (gr (rn hA 1 ?_)))
  refine ops_step rfl rfl (int_add hA rfl rfl rfl y0) ?_
  refine rz hA 1 ?_
  refine gs (gs (gr (rn hA 2 ?_)))
  refine ops_step rfl rfl (idx_sl rfl rfl rfl rfl rfl h05 rfl hget) ?_
  refine rz hA 5 ?_
  refine go_cond rfl (fun c37 => ?_) (fun c37 => ?_)
  ·
   exact no_t c37 (show (A.cmp .neq p7 p7) = false from by subst hA; simp [std])
  refine gk (gs (gr (rn hA 1 ?_)))
  refine ops_step rfl rfl (int_add hA rfl rfl rfl y3) ?_
  refine rz hA 1 ?_
  refine gs (gr (rn hA 2 ?_))
  refine ops_step rfl rfl (idx_sl rfl rfl rfl rfl rfl h05 rfl hget) ?_
  refine rn hA 4 ?_
  have C6 : Real Tryz.prog 76 [.sl 1 s2, .ii q5] (.ii o4) := by
   subst q6; rw [s5]; exact r_laws_heldIntS A hA b7 q5 w9 (le_cn w2 k2 e17)
  refine ops_callV rfl rfl (by cbv) (by cbv) C6 (.inl trivial) (by cbv) ?_
  refine rz hA 1 ?_
  refine gx hA 2 ?_
  refine go_cond rfl (fun c40 => ?_) (fun c40 => ?_)
  ·
   have y8 : o4 < 0 := lss_t hA c40
   exact absurd y8 (Int.not_lt.2 t9.1)
  have y8 : 0 ≤ o4 := lss_f hA c40
  refine gk (gy hA 3 ?_)
  refine ⟨(S39_1 a_r o4 (A.num .add .i64 n5 1)), List.length x - (i + 1), ?_, by cbv, i + 1, (A.num .add .i64 n5 1), o4, rfl, ?_, rfl⟩
  ·
   exact hdec
  exact ⟨f3, hi1, fin_k t9.2 l4 hrce hkk cat⟩
 have ec1 : (A.rlen a_r) ≤ n5 := lss_f hA c1
 refine go_exit ⟨fun _ => ?_, fun h => absurd rfl h⟩
 refine gx hA 2 ?_
 refine go_ret ⟨_, by cbv, ?_⟩
 show _ = (PV.int .i64 kk)
 refine congrArg (PV.int .i64) ?_
 rw [hkk, List.take_of_length_le (by omega)]
theorem r_laws_heldState (A : Alg) (hA : A = std) (x : GState) (k : Int) (h0 : 0 ≤ k) (h1 : k + cnState x ≤ 1099511627776) : Real Tryz.prog 54 [.agg (eState (mkState k x)), .ii k] (.ii (k + cnBoxS x.Boxes)) := by
 obtain ⟨g8⟩ := x
 obtain ⟨a0, ha0⟩ := nm (List.map eBox (mkBoxS (k) g8) : RR)
 have nn0 := cnBoxS_nn g8
 have h1 : k + (cnBoxS g8) ≤ 1099511627776 := h1
 refine real_args (args' := [.agg [.sl 5 a0], .ii k]) (by subst ha0; rfl) ?_
 refine real tyOk Tryz.func54 (by kernel_rfl) (afun_of rfl ?_)
 refine gx hA 2 ?_
 refine gs (gr (rn hA 3 ?_))
 have C8 := cnBoxS_nn g8
 obtain ⟨q1, hq1, hc2⟩ : ∃ q : Int, q = k + cnBoxS g8 ∧ Real Tryz.prog 98 [.sl 5 a0, .ii k] (.ii q) := ⟨_, rfl, by
  subst ha0; exact r_laws_heldBoxS A hA g8 k (by omega) (by omega)⟩
 have nq1 : 0 ≤ q1 := by omega
 refine ops_callV rfl rfl (by cbv) (by cbv) hc2 (.inl trivial) (by cbv) ?_
 refine rz hA 1 ?_
 refine gs (gx hA 2 ?_)
 refine go_cond rfl (fun c3 => ?_) (fun c3 => ?_)
 ·
  have ec3 : q1 < 0 := lss_t hA c3
  exact absurd ec3 (Int.not_lt.2 nq1)
 have ec3 : 0 ≤ q1 := lss_f hA c3
 refine gk (gx hA 2 ?_)
 refine go_ret ⟨_, by cbv, ?_⟩
 show _ = (PV.int .i64 q1)
 subst hq1
 rfl
theorem r_laws_heldPlain (A : Alg) (hA : A = std) (x : GPlain) (k : Int) (h0 : 0 ≤ k) (h1 : k + cnPlain x ≤ 1099511627776) : Real Tryz.prog 24 [.agg (ePlain (mkPlain k x)), .ii k] (.ii (k + cnBoxS x.State.Boxes + cnSessionS x.Sessions)) := by
 obtain ⟨⟨b8⟩, j1, b4⟩ := x
 obtain ⟨a0, ha0⟩ := nm (List.map eBox (mkBoxS (k) b8) : RR)
 have nn0 := cnBoxS_nn b8
 obtain ⟨a2, ha2⟩ := nm (List.map eSession (mkSessionS (k + cnBoxS b8) b4) : RR)
 have nn2 := cnSessionS_nn b4
 have h1 : k + (cnBoxS b8 + cnSessionS b4) ≤ 1099511627776 := h1
 refine real_args (args' := [.agg [.sl 5 a0, .ii j1, .sl 17 a2], .ii k]) (by subst ha0 ha2; rfl) ?_
 refine real tyOk Tryz.func24 (by kernel_rfl) (afun_of rfl ?_)
 refine gx hA 2 ?_
 refine gs (gr (rn hA 3 ?_))
 have v4 : cnState (⟨b8⟩ : GState) = cnBoxS b8 := rfl
 obtain ⟨q1, hq1, hc2⟩ : ∃ q : Int, q = k + cnBoxS b8 ∧ Real Tryz.prog 54 [.agg [.sl 5 a0], .ii k] (.ii q) := ⟨_, rfl, by
  subst ha0; exact r_laws_heldState A hA (⟨b8⟩ : GState) k (by omega) (by omega)⟩
 have nq1 : 0 ≤ q1 := by omega
 refine ops_callV rfl rfl (by cbv) (by cbv) hc2 (.inl trivial) (by cbv) ?_
 refine rz hA 1 ?_
 refine gs (gx hA 2 ?_)
 refine go_cond rfl (fun c3 => ?_) (fun c3 => ?_)
 ·
  have ec3 : q1 < 0 := lss_t hA c3
  exact absurd ec3 (Int.not_lt.2 nq1)
 have ec3 : 0 ≤ q1 := lss_f hA c3
 refine gk (gs (gr (rn hA 3 ?_)))
 have q7 := cnSessionS_nn b4
 obtain ⟨q4, hq4, hc5⟩ : ∃ q : Int, q = q1 + cnSessionS b4 ∧ Real Tryz.prog 39 [.sl 17 a2, .ii q1] (.ii q) := ⟨_, rfl, by
  subst ha2; subst hq1; exact r_laws_heldSessionS A hA b4 _ (by omega) (by omega)⟩
 have nq4 : 0 ≤ q4 := by omega
 refine ops_callV rfl rfl (by cbv) (by cbv) hc5 (.inl trivial) (by cbv) ?_
 refine rz hA 1 ?_
 refine gs (gx hA 2 ?_)
 refine go_cond rfl (fun c6 => ?_) (fun c6 => ?_)
 ·
  have ec6 : q4 < 0 := lss_t hA c6
  exact absurd ec6 (Int.not_lt.2 nq4)
 have ec6 : 0 ≤ q4 := lss_f hA c6
 refine gk (gx hA 2 ?_)
 refine go_ret ⟨_, by cbv, ?_⟩
 show _ = (PV.int .i64 q4)
 subst hq1 hq4
 rfl
end Go.Av
