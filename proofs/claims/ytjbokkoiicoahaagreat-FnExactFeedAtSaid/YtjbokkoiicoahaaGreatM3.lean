/- Walks: marks. -/
import Derived.Test.YtjbokkoiicoahaaGreatM2
namespace Go.Av
open Go Go.Proofs
set_option maxRecDepth 100000
set_option maxHeartbeats 4000000
set_option linter.unusedVariables false
set_option linter.unusedSimpArgs false
theorem m_laws_markDisk (A : Alg) (hA : A = std) (x : GDisk) (k : Int) (h0 : 0 ≤ k) (h1 : k + cnDisk x ≤ 1099511627776) : RealM Tryz.prog 117 [.agg (eoDisk x), .int .i64 k] [.agg (eoDisk (mkDisk k x)), .int .i64 k] (.int .i64 (k + cnStringS x.Sectors + cnWriteS x.Cache)) := by
 obtain ⟨d0, e2⟩ := x
 obtain ⟨g3, e9⟩ := nm (d0.map eString)
 have k7 := rlen_map hA e9
 obtain ⟨g6, f7⟩ := nm (e2.map eoWrite)
 have l2 := rlen_map hA f7
 refine realM_args (args1 := [.agg [.ow 1 g3, .ow 2 g6], .int .i64 k]) (by subst e9 f7; rfl) rfl ?_
 have h1 : k + (cnStringS d0 + cnWriteS e2) ≤ 1099511627776 := h1
 have nn0 := cnStringS_nn d0
 have nn1 := cnWriteS_nn e2
 refine realM tyOk Tryz.func117 (by kernel_rfl) (afunM_of rfl (by cbv) (fun hv => ?_))
 refine gs (gB (ra hA 2 (by cbv) (oz ?_)))
 refine gs (gB (ra hA 3 (by cbv) ?_))
 obtain ⟨b3, m1, b2, hm1, e7⟩ : ∃ (b3 : RR) (m1 : Int), b3 = List.map eString (mkStringS k d0) ∧ m1 = k + cnStringS d0 ∧ RealM Tryz.prog 72 [.ow 1 g3, .int .i64 k] [.ow 1 b3, .int .i64 k] (.int .i64 m1) := ⟨_, _, rfl, rfl, by subst e9; exact m_laws_markStringS A hA d0 k (by omega) (by omega)⟩
 have g4 := rlen_map hA b2
 have i4 := cnStringS_nn d0
 have nm1 : 0 ≤ m1 := by omega
 refine ops_callM rfl (by cbv) (by cbv) (by cbv) e7 rfl (by cbv) ?_
 refine ra hA 1 (by cbv) (oz ?_)
 refine gs (gB (ra hA 3 (by cbv) ?_))
 obtain ⟨f6, m3, f8, hm3, k3⟩ : ∃ (f6 : RR) (m3 : Int), f6 = List.map eoWrite (mkWriteS m1 e2) ∧ m3 = m1 + cnWriteS e2 ∧ RealM Tryz.prog 157 [.ow 2 g6, .int .i64 m1] [.ow 2 f6, .int .i64 m1] (.int .i64 m3) := ⟨_, _, rfl, rfl, by subst f7; exact m_laws_markWriteS A hA e2 m1 (by omega) (by omega)⟩
 have l3 := rlen_map hA f8
 have k1 := cnWriteS_nn e2
 have nm3 : 0 ≤ m3 := by omega
 refine ops_callM rfl (by cbv) (by cbv) (by cbv) k3 rfl (by cbv) ?_
 refine ra hA 1 (by cbv) (oz ?_)
 refine gs (gB (ra hA 2 (by cbv) (oz ?_)))
 refine go_ret ⟨⟨rfl, rfl, trivial⟩, Eq.trans (b := some [.agg [.ow 1 b3, .ow 2 f6], .int .i64 k]) (by cbv) ?_, _, by cbv, ?_⟩
 ·
  subst b2 hm1 f8 hm3
  rfl
 ·
  show _ = (PV.int .i64 m3)
  subst b2 hm1 f8 hm3
  rfl
theorem m_laws_markLog (A : Alg) (hA : A = std) (x : GLog) (k : Int) (h0 : 0 ≤ k) (h1 : k + cnLog x ≤ 1099511627776) : RealM Tryz.prog 69 [.agg (eoLog x), .int .i64 k] [.agg (eoLog (mkLog k x)), .int .i64 k] (.int .i64 (k + cnStringS x.Disk.Sectors + cnWriteS x.Disk.Cache + cnSegS x.Used)) := by
 obtain ⟨⟨a6, b4⟩, j7, e8, g8, i0, i6, d4⟩ := x
 obtain ⟨f0, d3⟩ := nm (a6.map eString)
 have j8 := rlen_map hA d3
 obtain ⟨f3, d9⟩ := nm (b4.map eoWrite)
 have k5 := rlen_map hA d9
 obtain ⟨i3, g1⟩ := nm (e8.map eoSeg)
 have l4 := rlen_map hA g1
 refine realM_args (args1 := [.agg [.ow 1 f0, .ow 2 f3, .int .i64 j7, .ow 4 i3, .int .i64 g8, .int .i64 i0, .int .i64 i6, .int .i64 d4], .int .i64 k]) (by subst d3 d9 g1; rfl) rfl ?_
 have h1 : k + (cnStringS a6 + cnWriteS b4 + cnSegS e8) ≤ 1099511627776 := h1
 have nn0 := cnStringS_nn a6
 have nn1 := cnWriteS_nn b4
 have nn3 := cnSegS_nn e8
 refine realM tyOk Tryz.func69 (by kernel_rfl) (afunM_of rfl (by cbv) (fun hv => ?_))
 refine gs (gB (ra hA 2 (by cbv) (oz ?_)))
 refine gs (gB (ra hA 3 (by cbv) ?_))
 have j9 : cnDisk (⟨a6, b4⟩ : GDisk) = cnStringS a6 + cnWriteS b4 := rfl
 obtain ⟨b3, d8, m1, b2, d7, hm1, e7⟩ : ∃ (b3 : RR) (d8 : RR) (m1 : Int), b3 = List.map eString (mkStringS (k) a6) ∧ d8 = List.map eoWrite (mkWriteS (k + cnStringS a6) b4) ∧ m1 = k + cnStringS a6 + cnWriteS b4 ∧ RealM Tryz.prog 117 [.agg [.ow 1 f0, .ow 2 f3], .int .i64 k] [.agg [.ow 1 b3, .ow 2 d8], .int .i64 k] (.int .i64 m1) := ⟨_, _, _, rfl, rfl, rfl, by subst d3 d9; exact m_laws_markDisk A hA (⟨a6, b4⟩ : GDisk) k (by omega) (by omega)⟩
 have g4 := rlen_map hA b2
 have k4 := rlen_map hA d7
 have i4 := cnStringS_nn a6
 have k8 := cnWriteS_nn b4
 have nm1 : 0 ≤ m1 := by omega
 refine ops_callM rfl (by cbv) (by cbv) (by cbv) e7 rfl (by cbv) ?_
 refine ra hA 1 (by cbv) (oz ?_)
 refine gs (gB (ra hA 3 (by cbv) ?_))
 obtain ⟨i7, m4, j1, hm4, l8⟩ : ∃ (i7 : RR) (m4 : Int), i7 = List.map eoSeg (mkSegS m1 e8) ∧ m4 = m1 + cnSegS e8 ∧ RealM Tryz.prog 118 [.ow 4 i3, .int .i64 m1] [.ow 4 i7, .int .i64 m1] (.int .i64 m4) := ⟨_, _, rfl, rfl, by subst g1; exact m_laws_markSegS A hA e8 m1 (by omega) (by omega)⟩
 have m2 := rlen_map hA j1
 have l6 := cnSegS_nn e8
 have nm4 : 0 ≤ m4 := by omega
 refine ops_callM rfl (by cbv) (by cbv) (by cbv) l8 rfl (by cbv) ?_
 refine ra hA 1 (by cbv) (oz ?_)
 refine gs (gB (ra hA 2 (by cbv) (oz ?_)))
 refine go_ret ⟨⟨rfl, rfl, rfl, trivial⟩, Eq.trans (b := some [.agg [.ow 1 b3, .ow 2 d8, .int .i64 j7, .ow 4 i7, .int .i64 g8, .int .i64 i0, .int .i64 i6, .int .i64 d4], .int .i64 k]) (by cbv) ?_, _, by cbv, ?_⟩
 ·
  subst b2 d7 hm1 j1 hm4
  rfl
 ·
  show _ = (PV.int .i64 m4)
  subst b2 d7 hm1 j1 hm4
  rfl
theorem m_laws_markStore (A : Alg) (hA : A = std) (x : GStore) (k : Int) (h0 : 0 ≤ k) (h1 : k + cnStore x ≤ 1099511627776) : RealM Tryz.prog 36 [.agg (eoStore x), .int .i64 k] [.agg (eoStore (mkStore k x)), .int .i64 k] (.int .i64 (k + cnStringS x.Log.Disk.Sectors + cnWriteS x.Log.Disk.Cache + cnSegS x.Log.Used + cnIntS x.Freed)) := by
 obtain ⟨⟨⟨a2, a4⟩, d2, c0, c2, c3, c6, b8⟩, e1⟩ := x
 obtain ⟨e0, c4⟩ := nm (a2.map eString)
 have i5 := rlen_map hA c4
 obtain ⟨e4, c8⟩ := nm (a4.map eoWrite)
 have j6 := rlen_map hA c8
 obtain ⟨g2, e6⟩ := nm (c0.map eoSeg)
 have k6 := rlen_map hA e6
 obtain ⟨g9, f5⟩ := nm (e1.map eInt)
 have l1 := rlen_map hA f5
 refine realM_args (args1 := [.agg [.ow 1 e0, .ow 2 e4, .int .i64 d2, .ow 4 g2, .int .i64 c2, .int .i64 c3, .int .i64 c6, .int .i64 b8, .ow 1 g9], .int .i64 k]) (by subst c4 c8 e6 f5; rfl) rfl ?_
 have h1 : k + (cnStringS a2 + cnWriteS a4 + cnSegS c0 + cnIntS e1) ≤ 1099511627776 := h1
 have nn0 := cnStringS_nn a2
 have nn1 := cnWriteS_nn a4
 have nn3 := cnSegS_nn c0
 have nn8 := cnIntS_nn e1
 refine realM tyOk Tryz.func36 (by kernel_rfl) (afunM_of rfl (by cbv) (fun hv => ?_))
 refine gs (gB (ra hA 2 (by cbv) (oz ?_)))
 refine gs (gB (ra hA 3 (by cbv) ?_))
 have j9 : cnLog (⟨⟨a2, a4⟩, d2, c0, c2, c3, c6, b8⟩ : GLog) = cnStringS a2 + cnWriteS a4 + cnSegS c0 := rfl
 obtain ⟨b3, d8, f4, m1, b2, d7, f9, hm1, e7⟩ : ∃ (b3 : RR) (d8 : RR) (f4 : RR) (m1 : Int), b3 = List.map eString (mkStringS (k) a2) ∧ d8 = List.map eoWrite (mkWriteS (k + cnStringS a2) a4) ∧ f4 = List.map eoSeg (mkSegS (k + cnStringS a2 + cnWriteS a4) c0) ∧ m1 = k + cnStringS a2 + cnWriteS a4 + cnSegS c0 ∧ RealM Tryz.prog 69 [.agg [.ow 1 e0, .ow 2 e4, .int .i64 d2, .ow 4 g2, .int .i64 c2, .int .i64 c3, .int .i64 c6, .int .i64 b8], .int .i64 k] [.agg [.ow 1 b3, .ow 2 d8, .int .i64 d2, .ow 4 f4, .int .i64 c2, .int .i64 c3, .int .i64 c6, .int .i64 b8], .int .i64 k] (.int .i64 m1) := ⟨_, _, _, _, rfl, rfl, rfl, rfl, by subst c4 c8 e6; exact m_laws_markLog A hA (⟨⟨a2, a4⟩, d2, c0, c2, c3, c6, b8⟩ : GLog) k (by omega) (by omega)⟩
 have g4 := rlen_map hA b2
 have k4 := rlen_map hA d7
 have k9 := rlen_map hA f9
 have i4 := cnStringS_nn a2
 have k8 := cnWriteS_nn a4
 have k1 := cnSegS_nn c0
 have nm1 : 0 ≤ m1 := by omega
 refine ops_callM rfl (by cbv) (by cbv) (by cbv) e7 rfl (by cbv) ?_
 refine ra hA 1 (by cbv) (oz ?_)
 refine gs (gB (ra hA 3 (by cbv) ?_))
 obtain ⟨i8, m5, j4, hm5, l5⟩ : ∃ (i8 : RR) (m5 : Int), i8 = List.map eInt (mkIntS m1 e1) ∧ m5 = m1 + cnIntS e1 ∧ RealM Tryz.prog 70 [.ow 1 g9, .int .i64 m1] [.ow 1 i8, .int .i64 m1] (.int .i64 m5) := ⟨_, _, rfl, rfl, by subst f5; exact m_laws_markIntS A hA e1 m1 (by omega) (by omega)⟩
 have m7 := rlen_map hA j4
 have m8 := cnIntS_nn e1
 have nm5 : 0 ≤ m5 := by omega
 refine ops_callM rfl (by cbv) (by cbv) (by cbv) l5 rfl (by cbv) ?_
 refine ra hA 1 (by cbv) (oz ?_)
 refine gs (gB (ra hA 2 (by cbv) (oz ?_)))
 refine go_ret ⟨⟨rfl, rfl, rfl, rfl, trivial⟩, Eq.trans (b := some [.agg [.ow 1 b3, .ow 2 d8, .int .i64 d2, .ow 4 f4, .int .i64 c2, .int .i64 c3, .int .i64 c6, .int .i64 b8, .ow 1 i8], .int .i64 k]) (by cbv) ?_, _, by cbv, ?_⟩
 ·
  subst b2 d7 f9 hm1 j4 hm5
  rfl
 ·
  show _ = (PV.int .i64 m5)
  subst b2 d7 f9 hm1 j4 hm5
  rfl
theorem m_laws_markServer (A : Alg) (hA : A = std) (x : GServer) (k : Int) (h0 : 0 ≤ k) (h1 : k + cnServer x ≤ 1099511627776) : RealM Tryz.prog 12 [.agg (eoServer x), .int .i64 k] [.agg (eoServer (mkServer k x)), .int .i64 k] (.int .i64 (k + cnStringS x.Store.Log.Disk.Sectors + cnWriteS x.Store.Log.Disk.Cache + cnSegS x.Store.Log.Used + cnIntS x.Store.Freed + cnSessionS x.Sessions)) := by
 obtain ⟨⟨⟨⟨a0, a1⟩, b6, a3, a8, a9, b5, a7⟩, b0⟩, a5⟩ := x
 obtain ⟨c5, b7⟩ := nm (a0.map eString)
 have g5 := rlen_map hA b7
 obtain ⟨d1, c1⟩ := nm (a1.map eoWrite)
 have i2 := rlen_map hA c1
 obtain ⟨e5, c7⟩ := nm (a3.map eoSeg)
 have j5 := rlen_map hA c7
 obtain ⟨f1, d6⟩ := nm (b0.map eInt)
 have k2 := rlen_map hA d6
 obtain ⟨c9, b9⟩ := nm (a5.map eoSession)
 have i1 := rlen_map hA b9
 refine realM_args (args1 := [.agg [.ow 1 c5, .ow 2 d1, .int .i64 b6, .ow 4 e5, .int .i64 a8, .int .i64 a9, .int .i64 b5, .int .i64 a7, .ow 1 f1, .ow 17 c9], .int .i64 k]) (by subst b7 c1 c7 d6 b9; rfl) rfl ?_
 have h1 : k + (cnStringS a0 + cnWriteS a1 + cnSegS a3 + cnIntS b0 + cnSessionS a5) ≤ 1099511627776 := h1
 have nn0 := cnStringS_nn a0
 have nn1 := cnWriteS_nn a1
 have nn3 := cnSegS_nn a3
 have nn8 := cnIntS_nn b0
 have nn9 := cnSessionS_nn a5
 refine realM tyOk Tryz.func12 (by kernel_rfl) (afunM_of rfl (by cbv) (fun hv => ?_))
 refine gs (gB (ra hA 2 (by cbv) (oz ?_)))
 refine gs (gB (ra hA 3 (by cbv) ?_))
 have j9 : cnStore (⟨⟨⟨a0, a1⟩, b6, a3, a8, a9, b5, a7⟩, b0⟩ : GStore) = cnStringS a0 + cnWriteS a1 + cnSegS a3 + cnIntS b0 := rfl
 obtain ⟨b3, d8, f4, j0, m1, b2, d7, f9, i9, hm1, e7⟩ : ∃ (b3 : RR) (d8 : RR) (f4 : RR) (j0 : RR) (m1 : Int), b3 = List.map eString (mkStringS (k) a0) ∧ d8 = List.map eoWrite (mkWriteS (k + cnStringS a0) a1) ∧ f4 = List.map eoSeg (mkSegS (k + cnStringS a0 + cnWriteS a1) a3) ∧ j0 = List.map eInt (mkIntS (k + cnStringS a0 + cnWriteS a1 + cnSegS a3) b0) ∧ m1 = k + cnStringS a0 + cnWriteS a1 + cnSegS a3 + cnIntS b0 ∧ RealM Tryz.prog 36 [.agg [.ow 1 c5, .ow 2 d1, .int .i64 b6, .ow 4 e5, .int .i64 a8, .int .i64 a9, .int .i64 b5, .int .i64 a7, .ow 1 f1], .int .i64 k] [.agg [.ow 1 b3, .ow 2 d8, .int .i64 b6, .ow 4 f4, .int .i64 a8, .int .i64 a9, .int .i64 b5, .int .i64 a7, .ow 1 j0], .int .i64 k] (.int .i64 m1) := ⟨_, _, _, _, _, rfl, rfl, rfl, rfl, rfl, by subst b7 c1 c7 d6; exact m_laws_markStore A hA (⟨⟨⟨a0, a1⟩, b6, a3, a8, a9, b5, a7⟩, b0⟩ : GStore) k (by omega) (by omega)⟩
 have g4 := rlen_map hA b2
 have k4 := rlen_map hA d7
 have k9 := rlen_map hA f9
 have l9 := rlen_map hA i9
 have i4 := cnStringS_nn a0
 have k8 := cnWriteS_nn a1
 have k1 := cnSegS_nn a3
 have l6 := cnIntS_nn b0
 have nm1 : 0 ≤ m1 := by omega
 refine ops_callM rfl (by cbv) (by cbv) (by cbv) e7 rfl (by cbv) ?_
 refine ra hA 1 (by cbv) (oz ?_)
 refine gs (gB (ra hA 3 (by cbv) ?_))
 obtain ⟨j3, m6, j2, hm6, l7⟩ : ∃ (j3 : RR) (m6 : Int), j3 = List.map eoSession (mkSessionS m1 a5) ∧ m6 = m1 + cnSessionS a5 ∧ RealM Tryz.prog 37 [.ow 17 c9, .int .i64 m1] [.ow 17 j3, .int .i64 m1] (.int .i64 m6) := ⟨_, _, rfl, rfl, by subst b9; exact m_laws_markSessionS A hA a5 m1 (by omega) (by omega)⟩
 have m0 := rlen_map hA j2
 have m9 := cnSessionS_nn a5
 have nm6 : 0 ≤ m6 := by omega
 refine ops_callM rfl (by cbv) (by cbv) (by cbv) l7 rfl (by cbv) ?_
 refine ra hA 1 (by cbv) (oz ?_)
 refine gs (gB (ra hA 2 (by cbv) (oz ?_)))
 refine go_ret ⟨⟨rfl, rfl, rfl, rfl, rfl, trivial⟩, Eq.trans (b := some [.agg [.ow 1 b3, .ow 2 d8, .int .i64 b6, .ow 4 f4, .int .i64 a8, .int .i64 a9, .int .i64 b5, .int .i64 a7, .ow 1 j0, .ow 17 j3], .int .i64 k]) (by cbv) ?_, _, by cbv, ?_⟩
 ·
  subst b2 d7 f9 i9 hm1 j2 hm6
  rfl
 ·
  show _ = (PV.int .i64 m6)
  subst b2 d7 f9 i9 hm1 j2 hm6
  rfl
theorem m_laws_markState (A : Alg) (hA : A = std) (x : GState) (k : Int) (h0 : 0 ≤ k) (h1 : k + cnState x ≤ 1099511627776) : RealM Tryz.prog 53 [.agg (eoState x), .int .i64 k] [.agg (eoState (mkState k x)), .int .i64 k] (.int .i64 (k + cnBoxS x.Boxes)) := by
 obtain ⟨e3⟩ := x
 obtain ⟨g7, g0⟩ := nm (e3.map eoBox)
 have l0 := rlen_map hA g0
 refine realM_args (args1 := [.agg [.ow 5 g7], .int .i64 k]) (by subst g0; rfl) rfl ?_
 have h1 : k + (cnBoxS e3) ≤ 1099511627776 := h1
 have nn0 := cnBoxS_nn e3
 refine realM tyOk Tryz.func53 (by kernel_rfl) (afunM_of rfl (by cbv) (fun hv => ?_))
 refine gs (gB (ra hA 2 (by cbv) (oz ?_)))
 refine gs (gB (ra hA 3 (by cbv) ?_))
 obtain ⟨b3, m1, b2, hm1, e7⟩ : ∃ (b3 : RR) (m1 : Int), b3 = List.map eoBox (mkBoxS k e3) ∧ m1 = k + cnBoxS e3 ∧ RealM Tryz.prog 97 [.ow 5 g7, .int .i64 k] [.ow 5 b3, .int .i64 k] (.int .i64 m1) := ⟨_, _, rfl, rfl, by subst g0; exact m_laws_markBoxS A hA e3 k (by omega) (by omega)⟩
 have g4 := rlen_map hA b2
 have i4 := cnBoxS_nn e3
 have nm1 : 0 ≤ m1 := by omega
 refine ops_callM rfl (by cbv) (by cbv) (by cbv) e7 rfl (by cbv) ?_
 refine ra hA 1 (by cbv) (oz ?_)
 refine gs (gB (ra hA 2 (by cbv) (oz ?_)))
 refine go_ret ⟨⟨rfl, trivial⟩, Eq.trans (b := some [.agg [.ow 5 b3], .int .i64 k]) (by cbv) ?_, _, by cbv, ?_⟩
 ·
  subst b2 hm1
  rfl
 ·
  show _ = (PV.int .i64 m1)
  subst b2 hm1
  rfl
theorem m_laws_markPlain (A : Alg) (hA : A = std) (x : GPlain) (k : Int) (h0 : 0 ≤ k) (h1 : k + cnPlain x ≤ 1099511627776) : RealM Tryz.prog 23 [.agg (eoPlain x), .int .i64 k] [.agg (eoPlain (mkPlain k x)), .int .i64 k] (.int .i64 (k + cnBoxS x.State.Boxes + cnSessionS x.Sessions)) := by
 obtain ⟨⟨b1⟩, d4, a5⟩ := x
 obtain ⟨f2, d5⟩ := nm (b1.map eoBox)
 have k0 := rlen_map hA d5
 obtain ⟨c9, b9⟩ := nm (a5.map eoSession)
 have i1 := rlen_map hA b9
 refine realM_args (args1 := [.agg [.ow 5 f2, .int .i64 d4, .ow 17 c9], .int .i64 k]) (by subst d5 b9; rfl) rfl ?_
 have h1 : k + (cnBoxS b1 + cnSessionS a5) ≤ 1099511627776 := h1
 have nn0 := cnBoxS_nn b1
 have nn2 := cnSessionS_nn a5
 refine realM tyOk Tryz.func23 (by kernel_rfl) (afunM_of rfl (by cbv) (fun hv => ?_))
 refine gs (gB (ra hA 2 (by cbv) (oz ?_)))
 refine gs (gB (ra hA 3 (by cbv) ?_))
 have j9 : cnState (⟨b1⟩ : GState) = cnBoxS b1 := rfl
 obtain ⟨b3, m1, b2, hm1, e7⟩ : ∃ (b3 : RR) (m1 : Int), b3 = List.map eoBox (mkBoxS (k) b1) ∧ m1 = k + cnBoxS b1 ∧ RealM Tryz.prog 53 [.agg [.ow 5 f2], .int .i64 k] [.agg [.ow 5 b3], .int .i64 k] (.int .i64 m1) := ⟨_, _, rfl, rfl, by subst d5; exact m_laws_markState A hA (⟨b1⟩ : GState) k (by omega) (by omega)⟩
 have g4 := rlen_map hA b2
 have i4 := cnBoxS_nn b1
 have nm1 : 0 ≤ m1 := by omega
 refine ops_callM rfl (by cbv) (by cbv) (by cbv) e7 rfl (by cbv) ?_
 refine ra hA 1 (by cbv) (oz ?_)
 refine gs (gB (ra hA 3 (by cbv) ?_))
 obtain ⟨f6, m3, f8, hm3, k3⟩ : ∃ (f6 : RR) (m3 : Int), f6 = List.map eoSession (mkSessionS m1 a5) ∧ m3 = m1 + cnSessionS a5 ∧ RealM Tryz.prog 37 [.ow 17 c9, .int .i64 m1] [.ow 17 f6, .int .i64 m1] (.int .i64 m3) := ⟨_, _, rfl, rfl, by subst b9; exact m_laws_markSessionS A hA a5 m1 (by omega) (by omega)⟩
 have l3 := rlen_map hA f8
 have k1 := cnSessionS_nn a5
 have nm3 : 0 ≤ m3 := by omega
 refine ops_callM rfl (by cbv) (by cbv) (by cbv) k3 rfl (by cbv) ?_
 refine ra hA 1 (by cbv) (oz ?_)
 refine gs (gB (ra hA 2 (by cbv) (oz ?_)))
 refine go_ret ⟨⟨rfl, rfl, trivial⟩, Eq.trans (b := some [.agg [.ow 5 b3, .int .i64 d4, .ow 17 f6], .int .i64 k]) (by cbv) ?_, _, by cbv, ?_⟩
 ·
  subst b2 hm1 f8 hm3
  rfl
 ·
  show _ = (PV.int .i64 m3)
  subst b2 hm1 f8 hm3
  rfl
end Go.Av
