/- Walks: marks. -/
import Derived.Test.YtjbokkoiicoahaaM2
namespace Go.Av
open Go Go.Proofs
set_option maxRecDepth 100000
set_option maxHeartbeats 4000000
set_option linter.unusedVariables false
set_option linter.unusedSimpArgs false
theorem m_laws_markState (A : Alg) (hA : A = std) (x : GState) (k : Int) (h0 : 0 ≤ k) (h1 : k + cnState x ≤ 1099511627776) : RealM Try.prog 76 [.agg (eoState x), .int .i64 k] [.agg (eoState (mkState k x)), .int .i64 k] (.int .i64 (k + cnBoxS x.Boxes)) := by
 obtain ⟨a3⟩ := x
 obtain ⟨b1, a6⟩ := nm (a3.map eoBox)
 have b7 := rlen_map hA a6
 refine realM_args (args1 := [.agg [.ow 5 b1], .int .i64 k]) (by subst a6; rfl) rfl ?_
 have h1 : k + (cnBoxS a3) ≤ 1099511627776 := h1
 have nn0 := cnBoxS_nn a3
 refine realM tyOk Try.func76 (by kernel_rfl) (afunM_of rfl (by cbv) (fun hv => ?_))
 refine gs (gB (ra hA 2 (by cbv) (oz ?_)))
 refine gs (gB (ra hA 3 (by cbv) ?_))
 obtain ⟨a7, m1, a8, hm1, b5⟩ : ∃ (a7 : RR) (m1 : Int), a7 = List.map eoBox (mkBoxS k a3) ∧ m1 = k + cnBoxS a3 ∧ RealM Try.prog 113 [.ow 5 b1, .int .i64 k] [.ow 5 a7, .int .i64 k] (.int .i64 m1) := ⟨_, _, rfl, rfl, by subst a6; exact m_laws_markBoxS A hA a3 k (by omega) (by omega)⟩
 have b8 := rlen_map hA a8
 have c0 := cnBoxS_nn a3
 have nm1 : 0 ≤ m1 := by omega
 refine ops_callM rfl (by cbv) (by cbv) (by cbv) b5 rfl (by cbv) ?_
 refine ra hA 1 (by cbv) (oz ?_)
 refine gs (gB (ra hA 2 (by cbv) (oz ?_)))
 refine go_ret ⟨⟨rfl, trivial⟩, Eq.trans (b := some [.agg [.ow 5 a7], .int .i64 k]) (by cbv) ?_, _, by cbv, ?_⟩
 ·
  subst a8 hm1
  rfl
 ·
  show _ = (PV.int .i64 m1)
  subst a8 hm1
  rfl
theorem m_laws_markPlain (A : Alg) (hA : A = std) (x : GPlain) (k : Int) (h0 : 0 ≤ k) (h1 : k + cnPlain x ≤ 1099511627776) : RealM Try.prog 37 [.agg (eoPlain x), .int .i64 k] [.agg (eoPlain (mkPlain k x)), .int .i64 k] (.int .i64 (k + cnBoxS x.State.Boxes + cnSessionS x.Sessions)) := by
 obtain ⟨⟨a0⟩, b0, a1⟩ := x
 obtain ⟨a5, a2⟩ := nm (a0.map eoBox)
 have b4 := rlen_map hA a2
 obtain ⟨a9, a4⟩ := nm (a1.map eoSession)
 have b6 := rlen_map hA a4
 refine realM_args (args1 := [.agg [.ow 5 a5, .int .i64 b0, .ow 17 a9], .int .i64 k]) (by subst a2 a4; rfl) rfl ?_
 have h1 : k + (cnBoxS a0 + cnSessionS a1) ≤ 1099511627776 := h1
 have nn0 := cnBoxS_nn a0
 have nn2 := cnSessionS_nn a1
 refine realM tyOk Try.func37 (by kernel_rfl) (afunM_of rfl (by cbv) (fun hv => ?_))
 refine gs (gB (ra hA 2 (by cbv) (oz ?_)))
 refine gs (gB (ra hA 3 (by cbv) ?_))
 have c2 : cnState (⟨a0⟩ : GState) = cnBoxS a0 := rfl
 obtain ⟨a7, m1, a8, hm1, b5⟩ : ∃ (a7 : RR) (m1 : Int), a7 = List.map eoBox (mkBoxS (k) a0) ∧ m1 = k + cnBoxS a0 ∧ RealM Try.prog 76 [.agg [.ow 5 a5], .int .i64 k] [.agg [.ow 5 a7], .int .i64 k] (.int .i64 m1) := ⟨_, _, rfl, rfl, by subst a2; exact m_laws_markState A hA (⟨a0⟩ : GState) k (by omega) (by omega)⟩
 have b8 := rlen_map hA a8
 have c0 := cnBoxS_nn a0
 have nm1 : 0 ≤ m1 := by omega
 refine ops_callM rfl (by cbv) (by cbv) (by cbv) b5 rfl (by cbv) ?_
 refine ra hA 1 (by cbv) (oz ?_)
 refine gs (gB (ra hA 3 (by cbv) ?_))
 obtain ⟨b3, m3, b2, hm3, b9⟩ : ∃ (b3 : RR) (m3 : Int), b3 = List.map eoSession (mkSessionS m1 a1) ∧ m3 = m1 + cnSessionS a1 ∧ RealM Try.prog 77 [.ow 17 a9, .int .i64 m1] [.ow 17 b3, .int .i64 m1] (.int .i64 m3) := ⟨_, _, rfl, rfl, by subst a4; exact m_laws_markSessionS A hA a1 m1 (by omega) (by omega)⟩
 have c1 := rlen_map hA b2
 have c3 := cnSessionS_nn a1
 have nm3 : 0 ≤ m3 := by omega
 refine ops_callM rfl (by cbv) (by cbv) (by cbv) b9 rfl (by cbv) ?_
 refine ra hA 1 (by cbv) (oz ?_)
 refine gs (gB (ra hA 2 (by cbv) (oz ?_)))
 refine go_ret ⟨⟨rfl, rfl, trivial⟩, Eq.trans (b := some [.agg [.ow 5 a7, .int .i64 b0, .ow 17 b3], .int .i64 k]) (by cbv) ?_, _, by cbv, ?_⟩
 ·
  subst a8 hm1 b2 hm3
  rfl
 ·
  show _ = (PV.int .i64 m3)
  subst a8 hm1 b2 hm3
  rfl
end Go.Av
