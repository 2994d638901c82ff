/- Walks: copies of servers. -/
import Derived.Test.YtjbokkoiicoahaaGreatC6
import Derived.Test.YtjbokkoiicoahaaGreatC7
namespace Go.Av
open Go Go.Proofs
set_option maxRecDepth 100000
set_option maxHeartbeats 4000000
set_option linter.unusedVariables false
set_option linter.unusedSimpArgs false
def S27_1 (p0 : Int) (p1 : RR) (p2 : RR) (p3 : Int) (p4 : RR) (p5 : Int) (p6 : Int) (p7 : Int) (p8 : Int) (p9 : RR) (p10 : RR) (p11 : Int) (p12 : RR) (p13 : RR) (p14 : RR) (p15 : RR) (p16 : RR) : St := { sl := [.bad, .pt 1 0 0, .pt 2 0 0, .pt 3 0 0, .int .i64 p0, .bad, .bad, .bad, .bad, .bad, .bad, .bad, .bad, .bad, .bad, .bad, .bad, .bad, .bad, .bad, .bad, .bad, .bad, .bad, .bad, .bad, .bad, .bad], bl := [(1, ⟨.var, 10, [[.sl 1 p1, .sl 2 p2, .int .i64 p3, .sl 4 p4, .int .i64 p5, .int .i64 p6, .int .i64 p7, .int .i64 p8, .sl 1 p9, .sl 17 p10]]⟩), (2, ⟨.var, 10, [[.zc, .zc, .int .i64 p11, .zc, .int .i64 p11, .int .i64 p11, .int .i64 p11, .int .i64 p11, .zc, .zc]]⟩), (3, ⟨.var, 10, [[.own 7, .own 1007, .int .i64 p3, .own 3007, .int .i64 p5, .int .i64 p6, .int .i64 p7, .int .i64 p8, .own 8007, .own 7003]]⟩), (7, ⟨.arr, 1, p12⟩), (1007, ⟨.arr, 2, p13⟩), (3007, ⟨.arr, 4, p14⟩), (7003, ⟨.arr, 17, p15⟩), (8007, ⟨.arr, 1, p16⟩)] }
theorem r_spec_l23Copy (A : Alg) (hA : A = std) (x : GServer) (hz : ∀ q ∈ zsServer x, q ≤ 1048576) : Real Tryz.prog 27 [.agg (eServer x)] (.agg (eoServer x)) := by
 obtain ⟨⟨⟨⟨c6, c8⟩, b2, d7, a3, a2, b0, a1⟩, e4⟩, d5⟩ := x
 obtain ⟨b4, e1⟩ := nm (c6.map eString)
 have i9 := rlen_map hA e1
 obtain ⟨b7, e2⟩ := nm (c8.map eWrite)
 have j0 := rlen_map hA e2
 obtain ⟨c7, e9⟩ := nm (d7.map eSeg)
 have j9 := rlen_map hA e9
 obtain ⟨d1, f3⟩ := nm (e4.map eInt)
 have k5 := rlen_map hA f3
 obtain ⟨a0, g0⟩ := nm (d5.map eSession)
 have l5 := rlen_map hA g0
 refine real_args (args' := [.agg [.sl 1 b4, .sl 2 b7, .int .i64 b2, .sl 4 c7, .int .i64 a3, .int .i64 a2, .int .i64 b0, .int .i64 a1, .sl 1 d1, .sl 17 a0]]) (by subst e1 e2 e9 f3 g0; rfl) ?_
 have j2 : ∀ q ∈ zsStore (⟨⟨⟨c6, c8⟩, b2, d7, a3, a2, b0, a1⟩, e4⟩ : GStore), q ≤ 1048576 := fun q hq => hz q (by simp only [zsServer, List.mem_append]; simp only [hq, true_or, or_true])
 have i3 : ∀ q ∈ zsLog (⟨⟨c6, c8⟩, b2, d7, a3, a2, b0, a1⟩ : GLog), q ≤ 1048576 := fun q hq => j2 q (by simp only [zsStore, List.mem_append]; simp only [hq, true_or, or_true])
 have g3 : ∀ q ∈ zsDisk (⟨c6, c8⟩ : GDisk), q ≤ 1048576 := fun q hq => i3 q (by simp only [zsLog, List.mem_append]; simp only [hq, true_or, or_true])
 have g4 : ∀ q ∈ zsStringS c6, q ≤ 1048576 := fun q hq => g3 q (by simp only [zsDisk, List.mem_append]; simp only [hq, true_or, or_true])
 have j1 : List.length c6 ≤ 1048576 := g4 _ (by simp [zsStringS])
 have g6 : ∀ q ∈ zsWriteS c8, q ≤ 1048576 := fun q hq => g3 q (by simp only [zsDisk, List.mem_append]; simp only [hq, true_or, or_true])
 have j3 : List.length c8 ≤ 1048576 := g6 _ (by simp [zsWriteS])
 have i4 : ∀ q ∈ zsSegS d7, q ≤ 1048576 := fun q hq => i3 q (by simp only [zsLog, List.mem_append]; simp only [hq, true_or, or_true])
 have k4 : List.length d7 ≤ 1048576 := i4 _ (by simp [zsSegS])
 have i8 : ∀ q ∈ zsIntS e4, q ≤ 1048576 := fun q hq => j2 q (by simp only [zsStore, List.mem_append]; simp only [hq, true_or, or_true])
 have l1 : List.length e4 ≤ 1048576 := i8 _ (by simp [zsIntS])
 have i6 : ∀ q ∈ zsSessionS d5, q ≤ 1048576 := fun q hq => hz q (by simp only [zsServer, List.mem_append]; simp only [hq, true_or, or_true])
 have l8 : List.length d5 ≤ 1048576 := i6 _ (by simp [zsSessionS])
 refine real tyOk Tryz.func27 (by kernel_rfl) (afun_of rfl ?_)
 refine gs (gr (ra hA 2 (by cbv) (od ?_)))
 refine gs (gr (ra hA 2 (by cbv) ?_))
 obtain ⟨b5, c0, d0, d3, f2, f7, g8, i5, hc2⟩ : ∃ (b5 : RR) (c0 : RR) (d0 : RR) (d3 : RR), b5 = List.map eString c6 ∧ c0 = List.map eoWrite c8 ∧ d0 = List.map eoSeg d7 ∧ d3 = List.map eInt e4 ∧ Real Tryz.prog 58 [.agg [.sl 1 b4, .sl 2 b7, .int .i64 b2, .sl 4 c7, .int .i64 a3, .int .i64 a2, .int .i64 b0, .int .i64 a1, .sl 1 d1]] (.agg [.ow 1 b5, .ow 2 c0, .int .i64 b2, .ow 4 d0, .int .i64 a3, .int .i64 a2, .int .i64 b0, .int .i64 a1, .ow 1 d3]) := ⟨_, _, _, _, rfl, rfl, rfl, rfl, by subst e1 e2 e9 f3; exact r_spec_l12Copy A hA (⟨⟨⟨c6, c8⟩, b2, d7, a3, a2, b0, a1⟩, e4⟩ : GStore) (by assumption)⟩
 have j4 := rlen_map hA f2
 have j6 := rlen_map hA f7
 have l4 := rlen_map hA g8
 have l7 := rlen_map hA i5
 refine ops_callV rfl rfl (by cbv) (by cbv) hc2 (.inr rfl) (by cbv) ?_
 refine ra hA 3 (by cbv) (od ?_)
 refine gs (gs (gr (ra hA 1 (by cbv) (od ?_))))
 refine go_block ?_
 refine go_loopE (fun σ m => ∃ (i : Nat) (R : RR) (n : Int), σ = (S27_1 n b4 b7 b2 c7 a3 a2 b0 a1 d1 a0 0 b5 c0 d0 R d3) ∧ (n = (i : Int) ∧ i ≤ List.length d5 ∧ R = List.map eoSession (d5.take i)) ∧ m = List.length d5 - i) _ [.cell 3 9 7003 17, .up 8007, .up 7003, .up 3007, .up 1007, .up 7, .up 3, .up 2, .up 1] [1, 2, 3, 4] [1, 2, 3, 7, 1007, 3007, 7003, 8007] (S27_1 0 b4 b7 b2 c7 a3 a2 b0 a1 d1 a0 0 b5 c0 d0 ([]) d3) rfl (by cbv) ⟨0, [], 0, rfl, ?_, rfl⟩ (fun σ m hI => ?_)
 ·
  exact ⟨rfl, Nat.zero_le _, rfl⟩
 obtain ⟨i, R, n, rfl, ⟨hn, hi, hR⟩, rfl⟩ := hI
 refine gs (gs (gr (ra hA 5 (by cbv) (od ?_))))
 refine go_cond rfl (fun c3 => ?_) (fun c3 => ?_)
 ·
  have ec3 : n < (A.rlen a0) := lss_t hA c3
  refine gk (gs ?_)
  refine go_block ?_
  have m0 : (0 : Int) ≤ n := by
   omega
  have m2 : (Int.toNat n) < List.length d5 := by
   omega
  obtain ⟨x4, hx4⟩ : ∃ x, (d5)[(Int.toNat n)]? = some x := ⟨_, List.getElem?_eq_getElem m2⟩
  have m1 := List.mem_of_getElem? hx4
  obtain ⟨c4, d2, c9, c5, ⟨a5, a7, e8, e6⟩, ⟨a4, a9, e3, e5⟩, ⟨a6, b1, b3, a8, e7⟩⟩ := x4
  obtain ⟨c2, f8⟩ := nm (e8.map eString)
  have l2 := rlen_map hA f8
  obtain ⟨b9, f4⟩ := nm (e6.map eString)
  have k8 := rlen_map hA f4
  obtain ⟨b6, f1⟩ := nm (e3.map eMail)
  have k1 := rlen_map hA f1
  obtain ⟨b8, f5⟩ := nm (e5.map eBool)
  have k6 := rlen_map hA f5
  obtain ⟨c1, f6⟩ := nm (e7.map eInt)
  have k9 := rlen_map hA f6
  have m3 : a0[(Int.toNat n)]? = some [.int .i64 c4, .str d2, .str c9, .bool c5, .int .i64 a5, .str a7, .sl 1 c2, .sl 1 b9, .int .i64 a4, .str a9, .sl 3 b6, .sl 1 b8, .int .i64 a6, .str b1, .str b3, .int .i64 a8, .sl 1 c1] := by
   subst f8 f4 f1 f5 f6; exact map_at eSession g0 hx4
  have j7 := hx4
  rw [hn] at j7
  have j7 : (d5)[i]? = some (⟨c4, d2, c9, c5, ⟨a5, a7, e8, e6⟩, ⟨a4, a9, e3, e5⟩, ⟨a6, b1, b3, a8, e7⟩⟩ : GSession) := j7
  have zS : ∀ k ∈ zsSession (⟨c4, d2, c9, c5, ⟨a5, a7, e8, e6⟩, ⟨a4, a9, e3, e5⟩, ⟨a6, b1, b3, a8, e7⟩⟩ : GSession), k ≤ 1048576 := fun k hk => i6 k (List.mem_cons_of_mem _ (List.mem_flatMap.2 ⟨_, m1, hk⟩))
  obtain ⟨e0, d6, d4, d8, d9, g7, g2, f9, g1, g5, hc6⟩ : ∃ (e0 : RR) (d6 : RR) (d4 : RR) (d8 : RR) (d9 : RR), e0 = List.map eString e8 ∧ d6 = List.map eString e6 ∧ d4 = List.map eoMail e3 ∧ d8 = List.map eBool e5 ∧ d9 = List.map eInt e7 ∧ Real Tryz.prog 50 [.agg [.int .i64 c4, .str d2, .str c9, .bool c5, .int .i64 a5, .str a7, .sl 1 c2, .sl 1 b9, .int .i64 a4, .str a9, .sl 3 b6, .sl 1 b8, .int .i64 a6, .str b1, .str b3, .int .i64 a8, .sl 1 c1]] (.agg [.int .i64 c4, .str d2, .str c9, .bool c5, .int .i64 a5, .str a7, .ow 1 e0, .ow 1 d6, .int .i64 a4, .str a9, .ow 3 d4, .ow 1 d8, .int .i64 a6, .str b1, .str b3, .int .i64 a8, .ow 1 d9]) := ⟨_, _, _, _, _, rfl, rfl, rfl, rfl, rfl, by subst f8 f4 f1 f5 f6; exact r_spec_l22Copy A hA (⟨c4, d2, c9, c5, ⟨a5, a7, e8, e6⟩, ⟨a4, a9, e3, e5⟩, ⟨a6, b1, b3, a8, e7⟩⟩ : GSession) (by assumption)⟩
  have l0 := rlen_map hA g7
  have k3 := rlen_map hA g2
  have k0 := rlen_map hA f9
  have k2 := rlen_map hA g1
  have k7 := rlen_map hA g5
  obtain ⟨r7, hr7⟩ := nm (R ++ [[.int .i64 c4, .str d2, .str c9, .bool c5, .int .i64 a5, .str a7, .ow 1 e0, .ow 1 d6, .int .i64 a4, .str a9, .ow 3 d4, .ow 1 d8, .int .i64 a6, .str b1, .str b3, .int .i64 a8, .ow 1 d9]] : RR)
  have er7 : r7 = List.map eoSession ((d5.take i) ++ ([(⟨c4, d2, c9, c5, ⟨a5, a7, e8, e6⟩, ⟨a4, a9, e3, e5⟩, ⟨a6, b1, b3, a8, e7⟩⟩ : GSession)])) := by rw [hr7]; exact app_eq hR (by simp only [g7, g2, f9, g1, g5]; rfl)
  have lr7 := rlen_map hA er7
  refine go_drawE (by cbv) rfl rfl ({ sl := [.bad, .pt 1 0 0, .pt 2 0 0, .pt 3 0 0, .int .i64 n, .bad, .bad, .bad, .bad, .int .i64 n, .pt 1 0 9, .sl 17 a0, .int .i64 (A.rlen a0), .bool (A.cmp .lss n (A.rlen a0)), .bad, .bad, .pt 3 0 9, .bad, .pt 1 0 9, .sl 17 a0, .int .i64 n, .rd [.int .i64 c4, .str d2, .str c9, .bool c5, .int .i64 a5, .str a7, .sl 1 c2, .sl 1 b9, .int .i64 a4, .str a9, .sl 3 b6, .sl 1 b8, .int .i64 a6, .str b1, .str b3, .int .i64 a8, .sl 1 c1], .agg [.int .i64 c4, .str d2, .str c9, .bool c5, .int .i64 a5, .str a7, .sl 1 c2, .sl 1 b9, .int .i64 a4, .str a9, .sl 3 b6, .sl 1 b8, .int .i64 a6, .str b1, .str b3, .int .i64 a8, .sl 1 c1], .agg [.int .i64 c4, .str d2, .str c9, .bool c5, .int .i64 a5, .str a7, .bad, .bad, .int .i64 a4, .str a9, .bad, .bad, .int .i64 a6, .str b1, .str b3, .int .i64 a8, .bad], .bad, .own 7003, .pt 3 0 9, .bad], bl := [(1, ⟨.var, 10, [[.sl 1 b4, .sl 2 b7, .int .i64 b2, .sl 4 c7, .int .i64 a3, .int .i64 a2, .int .i64 b0, .int .i64 a1, .sl 1 d1, .sl 17 a0]]⟩), (2, ⟨.var, 10, [[.zc, .zc, .int .i64 0, .zc, .int .i64 0, .int .i64 0, .int .i64 0, .int .i64 0, .zc, .zc]]⟩), (3, ⟨.var, 10, [[.own 7, .own 1007, .int .i64 b2, .own 3007, .int .i64 a3, .int .i64 a2, .int .i64 b0, .int .i64 a1, .own 8007, .own 7003]]⟩), (7, ⟨.arr, 1, b5⟩), (1007, ⟨.arr, 2, c0⟩), (3007, ⟨.arr, 4, d0⟩), (7003, ⟨.arr, 17, r7⟩), (8007, ⟨.arr, 1, d3⟩)] } : St) (fun dR dK dhR dhF => ?_) ?_
  ·
   have j8 : ∀ (dn : Nat), cntF [true, true, true, true, true, true, true, true, true, true, true, true] = dn → dwp T ⟨Real Tryz.prog, RealM Tryz.prog, RealC Tryz.prog⟩ dR dK dn [true, true, true, true, true, true, true, true, true, true, true, true] ({ sl := [.bad, .pt 1 0 0, .pt 2 0 0, .pt 3 0 0, .int .i64 n, .bad, .bad, .bad, .bad, .int .i64 n, .pt 1 0 9, .sl 17 a0, .int .i64 (A.rlen a0), .bool (A.cmp .lss n (A.rlen a0)), .bad, .bad, .pt 3 0 9, .bad, .pt 1 0 9, .sl 17 a0, .int .i64 n, .rd [.int .i64 c4, .str d2, .str c9, .bool c5, .int .i64 a5, .str a7, .sl 1 c2, .sl 1 b9, .int .i64 a4, .str a9, .sl 3 b6, .sl 1 b8, .int .i64 a6, .str b1, .str b3, .int .i64 a8, .sl 1 c1], .agg [.int .i64 c4, .str d2, .str c9, .bool c5, .int .i64 a5, .str a7, .sl 1 c2, .sl 1 b9, .int .i64 a4, .str a9, .sl 3 b6, .sl 1 b8, .int .i64 a6, .str b1, .str b3, .int .i64 a8, .sl 1 c1], .agg [.int .i64 c4, .str d2, .str c9, .bool c5, .int .i64 a5, .str a7, .bad, .bad, .int .i64 a4, .str a9, .bad, .bad, .int .i64 a6, .str b1, .str b3, .int .i64 a8, .bad], .bad, .own 7003, .pt 3 0 9, .bad], bl := [(1, ⟨.var, 10, [[.sl 1 b4, .sl 2 b7, .int .i64 b2, .sl 4 c7, .int .i64 a3, .int .i64 a2, .int .i64 b0, .int .i64 a1, .sl 1 d1, .sl 17 a0]]⟩), (2, ⟨.var, 10, [[.zc, .zc, .int .i64 0, .zc, .int .i64 0, .int .i64 0, .int .i64 0, .int .i64 0, .zc, .zc]]⟩), (3, ⟨.var, 10, [[.own 7, .own 1007, .int .i64 b2, .own 3007, .int .i64 a3, .int .i64 a2, .int .i64 b0, .int .i64 a1, .own 8007, .own 7003]]⟩), (7, ⟨.arr, 1, b5⟩), (1007, ⟨.arr, 2, c0⟩), (3007, ⟨.arr, 4, d0⟩), (7003, ⟨.arr, 17, r7⟩), (8007, ⟨.arr, 1, d3⟩)] } : St) := by
    intro dn
    induction dn with
    | zero =>
     intro  dhn
     exact dwp_last dhF
    | succ dn ih =>
     intro  dhn
     subst dhR
     refine dwp_next (is := [0, 1, 2, 3, 4, 5, 6, 7, 8, 9, 10, 11]) rfl ?_
     refine allRdy_none rfl ?_
     refine allRdy_none rfl ?_
     refine allRdy_none rfl ?_
     refine allRdy_none rfl ?_
     refine allRdy_none rfl ?_
     refine allRdy_none rfl ?_
     refine allRdy_none rfl ?_
     refine allRdy_none rfl ?_
     refine allRdy_none rfl ?_
     refine allRdy_none rfl ?_
     refine allRdy_none rfl ?_
     refine allRdy_none rfl ?_
     exact trivial
   have l3 : ∀ (dn : Nat) (i7 : Bool) (j5 : PV), (i7 = true → j5 = .pt 3 0 9) → cntF [true, true, true, true, true, true, true, true, true, true, i7, false] = dn → dwp T ⟨Real Tryz.prog, RealM Tryz.prog, RealC Tryz.prog⟩ dR dK dn [true, true, true, true, true, true, true, true, true, true, i7, false] ({ sl := [.bad, .pt 1 0 0, .pt 2 0 0, .pt 3 0 0, .int .i64 n, .bad, .bad, .bad, .bad, .int .i64 n, .pt 1 0 9, .sl 17 a0, .int .i64 (A.rlen a0), .bool (A.cmp .lss n (A.rlen a0)), .bad, .bad, .pt 3 0 9, .bad, .pt 1 0 9, .sl 17 a0, .int .i64 n, .rd [.int .i64 c4, .str d2, .str c9, .bool c5, .int .i64 a5, .str a7, .sl 1 c2, .sl 1 b9, .int .i64 a4, .str a9, .sl 3 b6, .sl 1 b8, .int .i64 a6, .str b1, .str b3, .int .i64 a8, .sl 1 c1], .agg [.int .i64 c4, .str d2, .str c9, .bool c5, .int .i64 a5, .str a7, .sl 1 c2, .sl 1 b9, .int .i64 a4, .str a9, .sl 3 b6, .sl 1 b8, .int .i64 a6, .str b1, .str b3, .int .i64 a8, .sl 1 c1], .agg [.int .i64 c4, .str d2, .str c9, .bool c5, .int .i64 a5, .str a7, .bad, .bad, .int .i64 a4, .str a9, .bad, .bad, .int .i64 a6, .str b1, .str b3, .int .i64 a8, .bad], .bad, .own 7003, j5, .bad], bl := [(1, ⟨.var, 10, [[.sl 1 b4, .sl 2 b7, .int .i64 b2, .sl 4 c7, .int .i64 a3, .int .i64 a2, .int .i64 b0, .int .i64 a1, .sl 1 d1, .sl 17 a0]]⟩), (2, ⟨.var, 10, [[.zc, .zc, .int .i64 0, .zc, .int .i64 0, .int .i64 0, .int .i64 0, .int .i64 0, .zc, .zc]]⟩), (3, ⟨.var, 10, [[.own 7, .own 1007, .int .i64 b2, .own 3007, .int .i64 a3, .int .i64 a2, .int .i64 b0, .int .i64 a1, .own 8007, .bad]]⟩), (7, ⟨.arr, 1, b5⟩), (1007, ⟨.arr, 2, c0⟩), (3007, ⟨.arr, 4, d0⟩), (7003, ⟨.arr, 17, r7⟩), (8007, ⟨.arr, 1, d3⟩)] } : St) := by
    intro dn
    induction dn with
    | zero =>
     intro i7 j5 l6 dhn
     exact absurd (show false = true from cntF_zero  _ dhn 11 (by show 11 < 12; decide)) (by decide)
    | succ dn ih =>
     intro i7 j5 l6 dhn
     subst dhR
     refine dwp_next (is := [0, 1, 2, 3, 4, 5, 6, 7, 8, 9, 10, 11]) rfl ?_
     refine allRdy_none rfl ?_
     refine allRdy_none rfl ?_
     refine allRdy_none rfl ?_
     refine allRdy_none rfl ?_
     refine allRdy_none rfl ?_
     refine allRdy_none rfl ?_
     refine allRdy_none rfl ?_
     refine allRdy_none rfl ?_
     refine allRdy_none rfl ?_
     refine allRdy_none rfl ?_
     refine allRdy_q rfl rfl (fun h0 h1 => ?_) ?_
     ·
      cases (show i7 = false from h0)
      refine ra hA 1 (by cbv) ?_
      exact ops_done (dwp_to [] (by cbv) rfl (ih true (.pt 3 0 9) (fun _ => rfl) (cnt_dec h0 (by show 10 < 12; decide) dhn)))
     refine allRdy_q rfl rfl (fun h0 h1 => ?_) ?_
     ·
      obtain rfl : i7 = true := h1.1
      obtain rfl := l6 rfl
      refine ra hA 1 (by cbv) ?_
      exact ops_done (dwp_to [] (by cbv) rfl (j8 dn (cnt_dec h0 (by show 11 < 12; decide) dhn)))
     exact trivial
   have l9 : ∀ (dn : Nat) (dB0 : Bool) (dB1 : Bool) (dQ0 : PV) (dQ1 : PV), (dB0 = true → dQ0 = .pt 3 0 9) → (dB1 = true → dQ1 = .own 7003) → (dB1 = true → dB0 = true) → cntF [dB0, dB1, true, true, true, true, true, true, true, false, false, false] = dn → dwp T ⟨Real Tryz.prog, RealM Tryz.prog, RealC Tryz.prog⟩ dR dK dn [dB0, dB1, true, true, true, true, true, true, true, false, false, false] ({ sl := [.bad, .pt 1 0 0, .pt 2 0 0, .pt 3 0 0, .int .i64 n, .bad, .bad, .bad, .bad, .int .i64 n, .pt 1 0 9, .sl 17 a0, .int .i64 (A.rlen a0), .bool (A.cmp .lss n (A.rlen a0)), .bad, .bad, dQ0, dQ1, .pt 1 0 9, .sl 17 a0, .int .i64 n, .rd [.int .i64 c4, .str d2, .str c9, .bool c5, .int .i64 a5, .str a7, .sl 1 c2, .sl 1 b9, .int .i64 a4, .str a9, .sl 3 b6, .sl 1 b8, .int .i64 a6, .str b1, .str b3, .int .i64 a8, .sl 1 c1], .agg [.int .i64 c4, .str d2, .str c9, .bool c5, .int .i64 a5, .str a7, .sl 1 c2, .sl 1 b9, .int .i64 a4, .str a9, .sl 3 b6, .sl 1 b8, .int .i64 a6, .str b1, .str b3, .int .i64 a8, .sl 1 c1], .agg [.int .i64 c4, .str d2, .str c9, .bool c5, .int .i64 a5, .str a7, .own 6023, .own 7023, .int .i64 a4, .str a9, .own 10023, .own 11023, .int .i64 a6, .str b1, .str b3, .int .i64 a8, .own 16023], .own 24, .bad, .bad, .bad], bl := [(1, ⟨.var, 10, [[.sl 1 b4, .sl 2 b7, .int .i64 b2, .sl 4 c7, .int .i64 a3, .int .i64 a2, .int .i64 b0, .int .i64 a1, .sl 1 d1, .sl 17 a0]]⟩), (2, ⟨.var, 10, [[.zc, .zc, .int .i64 0, .zc, .int .i64 0, .int .i64 0, .int .i64 0, .int .i64 0, .zc, .zc]]⟩), (3, ⟨.var, 10, [[.own 7, .own 1007, .int .i64 b2, .own 3007, .int .i64 a3, .int .i64 a2, .int .i64 b0, .int .i64 a1, .own 8007, .own 7003]]⟩), (7, ⟨.arr, 1, b5⟩), (24, ⟨.lit, 17, [[.int .i64 c4, .str d2, .str c9, .bool c5, .int .i64 a5, .str a7, .own 6023, .own 7023, .int .i64 a4, .str a9, .own 10023, .own 11023, .int .i64 a6, .str b1, .str b3, .int .i64 a8, .own 16023]]⟩), (1007, ⟨.arr, 2, c0⟩), (3007, ⟨.arr, 4, d0⟩), (6023, ⟨.arr, 1, e0⟩), (7003, ⟨.arr, 17, R⟩), (7023, ⟨.arr, 1, d6⟩), (8007, ⟨.arr, 1, d3⟩), (10023, ⟨.arr, 3, d4⟩), (11023, ⟨.arr, 1, d8⟩), (16023, ⟨.arr, 1, d9⟩)] } : St) := by
    intro dn
    induction dn with
    | zero =>
     intro dB0 dB1 dQ0 dQ1 dh0 dh1 f0 dhn
     exact absurd (show false = true from cntF_zero  _ dhn 9 (by show 9 < 12; decide)) (by decide)
    | succ dn ih =>
     intro dB0 dB1 dQ0 dQ1 dh0 dh1 f0 dhn
     subst dhR
     refine dwp_next (is := [0, 1, 2, 3, 4, 5, 6, 7, 8, 9, 10, 11]) rfl ?_
     refine allRdy_q rfl rfl (fun h0 h1 => ?_) ?_
     ·
      cases (show dB0 = false from h0)
      refine ra hA 1 (by cbv) ?_
      exact ops_done (dwp_to [] (by cbv) rfl (ih true dB1 (.pt 3 0 9) (dQ1) (fun _ => rfl) dh1 (fun _ => rfl) (cnt_dec h0 (by show 0 < 12; decide) dhn)))
     refine allRdy_q rfl rfl (fun h0 h1 => ?_) ?_
     ·
      cases (show dB1 = false from h0)
      obtain rfl : dB0 = true := h1.1
      obtain rfl := dh0 rfl
      refine ra hA 1 (by cbv) ?_
      exact ops_done (dwp_to [] (by cbv) rfl (ih true true (.pt 3 0 9) (.own 7003) (fun _ => rfl) (fun _ => rfl) (fun _ => rfl) (cnt_dec h0 (by show 1 < 12; decide) dhn)))
     refine allRdy_none rfl ?_
     refine allRdy_none rfl ?_
     refine allRdy_none rfl ?_
     refine allRdy_none rfl ?_
     refine allRdy_none rfl ?_
     refine allRdy_none rfl ?_
     refine allRdy_none rfl ?_
     refine allRdy_q rfl rfl (fun h0 h1 => ?_) ?_
     ·
      obtain rfl : dB1 = true := h1.1
      obtain rfl := dh1 rfl
      obtain rfl : dB0 = true := f0 rfl
      obtain rfl := dh0 rfl
      refine ops_step rfl rfl (app_own rfl rfl rfl rfl rfl rfl rfl rfl hr7 (by cbv) (by cbv) (by cbv) rfl (by
       show (List.length R + List.length ([[.int .i64 c4, .str d2, .str c9, .bool c5, .int .i64 a5, .str a7, .ow 1 e0, .ow 1 d6, .int .i64 a4, .str a9, .ow 3 d4, .ow 1 d8, .int .i64 a6, .str b1, .str b3, .int .i64 a8, .ow 1 d9]])) * _ ≤ _
       show (List.length R + 1) * 264 ≤ _
       rw [hR, List.length_map, List.length_take]
       omega) (by decide) (by decide)) ?_
      exact ops_done (dwp_to [] (by cbv) rfl (l3 dn false (.bad) (fun h => absurd h (by decide)) (cnt_dec h0 (by show 9 < 12; decide) dhn)))
     refine allRdy_q rfl rfl (fun _ h1 => absurd (show false = true from h1.2.2.2.2.2.2.2.2.2.1) (by decide)) ?_
     refine allRdy_q rfl rfl (fun _ h1 => absurd (show false = true from h1.1) (by decide)) ?_
     exact trivial
   have H_7 : ∀ (dn : Nat) (dB0 : Bool) (dB1 : Bool) (dQ0 : PV) (dQ1 : PV), (dB0 = true → dQ0 = .pt 3 0 9) → (dB1 = true → dQ1 = .own 7003) → (dB1 = true → dB0 = true) → cntF [dB0, dB1, true, true, true, true, true, true, false, false, false, false] = dn → dwp T ⟨Real Tryz.prog, RealM Tryz.prog, RealC Tryz.prog⟩ dR dK dn [dB0, dB1, true, true, true, true, true, true, false, false, false, false] ({ sl := [.bad, .pt 1 0 0, .pt 2 0 0, .pt 3 0 0, .int .i64 n, .bad, .bad, .bad, .bad, .int .i64 n, .pt 1 0 9, .sl 17 a0, .int .i64 (A.rlen a0), .bool (A.cmp .lss n (A.rlen a0)), .bad, .bad, dQ0, dQ1, .pt 1 0 9, .sl 17 a0, .int .i64 n, .rd [.int .i64 c4, .str d2, .str c9, .bool c5, .int .i64 a5, .str a7, .sl 1 c2, .sl 1 b9, .int .i64 a4, .str a9, .sl 3 b6, .sl 1 b8, .int .i64 a6, .str b1, .str b3, .int .i64 a8, .sl 1 c1], .agg [.int .i64 c4, .str d2, .str c9, .bool c5, .int .i64 a5, .str a7, .sl 1 c2, .sl 1 b9, .int .i64 a4, .str a9, .sl 3 b6, .sl 1 b8, .int .i64 a6, .str b1, .str b3, .int .i64 a8, .sl 1 c1], .agg [.int .i64 c4, .str d2, .str c9, .bool c5, .int .i64 a5, .str a7, .own 6023, .own 7023, .int .i64 a4, .str a9, .own 10023, .own 11023, .int .i64 a6, .str b1, .str b3, .int .i64 a8, .own 16023], .bad, .bad, .bad, .bad], bl := [(1, ⟨.var, 10, [[.sl 1 b4, .sl 2 b7, .int .i64 b2, .sl 4 c7, .int .i64 a3, .int .i64 a2, .int .i64 b0, .int .i64 a1, .sl 1 d1, .sl 17 a0]]⟩), (2, ⟨.var, 10, [[.zc, .zc, .int .i64 0, .zc, .int .i64 0, .int .i64 0, .int .i64 0, .int .i64 0, .zc, .zc]]⟩), (3, ⟨.var, 10, [[.own 7, .own 1007, .int .i64 b2, .own 3007, .int .i64 a3, .int .i64 a2, .int .i64 b0, .int .i64 a1, .own 8007, .own 7003]]⟩), (7, ⟨.arr, 1, b5⟩), (1007, ⟨.arr, 2, c0⟩), (3007, ⟨.arr, 4, d0⟩), (6023, ⟨.arr, 1, e0⟩), (7003, ⟨.arr, 17, R⟩), (7023, ⟨.arr, 1, d6⟩), (8007, ⟨.arr, 1, d3⟩), (10023, ⟨.arr, 3, d4⟩), (11023, ⟨.arr, 1, d8⟩), (16023, ⟨.arr, 1, d9⟩)] } : St) := by
    intro dn
    induction dn with
    | zero =>
     intro dB0 dB1 dQ0 dQ1 dh0 dh1 f0 dhn
     exact absurd (show false = true from cntF_zero  _ dhn 8 (by show 8 < 12; decide)) (by decide)
    | succ dn ih =>
     intro dB0 dB1 dQ0 dQ1 dh0 dh1 f0 dhn
     subst dhR
     refine dwp_next (is := [0, 1, 2, 3, 4, 5, 6, 7, 8, 9, 10, 11]) rfl ?_
     refine allRdy_q rfl rfl (fun h0 h1 => ?_) ?_
     ·
      cases (show dB0 = false from h0)
      refine ra hA 1 (by cbv) ?_
      exact ops_done (dwp_to [] (by cbv) rfl (ih true dB1 (.pt 3 0 9) (dQ1) (fun _ => rfl) dh1 (fun _ => rfl) (cnt_dec h0 (by show 0 < 12; decide) dhn)))
     refine allRdy_q rfl rfl (fun h0 h1 => ?_) ?_
     ·
      cases (show dB1 = false from h0)
      obtain rfl : dB0 = true := h1.1
      obtain rfl := dh0 rfl
      refine ra hA 1 (by cbv) ?_
      exact ops_done (dwp_to [] (by cbv) rfl (ih true true (.pt 3 0 9) (.own 7003) (fun _ => rfl) (fun _ => rfl) (fun _ => rfl) (cnt_dec h0 (by show 1 < 12; decide) dhn)))
     refine allRdy_none rfl ?_
     refine allRdy_none rfl ?_
     refine allRdy_none rfl ?_
     refine allRdy_none rfl ?_
     refine allRdy_none rfl ?_
     refine allRdy_none rfl ?_
     refine allRdy_q rfl rfl (fun h0 h1 => ?_) ?_
     ·
      refine ra hA 1 (by cbv) ?_
      exact ops_done (dwp_to [.up 16023, .up 11023, .up 10023, .up 8007, .up 7023, .up 7003, .up 6023, .up 3007, .up 1007, .up 24, .up 7, .up 3, .up 2, .up 1] (by cbv) rfl (l9 dn dB0 dB1 (dQ0) (dQ1) dh0 dh1 f0 (cnt_dec h0 (by show 8 < 12; decide) dhn)))
     refine allRdy_q rfl rfl (fun _ h1 => absurd (show false = true from h1.2.1) (by decide)) ?_
     refine allRdy_q rfl rfl (fun _ h1 => absurd (show false = true from h1.2.2.2.2.2.2.2.2.1) (by decide)) ?_
     refine allRdy_q rfl rfl (fun _ h1 => absurd (show false = true from h1.1) (by decide)) ?_
     exact trivial
   have H_ : ∀ (dn : Nat) (dB0 : Bool) (dB1 : Bool) (dB2 : Bool) (dB3 : Bool) (dB4 : Bool) (dB5 : Bool) (dB6 : Bool) (dQ0 : PV) (dQ1 : PV) (dQ2 : PV) (dQ3 : PV) (dQ4 : PV) (dQ5 : PV) (dQ6 : PV), (dB0 = true → dQ0 = .pt 3 0 9) → (dB1 = true → dQ1 = .own 7003) → (dB2 = true → dQ2 = .pt 1 0 9) → (dB3 = true → dQ3 = .sl 17 a0) → (dB4 = true → dQ4 = .int .i64 n) → (dB5 = true → dQ5 = .rd [.int .i64 c4, .str d2, .str c9, .bool c5, .int .i64 a5, .str a7, .sl 1 c2, .sl 1 b9, .int .i64 a4, .str a9, .sl 3 b6, .sl 1 b8, .int .i64 a6, .str b1, .str b3, .int .i64 a8, .sl 1 c1]) → (dB6 = true → dQ6 = .agg [.int .i64 c4, .str d2, .str c9, .bool c5, .int .i64 a5, .str a7, .sl 1 c2, .sl 1 b9, .int .i64 a4, .str a9, .sl 3 b6, .sl 1 b8, .int .i64 a6, .str b1, .str b3, .int .i64 a8, .sl 1 c1]) → (dB1 = true → dB0 = true) → (dB3 = true → dB2 = true) → (dB5 = true → dB3 = true) → (dB5 = true → dB4 = true) → (dB6 = true → dB5 = true) → cntF [dB0, dB1, dB2, dB3, dB4, dB5, dB6, false, false, false, false, false] = dn → dwp T ⟨Real Tryz.prog, RealM Tryz.prog, RealC Tryz.prog⟩ dR dK dn [dB0, dB1, dB2, dB3, dB4, dB5, dB6, false, false, false, false, false] ({ sl := [.bad, .pt 1 0 0, .pt 2 0 0, .pt 3 0 0, .int .i64 n, .bad, .bad, .bad, .bad, .int .i64 n, .pt 1 0 9, .sl 17 a0, .int .i64 (A.rlen a0), .bool (A.cmp .lss n (A.rlen a0)), .bad, .bad, dQ0, dQ1, dQ2, dQ3, dQ4, dQ5, dQ6, .bad, .bad, .bad, .bad, .bad], bl := [(1, ⟨.var, 10, [[.sl 1 b4, .sl 2 b7, .int .i64 b2, .sl 4 c7, .int .i64 a3, .int .i64 a2, .int .i64 b0, .int .i64 a1, .sl 1 d1, .sl 17 a0]]⟩), (2, ⟨.var, 10, [[.zc, .zc, .int .i64 0, .zc, .int .i64 0, .int .i64 0, .int .i64 0, .int .i64 0, .zc, .zc]]⟩), (3, ⟨.var, 10, [[.own 7, .own 1007, .int .i64 b2, .own 3007, .int .i64 a3, .int .i64 a2, .int .i64 b0, .int .i64 a1, .own 8007, .own 7003]]⟩), (7, ⟨.arr, 1, b5⟩), (1007, ⟨.arr, 2, c0⟩), (3007, ⟨.arr, 4, d0⟩), (7003, ⟨.arr, 17, R⟩), (8007, ⟨.arr, 1, d3⟩)] } : St) := by
    intro dn
    induction dn with
    | zero =>
     intro dB0 dB1 dB2 dB3 dB4 dB5 dB6 dQ0 dQ1 dQ2 dQ3 dQ4 dQ5 dQ6 dh0 dh1 dh2 dh3 dh4 dh5 dh6 f0 g9 i1 i2 i0 dhn
     exact absurd (show false = true from cntF_zero  _ dhn 7 (by show 7 < 12; decide)) (by decide)
    | succ dn ih =>
     intro dB0 dB1 dB2 dB3 dB4 dB5 dB6 dQ0 dQ1 dQ2 dQ3 dQ4 dQ5 dQ6 dh0 dh1 dh2 dh3 dh4 dh5 dh6 f0 g9 i1 i2 i0 dhn
     subst dhR
     refine dwp_next (is := [0, 1, 2, 3, 4, 5, 6, 7, 8, 9, 10, 11]) rfl ?_
     refine allRdy_q rfl rfl (fun h0 h1 => ?_) ?_
     ·
      cases (show dB0 = false from h0)
      refine ra hA 1 (by cbv) ?_
      exact ops_done (dwp_to [] (by cbv) rfl (ih true dB1 dB2 dB3 dB4 dB5 dB6 (.pt 3 0 9) (dQ1) (dQ2) (dQ3) (dQ4) (dQ5) (dQ6) (fun _ => rfl) dh1 dh2 dh3 dh4 dh5 dh6 (fun _ => rfl) g9 i1 i2 i0 (cnt_dec h0 (by show 0 < 12; decide) dhn)))
     refine allRdy_q rfl rfl (fun h0 h1 => ?_) ?_
     ·
      cases (show dB1 = false from h0)
      obtain rfl : dB0 = true := h1.1
      obtain rfl := dh0 rfl
      refine ra hA 1 (by cbv) ?_
      exact ops_done (dwp_to [] (by cbv) rfl (ih true true dB2 dB3 dB4 dB5 dB6 (.pt 3 0 9) (.own 7003) (dQ2) (dQ3) (dQ4) (dQ5) (dQ6) (fun _ => rfl) (fun _ => rfl) dh2 dh3 dh4 dh5 dh6 (fun _ => rfl) g9 i1 i2 i0 (cnt_dec h0 (by show 1 < 12; decide) dhn)))
     refine allRdy_q rfl rfl (fun h0 h1 => ?_) ?_
     ·
      cases (show dB2 = false from h0)
      refine ra hA 1 (by cbv) ?_
      exact ops_done (dwp_to [] (by cbv) rfl (ih dB0 dB1 true dB3 dB4 dB5 dB6 (dQ0) (dQ1) (.pt 1 0 9) (dQ3) (dQ4) (dQ5) (dQ6) dh0 dh1 (fun _ => rfl) dh3 dh4 dh5 dh6 f0 (fun _ => rfl) i1 i2 i0 (cnt_dec h0 (by show 2 < 12; decide) dhn)))
     refine allRdy_q rfl rfl (fun h0 h1 => ?_) ?_
     ·
      cases (show dB3 = false from h0)
      obtain rfl : dB2 = true := h1.1
      obtain rfl := dh2 rfl
      refine ra hA 1 (by cbv) ?_
      exact ops_done (dwp_to [] (by cbv) rfl (ih dB0 dB1 true true dB4 dB5 dB6 (dQ0) (dQ1) (.pt 1 0 9) (.sl 17 a0) (dQ4) (dQ5) (dQ6) dh0 dh1 (fun _ => rfl) (fun _ => rfl) dh4 dh5 dh6 f0 (fun _ => rfl) (fun _ => rfl) i2 i0 (cnt_dec h0 (by show 3 < 12; decide) dhn)))
     refine allRdy_q rfl rfl (fun h0 h1 => ?_) ?_
     ·
      cases (show dB4 = false from h0)
      refine ra hA 1 (by cbv) ?_
      exact ops_done (dwp_to [] (by cbv) rfl (ih dB0 dB1 dB2 dB3 true dB5 dB6 (dQ0) (dQ1) (dQ2) (dQ3) (.int .i64 n) (dQ5) (dQ6) dh0 dh1 dh2 dh3 (fun _ => rfl) dh5 dh6 f0 g9 i1 (fun _ => rfl) i0 (cnt_dec h0 (by show 4 < 12; decide) dhn)))
     refine allRdy_q rfl rfl (fun h0 h1 => ?_) ?_
     ·
      cases (show dB5 = false from h0)
      obtain rfl : dB3 = true := h1.1
      obtain rfl := dh3 rfl
      obtain rfl : dB2 = true := g9 rfl
      obtain rfl := dh2 rfl
      obtain rfl : dB4 = true := h1.2.1
      obtain rfl := dh4 rfl
      refine ops_step rfl rfl (idx_sl rfl rfl rfl rfl rfl m0 rfl m3) ?_
      exact ops_done (dwp_to [] (by cbv) rfl (ih dB0 dB1 true true true true dB6 (dQ0) (dQ1) (.pt 1 0 9) (.sl 17 a0) (.int .i64 n) (.rd [.int .i64 c4, .str d2, .str c9, .bool c5, .int .i64 a5, .str a7, .sl 1 c2, .sl 1 b9, .int .i64 a4, .str a9, .sl 3 b6, .sl 1 b8, .int .i64 a6, .str b1, .str b3, .int .i64 a8, .sl 1 c1]) (dQ6) dh0 dh1 (fun _ => rfl) (fun _ => rfl) (fun _ => rfl) (fun _ => rfl) dh6 f0 (fun _ => rfl) (fun _ => rfl) (fun _ => rfl) (fun _ => rfl) (cnt_dec h0 (by show 5 < 12; decide) dhn)))
     refine allRdy_q rfl rfl (fun h0 h1 => ?_) ?_
     ·
      cases (show dB6 = false from h0)
      obtain rfl : dB5 = true := h1.1
      obtain rfl := dh5 rfl
      obtain rfl : dB3 = true := i1 rfl
      obtain rfl := dh3 rfl
      obtain rfl : dB2 = true := g9 rfl
      obtain rfl := dh2 rfl
      obtain rfl : dB4 = true := i2 rfl
      obtain rfl := dh4 rfl
      refine ra hA 1 (by cbv) ?_
      exact ops_done (dwp_to [] (by cbv) rfl (ih dB0 dB1 true true true true true (dQ0) (dQ1) (.pt 1 0 9) (.sl 17 a0) (.int .i64 n) (.rd [.int .i64 c4, .str d2, .str c9, .bool c5, .int .i64 a5, .str a7, .sl 1 c2, .sl 1 b9, .int .i64 a4, .str a9, .sl 3 b6, .sl 1 b8, .int .i64 a6, .str b1, .str b3, .int .i64 a8, .sl 1 c1]) (.agg [.int .i64 c4, .str d2, .str c9, .bool c5, .int .i64 a5, .str a7, .sl 1 c2, .sl 1 b9, .int .i64 a4, .str a9, .sl 3 b6, .sl 1 b8, .int .i64 a6, .str b1, .str b3, .int .i64 a8, .sl 1 c1]) dh0 dh1 (fun _ => rfl) (fun _ => rfl) (fun _ => rfl) (fun _ => rfl) (fun _ => rfl) f0 (fun _ => rfl) (fun _ => rfl) (fun _ => rfl) (fun _ => rfl) (cnt_dec h0 (by show 6 < 12; decide) dhn)))
     refine allRdy_q rfl rfl (fun h0 h1 => ?_) ?_
     ·
      obtain rfl : dB6 = true := h1.1
      obtain rfl := dh6 rfl
      obtain rfl : dB5 = true := i0 rfl
      obtain rfl := dh5 rfl
      obtain rfl : dB3 = true := i1 rfl
      obtain rfl := dh3 rfl
      obtain rfl : dB2 = true := g9 rfl
      obtain rfl := dh2 rfl
      obtain rfl : dB4 = true := i2 rfl
      obtain rfl := dh4 rfl
      refine ops_callV rfl rfl (by cbv) (by cbv) hc6 (.inr rfl) (by cbv) ?_
      exact ops_done (dwp_to [.up 16023, .up 11023, .up 10023, .up 8007, .up 7023, .up 7003, .up 6023, .up 3007, .up 1007, .up 7, .up 3, .up 2, .up 1] (by cbv) rfl (H_7 dn dB0 dB1 (dQ0) (dQ1) dh0 dh1 f0 (cnt_dec h0 (by show 7 < 12; decide) dhn)))
     refine allRdy_q rfl rfl (fun _ h1 => absurd (show false = true from h1.1) (by decide)) ?_
     refine allRdy_q rfl rfl (fun _ h1 => absurd (show false = true from h1.2.1) (by decide)) ?_
     refine allRdy_q rfl rfl (fun _ h1 => absurd (show false = true from h1.2.2.2.2.2.2.2.1) (by decide)) ?_
     refine allRdy_q rfl rfl (fun _ h1 => absurd (show false = true from h1.1) (by decide)) ?_
     exact trivial
   exact dwp_to [] (by cbv) rfl (H_ 12 false false false false false false false (.bad) (.bad) (.bad) (.bad) (.bad) (.bad) (.bad) (fun h => absurd h (by decide)) (fun h => absurd h (by decide)) (fun h => absurd h (by decide)) (fun h => absurd h (by decide)) (fun h => absurd h (by decide)) (fun h => absurd h (by decide)) (fun h => absurd h (by decide)) (fun h => absurd h (by decide)) (fun h => absurd h (by decide)) (fun h => absurd h (by decide)) (fun h => absurd h (by decide)) (fun h => absurd h (by decide)) rfl)
  refine gr (ra hA 3 (by cbv) (od ?_))
  refine ⟨(S27_1 (A.num .add .i64 n 1) b4 b7 b2 c7 a3 a2 b0 a1 d1 a0 0 b5 c0 d0 r7 d3), List.length d5 - (i + 1), ?_, by cbv, i + 1, r7, (A.num .add .i64 n 1), rfl, ?_, rfl⟩
  ·
   omega
  ·
   refine ⟨by rw [add_i64 hA (by omega) (by omega)]; omega, by omega, ?_⟩
   rw [List.take_add_one, j7]
   exact er7
 ·
  have ec3 : (A.rlen a0) ≤ n := lss_f hA c3
  refine go_exit ⟨fun _ => ?_, fun h => absurd rfl h⟩
  refine gs (gr (ra hA 2 (by cbv) (od ?_)))
  refine go_ret ⟨_, by cbv, ?_⟩
  show _ = (PV.agg [.ow 1 b5, .ow 2 c0, .int .i64 b2, .ow 4 d0, .int .i64 a3, .int .i64 a2, .int .i64 b0, .int .i64 a1, .ow 1 d3, .ow 17 R])
  simp only [f2, f7, g8, i5, hR, List.take_of_length_le (show List.length d5 ≤ i by omega), List.nil_append]
  rfl
end Go.Av
