/- Walks: copies of logs and stores. -/
import Derived.Test.YtjbokkoiicoahaaGreatC1
namespace Go.Av
open Go Go.Proofs
set_option maxRecDepth 100000
set_option maxHeartbeats 4000000
set_option linter.unusedVariables false
set_option linter.unusedSimpArgs false
def S64_1 (p0 : RR) (p1 : Int) (p2 : Int) (p3 : RR) (p4 : RR) (p5 : RR) (p6 : Int) (p7 : Int) (p8 : Int) (p9 : Int) (p10 : Int) (p11 : Int) : St := { sl := [.bad, .bad, .pt 2 0 0, .pt 3 0 0, .bad, .bad, .bad, .bad, .bad, .bad, .bad, .bad, .bad, .sl 4 p0, .int .i64 p1, .int .i64 p2, .bad, .bad, .bad, .bad, .bad, .bad, .bad, .bad, .bad, .bad, .bad, .bad, .bad, .bad, .bad], bl := [(7003, ⟨.arr, 4, p3⟩), (9, ⟨.arr, 1, p4⟩), (1009, ⟨.arr, 2, p5⟩), (3, ⟨.var, 8, [[.own 9, .own 1009, .int .i64 p6, .own 7003, .int .i64 p7, .int .i64 p8, .int .i64 p9, .int .i64 p10]]⟩), (2, ⟨.var, 8, [[.zc, .zc, .int .i64 p11, .zc, .int .i64 p11, .int .i64 p11, .int .i64 p11, .int .i64 p11]]⟩)] }
theorem r_impl_cloneLog (A : Alg) (hA : A = std) (x : GLog) (hz : ∀ q ∈ zsLog x, q ≤ 1048576) : Real Tryz.prog 64 [.agg (eLog x)] (.agg (eoLog x)) := by
 obtain ⟨⟨b3, b6⟩, e4, b9, d1, d0, d7, c6⟩ := x
 obtain ⟨c2, c5⟩ := nm (b3.map eString)
 have g6 := rlen_map hA c5
 obtain ⟨c7, c8⟩ := nm (b6.map eWrite)
 have i2 := rlen_map hA c8
 obtain ⟨c1, e6⟩ := nm (b9.map eSeg)
 have j1 := rlen_map hA e6
 refine real_args (args' := [.agg [.sl 1 c2, .sl 2 c7, .int .i64 e4, .sl 4 c1, .int .i64 d1, .int .i64 d0, .int .i64 d7, .int .i64 c6]]) (by subst c5 c8 e6; rfl) ?_
 have f8 : ∀ q ∈ zsDisk (⟨b3, b6⟩ : GDisk), q ≤ 1048576 := fun q hq => hz q (by simp only [zsLog, List.mem_append]; simp only [hq, true_or, or_true])
 have f1 : ∀ q ∈ zsStringS b3, q ≤ 1048576 := fun q hq => f8 q (by simp only [zsDisk, List.mem_append]; simp only [hq, true_or, or_true])
 have i0 : List.length b3 ≤ 1048576 := f1 _ (by simp [zsStringS])
 have f4 : ∀ q ∈ zsWriteS b6, q ≤ 1048576 := fun q hq => f8 q (by simp only [zsDisk, List.mem_append]; simp only [hq, true_or, or_true])
 have i4 : List.length b6 ≤ 1048576 := f4 _ (by simp [zsWriteS])
 have f7 : ∀ q ∈ zsSegS b9, q ≤ 1048576 := fun q hq => hz q (by simp only [zsLog, List.mem_append]; simp only [hq, true_or, or_true])
 have k3 : List.length b9 ≤ 1048576 := f7 _ (by simp [zsSegS])
 refine real tyOk Tryz.func64 (by kernel_rfl) (afun_of rfl ?_)
 refine gs (gr (ra hA 2 (by cbv) (od ?_)))
 refine gs (gr (ra hA 3 (by cbv) (od ?_)))
 refine gs (gr (ra hA 2 (by cbv) ?_))
 obtain ⟨b4, b8, e0, f0, hc2⟩ : ∃ (b4 : RR) (b8 : RR), b4 = List.map eString b3 ∧ b8 = List.map eoWrite b6 ∧ Real Tryz.prog 110 [.agg [.sl 1 c2, .sl 2 c7]] (.agg [.ow 1 b4, .ow 2 b8]) := ⟨_, _, rfl, rfl, by subst c5 c8; exact r_impl_cloneDisk A hA (⟨b3, b6⟩ : GDisk) (by assumption)⟩
 have i5 := rlen_map hA e0
 have i6 := rlen_map hA f0
 refine ops_callV rfl rfl (by cbv) (by cbv) hc2 (.inr rfl) (by cbv) ?_
 refine ra hA 2 (by cbv) (od ?_)
 refine gs (gr (ra hA 2 (by cbv) (od ?_)))
 refine gs (gs (gr (ra hA 4 (by cbv) (od ?_))))
 refine go_block ?_
 refine go_loopE (fun σ m => ∃ (i : Nat) (R : RR) (n : Int), σ = (S64_1 c1 (A.rlen c1) n R b4 b8 e4 d1 d0 d7 c6 0) ∧ (n = (i : Int) ∧ i ≤ List.length b9 ∧ R = List.map eoSeg (b9.take i)) ∧ m = List.length b9 - i) _ [.cell 3 3 7003 4] [2, 3, 13, 14, 15] [7003, 9, 1009, 3, 2] (S64_1 c1 (A.rlen c1) 0 ([]) b4 b8 e4 d1 d0 d7 c6 0) rfl (by cbv) ⟨0, [], 0, rfl, ?_, rfl⟩ (fun σ m hI => ?_)
 ·
  exact ⟨rfl, Nat.zero_le _, rfl⟩
 obtain ⟨i, R, n, rfl, ⟨hn, hi, hR⟩, rfl⟩ := hI
 refine gs (gr (ra hA 1 (by cbv) (od ?_)))
 refine gs ?_
 refine go_cond rfl (fun c3 => ?_) (fun c3 => ?_)
 ·
  have ec3 : n < (A.rlen c1) := lss_t hA c3
  refine gk (gs ?_)
  refine go_block ?_
  refine gs (gr ?_)
  have j5 : (0 : Int) ≤ n := by
   omega
  have j7 : (Int.toNat n) < List.length b9 := by
   omega
  obtain ⟨x4, hx4⟩ : ∃ x, (b9)[(Int.toNat n)]? = some x := ⟨_, List.getElem?_eq_getElem j7⟩
  have j6 := List.mem_of_getElem? hx4
  obtain ⟨f2, e3, e5, d3⟩ := x4
  obtain ⟨e7, d5⟩ := nm (d3.map eItem)
  have i8 := rlen_map hA d5
  have j8 : c1[(Int.toNat n)]? = some [.int .i64 f2, .int .i64 e3, .int .i64 e5, .sl 9 e7] := by
   subst d5; exact map_at eSeg e6 hx4
  have g0 := hx4
  rw [hn] at g0
  have g0 : (b9)[i]? = some (⟨f2, e3, e5, d3⟩ : GSeg) := g0
  have nI : List.length d3 ≤ 1048576 := f7 _ (List.mem_cons_of_mem _ (List.mem_flatMap.2 ⟨_, j6, by simp [zsSeg, zsItemS]⟩))
  refine ops_step rfl rfl (idx_sl rfl rfl rfl rfl rfl j5 rfl j8) ?_
  refine ra hA 3 (by cbv) (od ?_)
  refine gs (gr (ra hA 2 (by cbv) ?_))
  obtain ⟨i1, j2, hc6⟩ : ∃ (i1 : RR), i1 = List.map eoItem d3 ∧ Real Tryz.prog 111 [.sl 9 e7] (.ow 9 i1) := ⟨_, rfl, by subst d5; exact r_Clone_Item A hA d3 (by omega)⟩
  have k5 := rlen_map hA j2
  refine ops_callV rfl rfl (by cbv) (by cbv) hc6 (.inr rfl) (by cbv) ?_
  refine ra hA 2 (by cbv) (od ?_)
  refine gr (ra hA 4 (by cbv) ?_)
  obtain ⟨r7, hr7⟩ := nm (R ++ [[.int .i64 f2, .int .i64 e3, .int .i64 e5, .ow 9 i1]] : RR)
  have er7 : r7 = List.map eoSeg ((b9.take i) ++ ([(⟨f2, e3, e5, d3⟩ : GSeg)])) := by rw [hr7]; exact app_eq hR (by simp only [j2]; rfl)
  have lr7 := rlen_map hA er7
  refine ops_step rfl rfl (app_own rfl rfl rfl rfl rfl rfl rfl rfl hr7 (by cbv) (by cbv) (by cbv) rfl (by
   show (List.length R + List.length ([[.int .i64 f2, .int .i64 e3, .int .i64 e5, .ow 9 i1]])) * _ ≤ _
   show (List.length R + 1) * 48 ≤ _
   rw [hR, List.length_map, List.length_take]
   omega) (by decide) (by decide)) ?_
  refine ra hA 2 (by cbv) (od ?_)
  refine gr (ra hA 2 (by cbv) (od ?_))
  refine ⟨(S64_1 c1 (A.rlen c1) (A.num .add .i64 n 1) r7 b4 b8 e4 d1 d0 d7 c6 0), List.length b9 - (i + 1), ?_, by cbv, i + 1, r7, (A.num .add .i64 n 1), rfl, ?_, rfl⟩
  ·
   omega
  ·
   refine ⟨by rw [add_i64 hA (by omega) (by omega)]; omega, by omega, ?_⟩
   rw [List.take_add_one, g0]
   exact er7
 ·
  have ec3 : (A.rlen c1) ≤ n := lss_f hA c3
  refine go_exit ⟨fun _ => ?_, fun h => absurd rfl h⟩
  refine gs (gr (ra hA 2 (by cbv) (od ?_)))
  refine go_ret ⟨_, by cbv, ?_⟩
  show _ = (PV.agg [.ow 1 b4, .ow 2 b8, .int .i64 e4, .ow 4 R, .int .i64 d1, .int .i64 d0, .int .i64 d7, .int .i64 c6])
  simp only [e0, f0, hR, List.take_of_length_le (show List.length b9 ≤ i by omega), List.nil_append]
  rfl
def S104_1 (p0 : Int) (p1 : RR) (p2 : RR) (p3 : RR) (p4 : Int) (p5 : Int) (p6 : Int) (p7 : Int) (p8 : Int) (p9 : Int) (p10 : RR) (p11 : RR) (p12 : RR) : St := { sl := [.bad, .pt 1 0 0, .pt 2 0 0, .pt 3 0 0, .int .i64 p0, .bad, .bad, .bad, .bad, .bad, .bad, .bad, .bad, .bad, .bad, .bad, .bad, .bad, .bad, .bad, .bad, .bad, .bad, .bad, .bad, .bad, .bad, .bad, .bad, .bad, .bad, .bad, .bad, .bad, .bad, .bad, .bad], bl := [(11, ⟨.arr, 4, p1⟩), (9, ⟨.arr, 1, p2⟩), (1009, ⟨.arr, 2, p3⟩), (3, ⟨.var, 8, [[.own 9, .own 1009, .int .i64 p4, .own 11, .int .i64 p5, .int .i64 p6, .int .i64 p7, .int .i64 p8]]⟩), (2, ⟨.var, 8, [[.zc, .zc, .int .i64 p9, .zc, .int .i64 p9, .int .i64 p9, .int .i64 p9, .int .i64 p9]]⟩), (1, ⟨.var, 8, [[.sl 1 p10, .sl 2 p11, .int .i64 p4, .sl 4 p12, .int .i64 p5, .int .i64 p6, .int .i64 p7, .int .i64 p8]]⟩)] }
theorem r_spec_l09Copy (A : Alg) (hA : A = std) (x : GLog) (hz : ∀ q ∈ zsLog x, q ≤ 1048576) : Real Tryz.prog 104 [.agg (eLog x)] (.agg (eoLog x)) := by
 obtain ⟨⟨b3, b6⟩, e4, b9, d1, d0, d7, c6⟩ := x
 obtain ⟨c2, c5⟩ := nm (b3.map eString)
 have g6 := rlen_map hA c5
 obtain ⟨c7, c8⟩ := nm (b6.map eWrite)
 have i2 := rlen_map hA c8
 obtain ⟨c1, e6⟩ := nm (b9.map eSeg)
 have j1 := rlen_map hA e6
 refine real_args (args' := [.agg [.sl 1 c2, .sl 2 c7, .int .i64 e4, .sl 4 c1, .int .i64 d1, .int .i64 d0, .int .i64 d7, .int .i64 c6]]) (by subst c5 c8 e6; rfl) ?_
 have f8 : ∀ q ∈ zsDisk (⟨b3, b6⟩ : GDisk), q ≤ 1048576 := fun q hq => hz q (by simp only [zsLog, List.mem_append]; simp only [hq, true_or, or_true])
 have f1 : ∀ q ∈ zsStringS b3, q ≤ 1048576 := fun q hq => f8 q (by simp only [zsDisk, List.mem_append]; simp only [hq, true_or, or_true])
 have i0 : List.length b3 ≤ 1048576 := f1 _ (by simp [zsStringS])
 have f4 : ∀ q ∈ zsWriteS b6, q ≤ 1048576 := fun q hq => f8 q (by simp only [zsDisk, List.mem_append]; simp only [hq, true_or, or_true])
 have i4 : List.length b6 ≤ 1048576 := f4 _ (by simp [zsWriteS])
 have f7 : ∀ q ∈ zsSegS b9, q ≤ 1048576 := fun q hq => hz q (by simp only [zsLog, List.mem_append]; simp only [hq, true_or, or_true])
 have k3 : List.length b9 ≤ 1048576 := f7 _ (by simp [zsSegS])
 refine real tyOk Tryz.func104 (by kernel_rfl) (afun_of rfl ?_)
 refine gs (gr (ra hA 2 (by cbv) (od ?_)))
 refine gs (gr (ra hA 3 (by cbv) (od ?_)))
 refine gs (gr (ra hA 2 (by cbv) ?_))
 obtain ⟨b4, b8, e0, f0, hc2⟩ : ∃ (b4 : RR) (b8 : RR), b4 = List.map eString b3 ∧ b8 = List.map eoWrite b6 ∧ Real Tryz.prog 144 [.agg [.sl 1 c2, .sl 2 c7]] (.agg [.ow 1 b4, .ow 2 b8]) := ⟨_, _, rfl, rfl, by subst c5 c8; exact r_spec_l03Copy A hA (⟨b3, b6⟩ : GDisk) (by assumption)⟩
 have i5 := rlen_map hA e0
 have i6 := rlen_map hA f0
 refine ops_callV rfl rfl (by cbv) (by cbv) hc2 (.inr rfl) (by cbv) ?_
 refine ra hA 2 (by cbv) (od ?_)
 refine gs (gr (ra hA 3 (by cbv) (od ?_)))
 refine gs (gs (gr (ra hA 1 (by cbv) (od ?_))))
 refine go_block ?_
 refine go_loopE (fun σ m => ∃ (i : Nat) (R : RR) (n : Int), σ = (S104_1 n R b4 b8 e4 d1 d0 d7 c6 0 c2 c7 c1) ∧ (n = (i : Int) ∧ i ≤ List.length b9 ∧ R = List.map eoSeg (b9.take i)) ∧ m = List.length b9 - i) _ [] [1, 2, 3, 4] [11, 9, 1009, 3, 2, 1] (S104_1 0 ([]) b4 b8 e4 d1 d0 d7 c6 0 c2 c7 c1) rfl (by cbv) ⟨0, [], 0, rfl, ?_, rfl⟩ (fun σ m hI => ?_)
 ·
  exact ⟨rfl, Nat.zero_le _, rfl⟩
 obtain ⟨i, R, n, rfl, ⟨hn, hi, hR⟩, rfl⟩ := hI
 refine gs (gs (gr (ra hA 5 (by cbv) (od ?_))))
 refine go_cond rfl (fun c3 => ?_) (fun c3 => ?_)
 ·
  have ec3 : n < (A.rlen c1) := lss_t hA c3
  refine gk (gs ?_)
  refine go_block ?_
  refine gs (gr (ra hA 3 (by cbv) ?_))
  have j5 : (0 : Int) ≤ n := by
   omega
  have j7 : (Int.toNat n) < List.length b9 := by
   omega
  obtain ⟨x4, hx4⟩ : ∃ x, (b9)[(Int.toNat n)]? = some x := ⟨_, List.getElem?_eq_getElem j7⟩
  have j6 := List.mem_of_getElem? hx4
  obtain ⟨f2, e3, e5, d3⟩ := x4
  obtain ⟨e7, d5⟩ := nm (d3.map eItem)
  have i8 := rlen_map hA d5
  have j8 : c1[(Int.toNat n)]? = some [.int .i64 f2, .int .i64 e3, .int .i64 e5, .sl 9 e7] := by
   subst d5; exact map_at eSeg e6 hx4
  have g0 := hx4
  rw [hn] at g0
  have g0 : (b9)[i]? = some (⟨f2, e3, e5, d3⟩ : GSeg) := g0
  have nI : List.length d3 ≤ 1048576 := f7 _ (List.mem_cons_of_mem _ (List.mem_flatMap.2 ⟨_, j6, by simp [zsSeg, zsItemS]⟩))
  refine ops_step rfl rfl (idx_sl rfl rfl rfl rfl rfl j5 rfl j8) ?_
  refine ra hA 3 (by cbv) (od ?_)
  refine gs (gr (ra hA 3 (by cbv) ?_))
  obtain ⟨r5, hr5⟩ := nm (([]) ++ e7 : RR)
  have er5 : r5 = List.map eoItem (([]) ++ d3) := by rw [hr5]; exact app_eq rfl d5
  have lr5 := rlen_map hA er5
  refine ops_step rfl rfl (app_own rfl rfl rfl rfl rfl rfl rfl rfl hr5 (by cbv) (by cbv) (by cbv) rfl (by
   show (List.length ([]) + List.length e7) * _ ≤ _
   simp only [List.length_nil, List.length_map, Nat.zero_add, *]
   omega) (by decide) (by decide)) ?_
  refine ra hA 2 (by cbv) (od ?_)
  refine gr (ra hA 4 (by cbv) ?_)
  obtain ⟨r6, hr6⟩ := nm (R ++ [[.int .i64 f2, .int .i64 e3, .int .i64 e5, .ow 9 r5]] : RR)
  have er6 : r6 = List.map eoSeg ((b9.take i) ++ ([(⟨f2, e3, e5, [] ++ d3⟩ : GSeg)])) := by rw [hr6]; exact app_eq hR (by simp only [er5]; rfl)
  have lr6 := rlen_map hA er6
  refine ops_step rfl rfl (app_own rfl rfl rfl rfl rfl rfl rfl rfl hr6 (by cbv) (by cbv) (by cbv) rfl (by
   show (List.length R + List.length ([[.int .i64 f2, .int .i64 e3, .int .i64 e5, .ow 9 r5]])) * _ ≤ _
   show (List.length R + 1) * 48 ≤ _
   rw [hR, List.length_map, List.length_take]
   omega) (by decide) (by decide)) ?_
  refine ra hA 2 (by cbv) (od ?_)
  refine gr (ra hA 3 (by cbv) (od ?_))
  refine ⟨(S104_1 (A.num .add .i64 n 1) r6 b4 b8 e4 d1 d0 d7 c6 0 c2 c7 c1), List.length b9 - (i + 1), ?_, by cbv, i + 1, r6, (A.num .add .i64 n 1), rfl, ?_, rfl⟩
  ·
   omega
  ·
   refine ⟨by rw [add_i64 hA (by omega) (by omega)]; omega, by omega, ?_⟩
   rw [List.take_add_one, g0]
   exact er6
 ·
  have ec3 : (A.rlen c1) ≤ n := lss_f hA c3
  refine go_exit ⟨fun _ => ?_, fun h => absurd rfl h⟩
  refine gs (gr (ra hA 2 (by cbv) (od ?_)))
  refine go_ret ⟨_, by cbv, ?_⟩
  show _ = (PV.agg [.ow 1 b4, .ow 2 b8, .int .i64 e4, .ow 4 R, .int .i64 d1, .int .i64 d0, .int .i64 d7, .int .i64 c6])
  simp only [e0, f0, hR, List.take_of_length_le (show List.length b9 ≤ i by omega), List.nil_append]
  rfl
theorem r_spec_l12Copy (A : Alg) (hA : A = std) (x : GStore) (hz : ∀ q ∈ zsStore x, q ≤ 1048576) : Real Tryz.prog 58 [.agg (eStore x)] (.agg (eoStore x)) := by
 obtain ⟨⟨⟨b0, b2⟩, a6, c4, a1, a2, a4, a0⟩, e1⟩ := x
 obtain ⟨a3, b7⟩ := nm (b0.map eString)
 have f6 := rlen_map hA b7
 obtain ⟨a5, c0⟩ := nm (b2.map eWrite)
 have g1 := rlen_map hA c0
 obtain ⟨a7, d2⟩ := nm (c4.map eSeg)
 have i3 := rlen_map hA d2
 obtain ⟨a8, d8⟩ := nm (e1.map eInt)
 have j0 := rlen_map hA d8
 refine real_args (args' := [.agg [.sl 1 a3, .sl 2 a5, .int .i64 a6, .sl 4 a7, .int .i64 a1, .int .i64 a2, .int .i64 a4, .int .i64 a0, .sl 1 a8]]) (by subst b7 c0 d2 d8; rfl) ?_
 have g3 : ∀ q ∈ zsLog (⟨⟨b0, b2⟩, a6, c4, a1, a2, a4, a0⟩ : GLog), q ≤ 1048576 := fun q hq => hz q (by simp only [zsStore, List.mem_append]; simp only [hq, true_or, or_true])
 have e9 : ∀ q ∈ zsDisk (⟨b0, b2⟩ : GDisk), q ≤ 1048576 := fun q hq => g3 q (by simp only [zsLog, List.mem_append]; simp only [hq, true_or, or_true])
 have e2 : ∀ q ∈ zsStringS b0, q ≤ 1048576 := fun q hq => e9 q (by simp only [zsDisk, List.mem_append]; simp only [hq, true_or, or_true])
 have g2 : List.length b0 ≤ 1048576 := e2 _ (by simp [zsStringS])
 have e8 : ∀ q ∈ zsWriteS b2, q ≤ 1048576 := fun q hq => e9 q (by simp only [zsDisk, List.mem_append]; simp only [hq, true_or, or_true])
 have g5 : List.length b2 ≤ 1048576 := e8 _ (by simp [zsWriteS])
 have f5 : ∀ q ∈ zsSegS c4, q ≤ 1048576 := fun q hq => g3 q (by simp only [zsLog, List.mem_append]; simp only [hq, true_or, or_true])
 have i7 : List.length c4 ≤ 1048576 := f5 _ (by simp [zsSegS])
 have g8 : ∀ q ∈ zsIntS e1, q ≤ 1048576 := fun q hq => hz q (by simp only [zsStore, List.mem_append]; simp only [hq, true_or, or_true])
 have j4 : List.length e1 ≤ 1048576 := g8 _ (by simp [zsIntS])
 refine real tyOk Tryz.func58 (by kernel_rfl) (afun_of rfl ?_)
 refine gs (gr (ra hA 2 (by cbv) (od ?_)))
 refine gs ?_
 obtain ⟨a9, b1, b5, c9, d4, f3, hc2⟩ : ∃ (a9 : RR) (b1 : RR) (b5 : RR), a9 = List.map eString b0 ∧ b1 = List.map eoWrite b2 ∧ b5 = List.map eoSeg c4 ∧ Real Tryz.prog 104 [.agg [.sl 1 a3, .sl 2 a5, .int .i64 a6, .sl 4 a7, .int .i64 a1, .int .i64 a2, .int .i64 a4, .int .i64 a0]] (.agg [.ow 1 a9, .ow 2 b1, .int .i64 a6, .ow 4 b5, .int .i64 a1, .int .i64 a2, .int .i64 a4, .int .i64 a0]) := ⟨_, _, _, rfl, rfl, rfl, by subst b7 c0 d2; exact r_spec_l09Copy A hA (⟨⟨b0, b2⟩, a6, c4, a1, a2, a4, a0⟩ : GLog) (by assumption)⟩
 have g4 := rlen_map hA c9
 have g9 := rlen_map hA d4
 have i9 := rlen_map hA f3
 obtain ⟨r3, hr3⟩ := nm (([]) ++ a8 : RR)
 have er3 : r3 = List.map eInt (([]) ++ e1) := by rw [hr3]; exact app_eq rfl d8
 have lr3 := rlen_map hA er3
 refine go_drawE (by cbv) rfl rfl ({ sl := [.agg [.sl 1 a3, .sl 2 a5, .int .i64 a6, .sl 4 a7, .int .i64 a1, .int .i64 a2, .int .i64 a4, .int .i64 a0, .sl 1 a8], .pt 1 0 0, .pt 2 0 0, .pt 1 0 0, .agg [.sl 1 a3, .sl 2 a5, .int .i64 a6, .sl 4 a7, .int .i64 a1, .int .i64 a2, .int .i64 a4, .int .i64 a0], .agg [.own 5, .own 1005, .int .i64 a6, .own 3005, .int .i64 a1, .int .i64 a2, .int .i64 a4, .int .i64 a0], .bad, .pt 1 0 8, .sl 1 a8, .own 6, .agg [.own 5, .own 1005, .int .i64 a6, .own 3005, .int .i64 a1, .int .i64 a2, .int .i64 a4, .int .i64 a0, .own 6]], bl := [(1, ⟨.var, 9, [[.sl 1 a3, .sl 2 a5, .int .i64 a6, .sl 4 a7, .int .i64 a1, .int .i64 a2, .int .i64 a4, .int .i64 a0, .sl 1 a8]]⟩), (2, ⟨.var, 9, [[.own 5, .own 1005, .int .i64 a6, .own 3005, .int .i64 a1, .int .i64 a2, .int .i64 a4, .int .i64 a0, .own 6]]⟩), (5, ⟨.arr, 1, a9⟩), (6, ⟨.arr, 1, r3⟩), (1005, ⟨.arr, 2, b1⟩), (3005, ⟨.arr, 4, b5⟩)] } : St) (fun dR dK dhR dhF => ?_) ?_
 ·
  have j3 : ∀ (dn : Nat), cntF [true, true, true, true, true, true, true, true, true] = dn → dwp T ⟨Real Tryz.prog, RealM Tryz.prog, RealC Tryz.prog⟩ dR dK dn [true, true, true, true, true, true, true, true, true] ({ sl := [.agg [.sl 1 a3, .sl 2 a5, .int .i64 a6, .sl 4 a7, .int .i64 a1, .int .i64 a2, .int .i64 a4, .int .i64 a0, .sl 1 a8], .pt 1 0 0, .pt 2 0 0, .pt 1 0 0, .agg [.sl 1 a3, .sl 2 a5, .int .i64 a6, .sl 4 a7, .int .i64 a1, .int .i64 a2, .int .i64 a4, .int .i64 a0], .agg [.own 5, .own 1005, .int .i64 a6, .own 3005, .int .i64 a1, .int .i64 a2, .int .i64 a4, .int .i64 a0], .bad, .pt 1 0 8, .sl 1 a8, .own 6, .agg [.own 5, .own 1005, .int .i64 a6, .own 3005, .int .i64 a1, .int .i64 a2, .int .i64 a4, .int .i64 a0, .own 6]], bl := [(1, ⟨.var, 9, [[.sl 1 a3, .sl 2 a5, .int .i64 a6, .sl 4 a7, .int .i64 a1, .int .i64 a2, .int .i64 a4, .int .i64 a0, .sl 1 a8]]⟩), (2, ⟨.var, 9, [[.own 5, .own 1005, .int .i64 a6, .own 3005, .int .i64 a1, .int .i64 a2, .int .i64 a4, .int .i64 a0, .own 6]]⟩), (5, ⟨.arr, 1, a9⟩), (6, ⟨.arr, 1, r3⟩), (1005, ⟨.arr, 2, b1⟩), (3005, ⟨.arr, 4, b5⟩)] } : St) := by
   intro dn
   induction dn with
   | zero =>
    intro  dhn
    exact dwp_last dhF
   | succ dn ih =>
    intro  dhn
    subst dhR
    refine dwp_next (is := [0, 1, 2, 3, 4, 5, 6, 7, 8]) rfl ?_
    refine allRdy_none rfl ?_
    refine allRdy_none rfl ?_
    refine allRdy_none rfl ?_
    refine allRdy_none rfl ?_
    refine allRdy_none rfl ?_
    refine allRdy_none rfl ?_
    refine allRdy_none rfl ?_
    refine allRdy_none rfl ?_
    refine allRdy_none rfl ?_
    exact trivial
  have k2 : ∀ (dn : Nat) (dB7 : Bool) (dQ7 : PV), (dB7 = true → dQ7 = .agg [.own 5, .own 1005, .int .i64 a6, .own 3005, .int .i64 a1, .int .i64 a2, .int .i64 a4, .int .i64 a0, .own 6]) → cntF [true, true, true, true, true, true, true, dB7, false] = dn → dwp T ⟨Real Tryz.prog, RealM Tryz.prog, RealC Tryz.prog⟩ dR dK dn [true, true, true, true, true, true, true, dB7, false] ({ sl := [.agg [.sl 1 a3, .sl 2 a5, .int .i64 a6, .sl 4 a7, .int .i64 a1, .int .i64 a2, .int .i64 a4, .int .i64 a0, .sl 1 a8], .pt 1 0 0, .pt 2 0 0, .pt 1 0 0, .agg [.sl 1 a3, .sl 2 a5, .int .i64 a6, .sl 4 a7, .int .i64 a1, .int .i64 a2, .int .i64 a4, .int .i64 a0], .agg [.own 5, .own 1005, .int .i64 a6, .own 3005, .int .i64 a1, .int .i64 a2, .int .i64 a4, .int .i64 a0], .bad, .pt 1 0 8, .sl 1 a8, .own 6, dQ7], bl := [(1, ⟨.var, 9, [[.sl 1 a3, .sl 2 a5, .int .i64 a6, .sl 4 a7, .int .i64 a1, .int .i64 a2, .int .i64 a4, .int .i64 a0, .sl 1 a8]]⟩), (2, ⟨.var, 9, [[.zc, .zc, .int .i64 0, .zc, .int .i64 0, .int .i64 0, .int .i64 0, .int .i64 0, .zc]]⟩), (5, ⟨.arr, 1, a9⟩), (6, ⟨.arr, 1, r3⟩), (1005, ⟨.arr, 2, b1⟩), (3005, ⟨.arr, 4, b5⟩)] } : St) := by
   intro dn
   induction dn with
   | zero =>
    intro dB7 dQ7 dh7 dhn
    exact absurd (show false = true from cntF_zero  _ dhn 8 (by show 8 < 9; decide)) (by decide)
   | succ dn ih =>
    intro dB7 dQ7 dh7 dhn
    subst dhR
    refine dwp_next (is := [0, 1, 2, 3, 4, 5, 6, 7, 8]) rfl ?_
    refine allRdy_none rfl ?_
    refine allRdy_none rfl ?_
    refine allRdy_none rfl ?_
    refine allRdy_none rfl ?_
    refine allRdy_none rfl ?_
    refine allRdy_none rfl ?_
    refine allRdy_none rfl ?_
    refine allRdy_q rfl rfl (fun h0 h1 => ?_) ?_
    ·
     cases (show dB7 = false from h0)
     refine ra hA 1 (by cbv) ?_
     exact ops_done (dwp_to [] (by cbv) rfl (ih true (.agg [.own 5, .own 1005, .int .i64 a6, .own 3005, .int .i64 a1, .int .i64 a2, .int .i64 a4, .int .i64 a0, .own 6]) (fun _ => rfl) (cnt_dec h0 (by show 7 < 9; decide) dhn)))
    refine allRdy_q rfl rfl (fun h0 h1 => ?_) ?_
    ·
     obtain rfl : dB7 = true := h1.1
     obtain rfl := dh7 rfl
     refine ra hA 1 (by cbv) ?_
     exact ops_done (dwp_to [] (by cbv) rfl (j3 dn (cnt_dec h0 (by show 8 < 9; decide) dhn)))
    exact trivial
  have k0 : ∀ (dn : Nat) (dB4 : Bool) (dB5 : Bool) (dQ4 : PV) (dQ5 : PV), (dB4 = true → dQ4 = .pt 1 0 8) → (dB5 = true → dQ5 = .sl 1 a8) → (dB5 = true → dB4 = true) → cntF [true, true, true, true, dB4, dB5, false, false, false] = dn → dwp T ⟨Real Tryz.prog, RealM Tryz.prog, RealC Tryz.prog⟩ dR dK dn [true, true, true, true, dB4, dB5, false, false, false] ({ sl := [.agg [.sl 1 a3, .sl 2 a5, .int .i64 a6, .sl 4 a7, .int .i64 a1, .int .i64 a2, .int .i64 a4, .int .i64 a0, .sl 1 a8], .pt 1 0 0, .pt 2 0 0, .pt 1 0 0, .agg [.sl 1 a3, .sl 2 a5, .int .i64 a6, .sl 4 a7, .int .i64 a1, .int .i64 a2, .int .i64 a4, .int .i64 a0], .agg [.own 5, .own 1005, .int .i64 a6, .own 3005, .int .i64 a1, .int .i64 a2, .int .i64 a4, .int .i64 a0], .own 6, dQ4, dQ5, .bad, .bad], bl := [(1, ⟨.var, 9, [[.sl 1 a3, .sl 2 a5, .int .i64 a6, .sl 4 a7, .int .i64 a1, .int .i64 a2, .int .i64 a4, .int .i64 a0, .sl 1 a8]]⟩), (2, ⟨.var, 9, [[.zc, .zc, .int .i64 0, .zc, .int .i64 0, .int .i64 0, .int .i64 0, .int .i64 0, .zc]]⟩), (5, ⟨.arr, 1, a9⟩), (6, ⟨.arr, 1, []⟩), (1005, ⟨.arr, 2, b1⟩), (3005, ⟨.arr, 4, b5⟩)] } : St) := by
   intro dn
   induction dn with
   | zero =>
    intro dB4 dB5 dQ4 dQ5 dh4 dh5 d6 dhn
    exact absurd (show false = true from cntF_zero  _ dhn 6 (by show 6 < 9; decide)) (by decide)
   | succ dn ih =>
    intro dB4 dB5 dQ4 dQ5 dh4 dh5 d6 dhn
    subst dhR
    refine dwp_next (is := [0, 1, 2, 3, 4, 5, 6, 7, 8]) rfl ?_
    refine allRdy_none rfl ?_
    refine allRdy_none rfl ?_
    refine allRdy_none rfl ?_
    refine allRdy_none rfl ?_
    refine allRdy_q rfl rfl (fun h0 h1 => ?_) ?_
    ·
     cases (show dB4 = false from h0)
     refine ra hA 1 (by cbv) ?_
     exact ops_done (dwp_to [] (by cbv) rfl (ih true dB5 (.pt 1 0 8) (dQ5) (fun _ => rfl) dh5 (fun _ => rfl) (cnt_dec h0 (by show 4 < 9; decide) dhn)))
    refine allRdy_q rfl rfl (fun h0 h1 => ?_) ?_
    ·
     cases (show dB5 = false from h0)
     obtain rfl : dB4 = true := h1.1
     obtain rfl := dh4 rfl
     refine ra hA 1 (by cbv) ?_
     exact ops_done (dwp_to [] (by cbv) rfl (ih true true (.pt 1 0 8) (.sl 1 a8) (fun _ => rfl) (fun _ => rfl) (fun _ => rfl) (cnt_dec h0 (by show 5 < 9; decide) dhn)))
    refine allRdy_q rfl rfl (fun h0 h1 => ?_) ?_
    ·
     obtain rfl : dB5 = true := h1.2.1
     obtain rfl := dh5 rfl
     obtain rfl : dB4 = true := d6 rfl
     obtain rfl := dh4 rfl
     refine ops_step rfl rfl (app_own rfl rfl rfl rfl rfl rfl rfl rfl hr3 (by cbv) (by cbv) (by cbv) rfl (by
      show (List.length ([]) + List.length a8) * _ ≤ _
      simp only [List.length_nil, List.length_map, Nat.zero_add, *]
      omega) (by decide) (by decide)) ?_
     exact ops_done (dwp_to [] (by cbv) rfl (k2 dn false (.bad) (fun h => absurd h (by decide)) (cnt_dec h0 (by show 6 < 9; decide) dhn)))
    refine allRdy_q rfl rfl (fun _ h1 => absurd (show false = true from h1.2.1) (by decide)) ?_
    refine allRdy_q rfl rfl (fun _ h1 => absurd (show false = true from h1.1) (by decide)) ?_
    exact trivial
  have H_2 : ∀ (dn : Nat) (dB4 : Bool) (dB5 : Bool) (dQ4 : PV) (dQ5 : PV), (dB4 = true → dQ4 = .pt 1 0 8) → (dB5 = true → dQ5 = .sl 1 a8) → (dB5 = true → dB4 = true) → cntF [true, true, true, false, dB4, dB5, false, false, false] = dn → dwp T ⟨Real Tryz.prog, RealM Tryz.prog, RealC Tryz.prog⟩ dR dK dn [true, true, true, false, dB4, dB5, false, false, false] ({ sl := [.agg [.sl 1 a3, .sl 2 a5, .int .i64 a6, .sl 4 a7, .int .i64 a1, .int .i64 a2, .int .i64 a4, .int .i64 a0, .sl 1 a8], .pt 1 0 0, .pt 2 0 0, .pt 1 0 0, .agg [.sl 1 a3, .sl 2 a5, .int .i64 a6, .sl 4 a7, .int .i64 a1, .int .i64 a2, .int .i64 a4, .int .i64 a0], .agg [.own 5, .own 1005, .int .i64 a6, .own 3005, .int .i64 a1, .int .i64 a2, .int .i64 a4, .int .i64 a0], .bad, dQ4, dQ5, .bad, .bad], bl := [(1, ⟨.var, 9, [[.sl 1 a3, .sl 2 a5, .int .i64 a6, .sl 4 a7, .int .i64 a1, .int .i64 a2, .int .i64 a4, .int .i64 a0, .sl 1 a8]]⟩), (2, ⟨.var, 9, [[.zc, .zc, .int .i64 0, .zc, .int .i64 0, .int .i64 0, .int .i64 0, .int .i64 0, .zc]]⟩), (5, ⟨.arr, 1, a9⟩), (1005, ⟨.arr, 2, b1⟩), (3005, ⟨.arr, 4, b5⟩)] } : St) := by
   intro dn
   induction dn with
   | zero =>
    intro dB4 dB5 dQ4 dQ5 dh4 dh5 d6 dhn
    exact absurd (show false = true from cntF_zero  _ dhn 3 (by show 3 < 9; decide)) (by decide)
   | succ dn ih =>
    intro dB4 dB5 dQ4 dQ5 dh4 dh5 d6 dhn
    subst dhR
    refine dwp_next (is := [0, 1, 2, 3, 4, 5, 6, 7, 8]) rfl ?_
    refine allRdy_none rfl ?_
    refine allRdy_none rfl ?_
    refine allRdy_none rfl ?_
    refine allRdy_q rfl rfl (fun h0 h1 => ?_) ?_
    ·
     refine ra hA 1 (by cbv) ?_
     exact ops_done (dwp_to [.up 3005, .up 1005, .up 6, .up 5, .up 2, .up 1] (by cbv) rfl (k0 dn dB4 dB5 (dQ4) (dQ5) dh4 dh5 d6 (cnt_dec h0 (by show 3 < 9; decide) dhn)))
    refine allRdy_q rfl rfl (fun h0 h1 => ?_) ?_
    ·
     cases (show dB4 = false from h0)
     refine ra hA 1 (by cbv) ?_
     exact ops_done (dwp_to [] (by cbv) rfl (ih true dB5 (.pt 1 0 8) (dQ5) (fun _ => rfl) dh5 (fun _ => rfl) (cnt_dec h0 (by show 4 < 9; decide) dhn)))
    refine allRdy_q rfl rfl (fun h0 h1 => ?_) ?_
    ·
     cases (show dB5 = false from h0)
     obtain rfl : dB4 = true := h1.1
     obtain rfl := dh4 rfl
     refine ra hA 1 (by cbv) ?_
     exact ops_done (dwp_to [] (by cbv) rfl (ih true true (.pt 1 0 8) (.sl 1 a8) (fun _ => rfl) (fun _ => rfl) (fun _ => rfl) (cnt_dec h0 (by show 5 < 9; decide) dhn)))
    refine allRdy_q rfl rfl (fun _ h1 => absurd (show false = true from h1.1) (by decide)) ?_
    refine allRdy_q rfl rfl (fun _ h1 => absurd (show false = true from h1.2.1) (by decide)) ?_
    refine allRdy_q rfl rfl (fun _ h1 => absurd (show false = true from h1.1) (by decide)) ?_
    exact trivial
  have H_3 : ∀ (dn : Nat) (dB0 : Bool) (dB1 : Bool) (dB4 : Bool) (dB5 : Bool) (dQ0 : PV) (dQ1 : PV) (dQ4 : PV) (dQ5 : PV), (dB0 = true → dQ0 = .pt 1 0 0) → (dB1 = true → dQ1 = .agg [.sl 1 a3, .sl 2 a5, .int .i64 a6, .sl 4 a7, .int .i64 a1, .int .i64 a2, .int .i64 a4, .int .i64 a0]) → (dB4 = true → dQ4 = .pt 1 0 8) → (dB5 = true → dQ5 = .sl 1 a8) → (dB1 = true → dB0 = true) → (dB5 = true → dB4 = true) → cntF [dB0, dB1, false, true, dB4, dB5, false, false, false] = dn → dwp T ⟨Real Tryz.prog, RealM Tryz.prog, RealC Tryz.prog⟩ dR dK dn [dB0, dB1, false, true, dB4, dB5, false, false, false] ({ sl := [.agg [.sl 1 a3, .sl 2 a5, .int .i64 a6, .sl 4 a7, .int .i64 a1, .int .i64 a2, .int .i64 a4, .int .i64 a0, .sl 1 a8], .pt 1 0 0, .pt 2 0 0, dQ0, dQ1, .bad, .own 6, dQ4, dQ5, .bad, .bad], bl := [(1, ⟨.var, 9, [[.sl 1 a3, .sl 2 a5, .int .i64 a6, .sl 4 a7, .int .i64 a1, .int .i64 a2, .int .i64 a4, .int .i64 a0, .sl 1 a8]]⟩), (2, ⟨.var, 9, [[.zc, .zc, .int .i64 0, .zc, .int .i64 0, .int .i64 0, .int .i64 0, .int .i64 0, .zc]]⟩), (6, ⟨.arr, 1, []⟩)] } : St) := by
   intro dn
   induction dn with
   | zero =>
    intro dB0 dB1 dB4 dB5 dQ0 dQ1 dQ4 dQ5 dh0 dh1 dh4 dh5 d9 d6 dhn
    exact absurd (show false = true from cntF_zero  _ dhn 2 (by show 2 < 9; decide)) (by decide)
   | succ dn ih =>
    intro dB0 dB1 dB4 dB5 dQ0 dQ1 dQ4 dQ5 dh0 dh1 dh4 dh5 d9 d6 dhn
    subst dhR
    refine dwp_next (is := [0, 1, 2, 3, 4, 5, 6, 7, 8]) rfl ?_
    refine allRdy_q rfl rfl (fun h0 h1 => ?_) ?_
    ·
     cases (show dB0 = false from h0)
     refine ra hA 1 (by cbv) ?_
     exact ops_done (dwp_to [] (by cbv) rfl (ih true dB1 dB4 dB5 (.pt 1 0 0) (dQ1) (dQ4) (dQ5) (fun _ => rfl) dh1 dh4 dh5 (fun _ => rfl) d6 (cnt_dec h0 (by show 0 < 9; decide) dhn)))
    refine allRdy_q rfl rfl (fun h0 h1 => ?_) ?_
    ·
     cases (show dB1 = false from h0)
     obtain rfl : dB0 = true := h1.1
     obtain rfl := dh0 rfl
     refine ra hA 1 (by cbv) ?_
     exact ops_done (dwp_to [] (by cbv) rfl (ih true true dB4 dB5 (.pt 1 0 0) (.agg [.sl 1 a3, .sl 2 a5, .int .i64 a6, .sl 4 a7, .int .i64 a1, .int .i64 a2, .int .i64 a4, .int .i64 a0]) (dQ4) (dQ5) (fun _ => rfl) (fun _ => rfl) dh4 dh5 (fun _ => rfl) d6 (cnt_dec h0 (by show 1 < 9; decide) dhn)))
    refine allRdy_q rfl rfl (fun h0 h1 => ?_) ?_
    ·
     obtain rfl : dB1 = true := h1.1
     obtain rfl := dh1 rfl
     obtain rfl : dB0 = true := d9 rfl
     obtain rfl := dh0 rfl
     refine ops_callV rfl rfl (by cbv) (by cbv) hc2 (.inr rfl) (by cbv) ?_
     exact ops_done (dwp_to [.up 3005, .up 1005, .up 6, .up 5, .up 2, .up 1] (by cbv) rfl (k0 dn dB4 dB5 (dQ4) (dQ5) dh4 dh5 d6 (cnt_dec h0 (by show 2 < 9; decide) dhn)))
    refine allRdy_none rfl ?_
    refine allRdy_q rfl rfl (fun h0 h1 => ?_) ?_
    ·
     cases (show dB4 = false from h0)
     refine ra hA 1 (by cbv) ?_
     exact ops_done (dwp_to [] (by cbv) rfl (ih dB0 dB1 true dB5 (dQ0) (dQ1) (.pt 1 0 8) (dQ5) dh0 dh1 (fun _ => rfl) dh5 d9 (fun _ => rfl) (cnt_dec h0 (by show 4 < 9; decide) dhn)))
    refine allRdy_q rfl rfl (fun h0 h1 => ?_) ?_
    ·
     cases (show dB5 = false from h0)
     obtain rfl : dB4 = true := h1.1
     obtain rfl := dh4 rfl
     refine ra hA 1 (by cbv) ?_
     exact ops_done (dwp_to [] (by cbv) rfl (ih dB0 dB1 true true (dQ0) (dQ1) (.pt 1 0 8) (.sl 1 a8) dh0 dh1 (fun _ => rfl) (fun _ => rfl) d9 (fun _ => rfl) (cnt_dec h0 (by show 5 < 9; decide) dhn)))
    refine allRdy_q rfl rfl (fun _ h1 => absurd (show false = true from h1.2.2.1) (by decide)) ?_
    refine allRdy_q rfl rfl (fun _ h1 => absurd (show false = true from h1.1) (by decide)) ?_
    refine allRdy_q rfl rfl (fun _ h1 => absurd (show false = true from h1.1) (by decide)) ?_
    exact trivial
  have H_ : ∀ (dn : Nat) (dB0 : Bool) (dB1 : Bool) (dB4 : Bool) (dB5 : Bool) (dQ0 : PV) (dQ1 : PV) (dQ4 : PV) (dQ5 : PV), (dB0 = true → dQ0 = .pt 1 0 0) → (dB1 = true → dQ1 = .agg [.sl 1 a3, .sl 2 a5, .int .i64 a6, .sl 4 a7, .int .i64 a1, .int .i64 a2, .int .i64 a4, .int .i64 a0]) → (dB4 = true → dQ4 = .pt 1 0 8) → (dB5 = true → dQ5 = .sl 1 a8) → (dB1 = true → dB0 = true) → (dB5 = true → dB4 = true) → cntF [dB0, dB1, false, false, dB4, dB5, false, false, false] = dn → dwp T ⟨Real Tryz.prog, RealM Tryz.prog, RealC Tryz.prog⟩ dR dK dn [dB0, dB1, false, false, dB4, dB5, false, false, false] ({ sl := [.agg [.sl 1 a3, .sl 2 a5, .int .i64 a6, .sl 4 a7, .int .i64 a1, .int .i64 a2, .int .i64 a4, .int .i64 a0, .sl 1 a8], .pt 1 0 0, .pt 2 0 0, dQ0, dQ1, .bad, .bad, dQ4, dQ5, .bad, .bad], bl := [(1, ⟨.var, 9, [[.sl 1 a3, .sl 2 a5, .int .i64 a6, .sl 4 a7, .int .i64 a1, .int .i64 a2, .int .i64 a4, .int .i64 a0, .sl 1 a8]]⟩), (2, ⟨.var, 9, [[.zc, .zc, .int .i64 0, .zc, .int .i64 0, .int .i64 0, .int .i64 0, .int .i64 0, .zc]]⟩)] } : St) := by
   intro dn
   induction dn with
   | zero =>
    intro dB0 dB1 dB4 dB5 dQ0 dQ1 dQ4 dQ5 dh0 dh1 dh4 dh5 d9 d6 dhn
    exact absurd (show false = true from cntF_zero  _ dhn 2 (by show 2 < 9; decide)) (by decide)
   | succ dn ih =>
    intro dB0 dB1 dB4 dB5 dQ0 dQ1 dQ4 dQ5 dh0 dh1 dh4 dh5 d9 d6 dhn
    subst dhR
    refine dwp_next (is := [0, 1, 2, 3, 4, 5, 6, 7, 8]) rfl ?_
    refine allRdy_q rfl rfl (fun h0 h1 => ?_) ?_
    ·
     cases (show dB0 = false from h0)
     refine ra hA 1 (by cbv) ?_
     exact ops_done (dwp_to [] (by cbv) rfl (ih true dB1 dB4 dB5 (.pt 1 0 0) (dQ1) (dQ4) (dQ5) (fun _ => rfl) dh1 dh4 dh5 (fun _ => rfl) d6 (cnt_dec h0 (by show 0 < 9; decide) dhn)))
    refine allRdy_q rfl rfl (fun h0 h1 => ?_) ?_
    ·
     cases (show dB1 = false from h0)
     obtain rfl : dB0 = true := h1.1
     obtain rfl := dh0 rfl
     refine ra hA 1 (by cbv) ?_
     exact ops_done (dwp_to [] (by cbv) rfl (ih true true dB4 dB5 (.pt 1 0 0) (.agg [.sl 1 a3, .sl 2 a5, .int .i64 a6, .sl 4 a7, .int .i64 a1, .int .i64 a2, .int .i64 a4, .int .i64 a0]) (dQ4) (dQ5) (fun _ => rfl) (fun _ => rfl) dh4 dh5 (fun _ => rfl) d6 (cnt_dec h0 (by show 1 < 9; decide) dhn)))
    refine allRdy_q rfl rfl (fun h0 h1 => ?_) ?_
    ·
     obtain rfl : dB1 = true := h1.1
     obtain rfl := dh1 rfl
     obtain rfl : dB0 = true := d9 rfl
     obtain rfl := dh0 rfl
     refine ops_callV rfl rfl (by cbv) (by cbv) hc2 (.inr rfl) (by cbv) ?_
     exact ops_done (dwp_to [.up 3005, .up 1005, .up 5, .up 2, .up 1] (by cbv) rfl (H_2 dn dB4 dB5 (dQ4) (dQ5) dh4 dh5 d6 (cnt_dec h0 (by show 2 < 9; decide) dhn)))
    refine allRdy_q rfl rfl (fun h0 h1 => ?_) ?_
    ·
     refine ra hA 1 (by cbv) ?_
     exact ops_done (dwp_to [.up 6, .up 2, .up 1] (by cbv) rfl (H_3 dn dB0 dB1 dB4 dB5 (dQ0) (dQ1) (dQ4) (dQ5) dh0 dh1 dh4 dh5 d9 d6 (cnt_dec h0 (by show 3 < 9; decide) dhn)))
    refine allRdy_q rfl rfl (fun h0 h1 => ?_) ?_
    ·
     cases (show dB4 = false from h0)
     refine ra hA 1 (by cbv) ?_
     exact ops_done (dwp_to [] (by cbv) rfl (ih dB0 dB1 true dB5 (dQ0) (dQ1) (.pt 1 0 8) (dQ5) dh0 dh1 (fun _ => rfl) dh5 d9 (fun _ => rfl) (cnt_dec h0 (by show 4 < 9; decide) dhn)))
    refine allRdy_q rfl rfl (fun h0 h1 => ?_) ?_
    ·
     cases (show dB5 = false from h0)
     obtain rfl : dB4 = true := h1.1
     obtain rfl := dh4 rfl
     refine ra hA 1 (by cbv) ?_
     exact ops_done (dwp_to [] (by cbv) rfl (ih dB0 dB1 true true (dQ0) (dQ1) (.pt 1 0 8) (.sl 1 a8) dh0 dh1 (fun _ => rfl) (fun _ => rfl) d9 (fun _ => rfl) (cnt_dec h0 (by show 5 < 9; decide) dhn)))
    refine allRdy_q rfl rfl (fun _ h1 => absurd (show false = true from h1.1) (by decide)) ?_
    refine allRdy_q rfl rfl (fun _ h1 => absurd (show false = true from h1.1) (by decide)) ?_
    refine allRdy_q rfl rfl (fun _ h1 => absurd (show false = true from h1.1) (by decide)) ?_
    exact trivial
  exact dwp_to [.up 2, .up 1] (by cbv) rfl (H_ 9 false false false false (.bad) (.bad) (.bad) (.bad) (fun h => absurd h (by decide)) (fun h => absurd h (by decide)) (fun h => absurd h (by decide)) (fun h => absurd h (by decide)) (fun h => absurd h (by decide)) (fun h => absurd h (by decide)) rfl)
 refine go_ret ⟨_, by cbv, ?_⟩
 show _ = (PV.agg [.ow 1 a9, .ow 2 b1, .int .i64 a6, .ow 4 b5, .int .i64 a1, .int .i64 a2, .int .i64 a4, .int .i64 a0, .ow 1 r3])
 simp only [c9, d4, f3, er3, List.nil_append]
 rfl
theorem r_impl_cloneStore (A : Alg) (hA : A = std) (x : GStore) (hz : ∀ q ∈ zsStore x, q ≤ 1048576) : Real Tryz.prog 33 [.agg (eStore x)] (.agg (eoStore x)) := by
 obtain ⟨⟨⟨b0, b2⟩, a6, c4, a1, a2, a4, a0⟩, e1⟩ := x
 obtain ⟨a3, b7⟩ := nm (b0.map eString)
 have f6 := rlen_map hA b7
 obtain ⟨a5, c0⟩ := nm (b2.map eWrite)
 have g1 := rlen_map hA c0
 obtain ⟨a7, d2⟩ := nm (c4.map eSeg)
 have i3 := rlen_map hA d2
 obtain ⟨a8, d8⟩ := nm (e1.map eInt)
 have j0 := rlen_map hA d8
 refine real_args (args' := [.agg [.sl 1 a3, .sl 2 a5, .int .i64 a6, .sl 4 a7, .int .i64 a1, .int .i64 a2, .int .i64 a4, .int .i64 a0, .sl 1 a8]]) (by subst b7 c0 d2 d8; rfl) ?_
 have g3 : ∀ q ∈ zsLog (⟨⟨b0, b2⟩, a6, c4, a1, a2, a4, a0⟩ : GLog), q ≤ 1048576 := fun q hq => hz q (by simp only [zsStore, List.mem_append]; simp only [hq, true_or, or_true])
 have e9 : ∀ q ∈ zsDisk (⟨b0, b2⟩ : GDisk), q ≤ 1048576 := fun q hq => g3 q (by simp only [zsLog, List.mem_append]; simp only [hq, true_or, or_true])
 have e2 : ∀ q ∈ zsStringS b0, q ≤ 1048576 := fun q hq => e9 q (by simp only [zsDisk, List.mem_append]; simp only [hq, true_or, or_true])
 have g2 : List.length b0 ≤ 1048576 := e2 _ (by simp [zsStringS])
 have e8 : ∀ q ∈ zsWriteS b2, q ≤ 1048576 := fun q hq => e9 q (by simp only [zsDisk, List.mem_append]; simp only [hq, true_or, or_true])
 have g5 : List.length b2 ≤ 1048576 := e8 _ (by simp [zsWriteS])
 have f5 : ∀ q ∈ zsSegS c4, q ≤ 1048576 := fun q hq => g3 q (by simp only [zsLog, List.mem_append]; simp only [hq, true_or, or_true])
 have i7 : List.length c4 ≤ 1048576 := f5 _ (by simp [zsSegS])
 have g8 : ∀ q ∈ zsIntS e1, q ≤ 1048576 := fun q hq => hz q (by simp only [zsStore, List.mem_append]; simp only [hq, true_or, or_true])
 have j4 : List.length e1 ≤ 1048576 := g8 _ (by simp [zsIntS])
 refine real tyOk Tryz.func33 (by kernel_rfl) (afun_of rfl ?_)
 refine gs (gr (ra hA 2 (by cbv) (od ?_)))
 refine gs ?_
 obtain ⟨a9, b1, b5, c9, d4, f3, hc2⟩ : ∃ (a9 : RR) (b1 : RR) (b5 : RR), a9 = List.map eString b0 ∧ b1 = List.map eoWrite b2 ∧ b5 = List.map eoSeg c4 ∧ Real Tryz.prog 64 [.agg [.sl 1 a3, .sl 2 a5, .int .i64 a6, .sl 4 a7, .int .i64 a1, .int .i64 a2, .int .i64 a4, .int .i64 a0]] (.agg [.ow 1 a9, .ow 2 b1, .int .i64 a6, .ow 4 b5, .int .i64 a1, .int .i64 a2, .int .i64 a4, .int .i64 a0]) := ⟨_, _, _, rfl, rfl, rfl, by subst b7 c0 d2; exact r_impl_cloneLog A hA (⟨⟨b0, b2⟩, a6, c4, a1, a2, a4, a0⟩ : GLog) (by assumption)⟩
 have g4 := rlen_map hA c9
 have g9 := rlen_map hA d4
 have i9 := rlen_map hA f3
 obtain ⟨g7, j9, hc4⟩ : ∃ (g7 : RR), g7 = List.map eInt e1 ∧ Real Tryz.prog 65 [.sl 1 a8] (.ow 1 g7) := ⟨_, rfl, by subst d8; exact r_Clone_Int A hA e1 (by omega)⟩
 have k6 := rlen_map hA j9
 refine go_drawE (by cbv) rfl rfl ({ sl := [.agg [.sl 1 a3, .sl 2 a5, .int .i64 a6, .sl 4 a7, .int .i64 a1, .int .i64 a2, .int .i64 a4, .int .i64 a0, .sl 1 a8], .pt 1 0 0, .pt 2 0 0, .pt 1 0 0, .agg [.sl 1 a3, .sl 2 a5, .int .i64 a6, .sl 4 a7, .int .i64 a1, .int .i64 a2, .int .i64 a4, .int .i64 a0], .agg [.own 5, .own 1005, .int .i64 a6, .own 3005, .int .i64 a1, .int .i64 a2, .int .i64 a4, .int .i64 a0], .pt 1 0 8, .sl 1 a8, .own 8, .agg [.own 5, .own 1005, .int .i64 a6, .own 3005, .int .i64 a1, .int .i64 a2, .int .i64 a4, .int .i64 a0, .own 8]], bl := [(1, ⟨.var, 9, [[.sl 1 a3, .sl 2 a5, .int .i64 a6, .sl 4 a7, .int .i64 a1, .int .i64 a2, .int .i64 a4, .int .i64 a0, .sl 1 a8]]⟩), (2, ⟨.var, 9, [[.own 5, .own 1005, .int .i64 a6, .own 3005, .int .i64 a1, .int .i64 a2, .int .i64 a4, .int .i64 a0, .own 8]]⟩), (5, ⟨.arr, 1, a9⟩), (8, ⟨.arr, 1, g7⟩), (1005, ⟨.arr, 2, b1⟩), (3005, ⟨.arr, 4, b5⟩)] } : St) (fun dR dK dhR dhF => ?_) ?_
 ·
  have k1 : ∀ (dn : Nat), cntF [true, true, true, true, true, true, true, true] = dn → dwp T ⟨Real Tryz.prog, RealM Tryz.prog, RealC Tryz.prog⟩ dR dK dn [true, true, true, true, true, true, true, true] ({ sl := [.agg [.sl 1 a3, .sl 2 a5, .int .i64 a6, .sl 4 a7, .int .i64 a1, .int .i64 a2, .int .i64 a4, .int .i64 a0, .sl 1 a8], .pt 1 0 0, .pt 2 0 0, .pt 1 0 0, .agg [.sl 1 a3, .sl 2 a5, .int .i64 a6, .sl 4 a7, .int .i64 a1, .int .i64 a2, .int .i64 a4, .int .i64 a0], .agg [.own 5, .own 1005, .int .i64 a6, .own 3005, .int .i64 a1, .int .i64 a2, .int .i64 a4, .int .i64 a0], .pt 1 0 8, .sl 1 a8, .own 8, .agg [.own 5, .own 1005, .int .i64 a6, .own 3005, .int .i64 a1, .int .i64 a2, .int .i64 a4, .int .i64 a0, .own 8]], bl := [(1, ⟨.var, 9, [[.sl 1 a3, .sl 2 a5, .int .i64 a6, .sl 4 a7, .int .i64 a1, .int .i64 a2, .int .i64 a4, .int .i64 a0, .sl 1 a8]]⟩), (2, ⟨.var, 9, [[.own 5, .own 1005, .int .i64 a6, .own 3005, .int .i64 a1, .int .i64 a2, .int .i64 a4, .int .i64 a0, .own 8]]⟩), (5, ⟨.arr, 1, a9⟩), (8, ⟨.arr, 1, g7⟩), (1005, ⟨.arr, 2, b1⟩), (3005, ⟨.arr, 4, b5⟩)] } : St) := by
   intro dn
   induction dn with
   | zero =>
    intro  dhn
    exact dwp_last dhF
   | succ dn ih =>
    intro  dhn
    subst dhR
    refine dwp_next (is := [0, 1, 2, 3, 4, 5, 6, 7]) rfl ?_
    refine allRdy_none rfl ?_
    refine allRdy_none rfl ?_
    refine allRdy_none rfl ?_
    refine allRdy_none rfl ?_
    refine allRdy_none rfl ?_
    refine allRdy_none rfl ?_
    refine allRdy_none rfl ?_
    refine allRdy_none rfl ?_
    exact trivial
  have k4 : ∀ (dn : Nat) (dB6 : Bool) (dQ6 : PV), (dB6 = true → dQ6 = .agg [.own 5, .own 1005, .int .i64 a6, .own 3005, .int .i64 a1, .int .i64 a2, .int .i64 a4, .int .i64 a0, .own 8]) → cntF [true, true, true, true, true, true, dB6, false] = dn → dwp T ⟨Real Tryz.prog, RealM Tryz.prog, RealC Tryz.prog⟩ dR dK dn [true, true, true, true, true, true, dB6, false] ({ sl := [.agg [.sl 1 a3, .sl 2 a5, .int .i64 a6, .sl 4 a7, .int .i64 a1, .int .i64 a2, .int .i64 a4, .int .i64 a0, .sl 1 a8], .pt 1 0 0, .pt 2 0 0, .pt 1 0 0, .agg [.sl 1 a3, .sl 2 a5, .int .i64 a6, .sl 4 a7, .int .i64 a1, .int .i64 a2, .int .i64 a4, .int .i64 a0], .agg [.own 5, .own 1005, .int .i64 a6, .own 3005, .int .i64 a1, .int .i64 a2, .int .i64 a4, .int .i64 a0], .pt 1 0 8, .sl 1 a8, .own 8, dQ6], bl := [(1, ⟨.var, 9, [[.sl 1 a3, .sl 2 a5, .int .i64 a6, .sl 4 a7, .int .i64 a1, .int .i64 a2, .int .i64 a4, .int .i64 a0, .sl 1 a8]]⟩), (2, ⟨.var, 9, [[.zc, .zc, .int .i64 0, .zc, .int .i64 0, .int .i64 0, .int .i64 0, .int .i64 0, .zc]]⟩), (5, ⟨.arr, 1, a9⟩), (8, ⟨.arr, 1, g7⟩), (1005, ⟨.arr, 2, b1⟩), (3005, ⟨.arr, 4, b5⟩)] } : St) := by
   intro dn
   induction dn with
   | zero =>
    intro dB6 dQ6 dh6 dhn
    exact absurd (show false = true from cntF_zero  _ dhn 7 (by show 7 < 8; decide)) (by decide)
   | succ dn ih =>
    intro dB6 dQ6 dh6 dhn
    subst dhR
    refine dwp_next (is := [0, 1, 2, 3, 4, 5, 6, 7]) rfl ?_
    refine allRdy_none rfl ?_
    refine allRdy_none rfl ?_
    refine allRdy_none rfl ?_
    refine allRdy_none rfl ?_
    refine allRdy_none rfl ?_
    refine allRdy_none rfl ?_
    refine allRdy_q rfl rfl (fun h0 h1 => ?_) ?_
    ·
     cases (show dB6 = false from h0)
     refine ra hA 1 (by cbv) ?_
     exact ops_done (dwp_to [] (by cbv) rfl (ih true (.agg [.own 5, .own 1005, .int .i64 a6, .own 3005, .int .i64 a1, .int .i64 a2, .int .i64 a4, .int .i64 a0, .own 8]) (fun _ => rfl) (cnt_dec h0 (by show 6 < 8; decide) dhn)))
    refine allRdy_q rfl rfl (fun h0 h1 => ?_) ?_
    ·
     obtain rfl : dB6 = true := h1.1
     obtain rfl := dh6 rfl
     refine ra hA 1 (by cbv) ?_
     exact ops_done (dwp_to [] (by cbv) rfl (k1 dn (cnt_dec h0 (by show 7 < 8; decide) dhn)))
    exact trivial
  have H_2 : ∀ (dn : Nat) (dB3 : Bool) (dB4 : Bool) (dQ3 : PV) (dQ4 : PV), (dB3 = true → dQ3 = .pt 1 0 8) → (dB4 = true → dQ4 = .sl 1 a8) → (dB4 = true → dB3 = true) → cntF [true, true, true, dB3, dB4, false, false, false] = dn → dwp T ⟨Real Tryz.prog, RealM Tryz.prog, RealC Tryz.prog⟩ dR dK dn [true, true, true, dB3, dB4, false, false, false] ({ sl := [.agg [.sl 1 a3, .sl 2 a5, .int .i64 a6, .sl 4 a7, .int .i64 a1, .int .i64 a2, .int .i64 a4, .int .i64 a0, .sl 1 a8], .pt 1 0 0, .pt 2 0 0, .pt 1 0 0, .agg [.sl 1 a3, .sl 2 a5, .int .i64 a6, .sl 4 a7, .int .i64 a1, .int .i64 a2, .int .i64 a4, .int .i64 a0], .agg [.own 5, .own 1005, .int .i64 a6, .own 3005, .int .i64 a1, .int .i64 a2, .int .i64 a4, .int .i64 a0], dQ3, dQ4, .bad, .bad], bl := [(1, ⟨.var, 9, [[.sl 1 a3, .sl 2 a5, .int .i64 a6, .sl 4 a7, .int .i64 a1, .int .i64 a2, .int .i64 a4, .int .i64 a0, .sl 1 a8]]⟩), (2, ⟨.var, 9, [[.zc, .zc, .int .i64 0, .zc, .int .i64 0, .int .i64 0, .int .i64 0, .int .i64 0, .zc]]⟩), (5, ⟨.arr, 1, a9⟩), (1005, ⟨.arr, 2, b1⟩), (3005, ⟨.arr, 4, b5⟩)] } : St) := by
   intro dn
   induction dn with
   | zero =>
    intro dB3 dB4 dQ3 dQ4 dh3 dh4 f9 dhn
    exact absurd (show false = true from cntF_zero  _ dhn 5 (by show 5 < 8; decide)) (by decide)
   | succ dn ih =>
    intro dB3 dB4 dQ3 dQ4 dh3 dh4 f9 dhn
    subst dhR
    refine dwp_next (is := [0, 1, 2, 3, 4, 5, 6, 7]) rfl ?_
    refine allRdy_none rfl ?_
    refine allRdy_none rfl ?_
    refine allRdy_none rfl ?_
    refine allRdy_q rfl rfl (fun h0 h1 => ?_) ?_
    ·
     cases (show dB3 = false from h0)
     refine ra hA 1 (by cbv) ?_
     exact ops_done (dwp_to [] (by cbv) rfl (ih true dB4 (.pt 1 0 8) (dQ4) (fun _ => rfl) dh4 (fun _ => rfl) (cnt_dec h0 (by show 3 < 8; decide) dhn)))
    refine allRdy_q rfl rfl (fun h0 h1 => ?_) ?_
    ·
     cases (show dB4 = false from h0)
     obtain rfl : dB3 = true := h1.1
     obtain rfl := dh3 rfl
     refine ra hA 1 (by cbv) ?_
     exact ops_done (dwp_to [] (by cbv) rfl (ih true true (.pt 1 0 8) (.sl 1 a8) (fun _ => rfl) (fun _ => rfl) (fun _ => rfl) (cnt_dec h0 (by show 4 < 8; decide) dhn)))
    refine allRdy_q rfl rfl (fun h0 h1 => ?_) ?_
    ·
     obtain rfl : dB4 = true := h1.1
     obtain rfl := dh4 rfl
     obtain rfl : dB3 = true := f9 rfl
     obtain rfl := dh3 rfl
     refine ops_callV rfl rfl (by cbv) (by cbv) hc4 (.inr rfl) (by cbv) ?_
     exact ops_done (dwp_to [.up 3005, .up 1005, .up 8, .up 5, .up 2, .up 1] (by cbv) rfl (k4 dn false (.bad) (fun h => absurd h (by decide)) (cnt_dec h0 (by show 5 < 8; decide) dhn)))
    refine allRdy_q rfl rfl (fun _ h1 => absurd (show false = true from h1.2.1) (by decide)) ?_
    refine allRdy_q rfl rfl (fun _ h1 => absurd (show false = true from h1.1) (by decide)) ?_
    exact trivial
  have H_ : ∀ (dn : Nat) (dB0 : Bool) (dB1 : Bool) (dB3 : Bool) (dB4 : Bool) (dQ0 : PV) (dQ1 : PV) (dQ3 : PV) (dQ4 : PV), (dB0 = true → dQ0 = .pt 1 0 0) → (dB1 = true → dQ1 = .agg [.sl 1 a3, .sl 2 a5, .int .i64 a6, .sl 4 a7, .int .i64 a1, .int .i64 a2, .int .i64 a4, .int .i64 a0]) → (dB3 = true → dQ3 = .pt 1 0 8) → (dB4 = true → dQ4 = .sl 1 a8) → (dB1 = true → dB0 = true) → (dB4 = true → dB3 = true) → cntF [dB0, dB1, false, dB3, dB4, false, false, false] = dn → dwp T ⟨Real Tryz.prog, RealM Tryz.prog, RealC Tryz.prog⟩ dR dK dn [dB0, dB1, false, dB3, dB4, false, false, false] ({ sl := [.agg [.sl 1 a3, .sl 2 a5, .int .i64 a6, .sl 4 a7, .int .i64 a1, .int .i64 a2, .int .i64 a4, .int .i64 a0, .sl 1 a8], .pt 1 0 0, .pt 2 0 0, dQ0, dQ1, .bad, dQ3, dQ4, .bad, .bad], bl := [(1, ⟨.var, 9, [[.sl 1 a3, .sl 2 a5, .int .i64 a6, .sl 4 a7, .int .i64 a1, .int .i64 a2, .int .i64 a4, .int .i64 a0, .sl 1 a8]]⟩), (2, ⟨.var, 9, [[.zc, .zc, .int .i64 0, .zc, .int .i64 0, .int .i64 0, .int .i64 0, .int .i64 0, .zc]]⟩)] } : St) := by
   intro dn
   induction dn with
   | zero =>
    intro dB0 dB1 dB3 dB4 dQ0 dQ1 dQ3 dQ4 dh0 dh1 dh3 dh4 d9 f9 dhn
    exact absurd (show false = true from cntF_zero  _ dhn 2 (by show 2 < 8; decide)) (by decide)
   | succ dn ih =>
    intro dB0 dB1 dB3 dB4 dQ0 dQ1 dQ3 dQ4 dh0 dh1 dh3 dh4 d9 f9 dhn
    subst dhR
    refine dwp_next (is := [0, 1, 2, 3, 4, 5, 6, 7]) rfl ?_
    refine allRdy_q rfl rfl (fun h0 h1 => ?_) ?_
    ·
     cases (show dB0 = false from h0)
     refine ra hA 1 (by cbv) ?_
     exact ops_done (dwp_to [] (by cbv) rfl (ih true dB1 dB3 dB4 (.pt 1 0 0) (dQ1) (dQ3) (dQ4) (fun _ => rfl) dh1 dh3 dh4 (fun _ => rfl) f9 (cnt_dec h0 (by show 0 < 8; decide) dhn)))
    refine allRdy_q rfl rfl (fun h0 h1 => ?_) ?_
    ·
     cases (show dB1 = false from h0)
     obtain rfl : dB0 = true := h1.1
     obtain rfl := dh0 rfl
     refine ra hA 1 (by cbv) ?_
     exact ops_done (dwp_to [] (by cbv) rfl (ih true true dB3 dB4 (.pt 1 0 0) (.agg [.sl 1 a3, .sl 2 a5, .int .i64 a6, .sl 4 a7, .int .i64 a1, .int .i64 a2, .int .i64 a4, .int .i64 a0]) (dQ3) (dQ4) (fun _ => rfl) (fun _ => rfl) dh3 dh4 (fun _ => rfl) f9 (cnt_dec h0 (by show 1 < 8; decide) dhn)))
    refine allRdy_q rfl rfl (fun h0 h1 => ?_) ?_
    ·
     obtain rfl : dB1 = true := h1.1
     obtain rfl := dh1 rfl
     obtain rfl : dB0 = true := d9 rfl
     obtain rfl := dh0 rfl
     refine ops_callV rfl rfl (by cbv) (by cbv) hc2 (.inr rfl) (by cbv) ?_
     exact ops_done (dwp_to [.up 3005, .up 1005, .up 5, .up 2, .up 1] (by cbv) rfl (H_2 dn dB3 dB4 (dQ3) (dQ4) dh3 dh4 f9 (cnt_dec h0 (by show 2 < 8; decide) dhn)))
    refine allRdy_q rfl rfl (fun h0 h1 => ?_) ?_
    ·
     cases (show dB3 = false from h0)
     refine ra hA 1 (by cbv) ?_
     exact ops_done (dwp_to [] (by cbv) rfl (ih dB0 dB1 true dB4 (dQ0) (dQ1) (.pt 1 0 8) (dQ4) dh0 dh1 (fun _ => rfl) dh4 d9 (fun _ => rfl) (cnt_dec h0 (by show 3 < 8; decide) dhn)))
    refine allRdy_q rfl rfl (fun h0 h1 => ?_) ?_
    ·
     cases (show dB4 = false from h0)
     obtain rfl : dB3 = true := h1.1
     obtain rfl := dh3 rfl
     refine ra hA 1 (by cbv) ?_
     exact ops_done (dwp_to [] (by cbv) rfl (ih dB0 dB1 true true (dQ0) (dQ1) (.pt 1 0 8) (.sl 1 a8) dh0 dh1 (fun _ => rfl) (fun _ => rfl) d9 (fun _ => rfl) (cnt_dec h0 (by show 4 < 8; decide) dhn)))
    refine allRdy_q rfl rfl (fun _ h1 => absurd (show false = true from h1.2.1) (by decide)) ?_
    refine allRdy_q rfl rfl (fun _ h1 => absurd (show false = true from h1.1) (by decide)) ?_
    refine allRdy_q rfl rfl (fun _ h1 => absurd (show false = true from h1.1) (by decide)) ?_
    exact trivial
  exact dwp_to [.up 2, .up 1] (by cbv) rfl (H_ 8 false false false false (.bad) (.bad) (.bad) (.bad) (fun h => absurd h (by decide)) (fun h => absurd h (by decide)) (fun h => absurd h (by decide)) (fun h => absurd h (by decide)) (fun h => absurd h (by decide)) (fun h => absurd h (by decide)) rfl)
 refine go_ret ⟨_, by cbv, ?_⟩
 show _ = (PV.agg [.ow 1 a9, .ow 2 b1, .int .i64 a6, .ow 4 b5, .int .i64 a1, .int .i64 a2, .int .i64 a4, .int .i64 a0, .ow 1 g7])
 simp only [c9, d4, f3, j9, List.nil_append]
 rfl
end Go.Av
