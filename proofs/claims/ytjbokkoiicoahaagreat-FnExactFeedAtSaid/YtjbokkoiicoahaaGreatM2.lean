/- Walks: marks. -/
import Derived.Test.YtjbokkoiicoahaaGreatM1
namespace Go.Av
open Go Go.Proofs
set_option maxRecDepth 100000
set_option maxHeartbeats 4000000
set_option linter.unusedVariables false
set_option linter.unusedSimpArgs false
def S37_1 (hv : Nat → Value) (p0 : Int) (p1 : Int) (p2 : RR) : St := { sl := [.own 1000000000, .int .i64 p0, .bad, .bad, .bad, .int .i64 p1, .bad, .bad, .bad, .bad, .bad, .bad, .bad, .bad, .bad, .bad, .bad, .bad, .bad, .bad, .bad, .bad, .bad, .bad, .bad, .bad, .bad, .bad, .bad, .bad, .bad, .bad, .bad, .bad, .bad, .bad, .bad, .bad, .bad, .bad, .bad, .bad, .bad, .bad, .bad, .bad, .bad, .bad, .bad, .bad, .bad, .bad, .bad, .bad, .bad, .bad, .bad, .bad, .bad, .bad, .bad, .bad, .bad, .bad, .bad, .bad, .bad, .bad, .bad, .bad, .bad, .bad, .bad, .bad, .bad, .bad, .bad, .bad, .bad, .bad, .bad, .bad, .bad, .bad, .bad, .bad, .bad, .bad, .bad, .bad, .bad, .bad, .bad, .bad, .bad, .bad, .bad, .bad, .bad, .bad, .bad, .bad, .bad, .bad, .bad, .bad, .bad, .bad, .bad, .bad, .bad, .bad, .bad, .bad, .bad, .bad, .bad, .bad, .bad, .bad, .bad, .bad, .bad, .bad, .bad, .bad, .bad, .bad, .bad, .bad, .bad, .bad, .bad, .bad, .bad, .bad, .bad, .bad, .bad, .bad, .bad, .bad, .bad, .bad, .bad, .bad, .bad, .bad, .bad, .bad, .bad, .bad, .bad], bl := [(1000000000, ⟨.arr, 17, p2⟩)], hd := [(1000000000, hv 1000000000)] }
theorem m_laws_markSessionS (A : Alg) (hA : A = std) (x : List GSession) (k : Int) (h0 : 0 ≤ k) (h1 : k + cnSessionS x ≤ 1099511627776) : RealM Tryz.prog 37 [.ow 17 (List.map eoSession x), .int .i64 k] [.ow 17 (List.map eoSession (mkSessionS k x)), .int .i64 k] (.int .i64 (k + cnSessionS x)) := by
 obtain ⟨x_r, i2⟩ := nm (x.map eoSession)
 have F2 := rlen_map hA i2
 refine realM_args (args1 := [.ow 17 x_r, .int .i64 k]) (by subst i2; rfl) rfl ?_
 have h2 : (List.length x : Int) ≤ 1099511627776 := by have := cnSessionS_ge x; omega
 refine realM tyOk Tryz.func37 (by kernel_rfl) (afunM_of rfl (by cbv) (fun hv => ?_))
 refine gs (gB (ra hA 1 (by cbv) (oz ?_)))
 refine gs (gs (gB (ra hA 1 (by cbv) (oz ?_))))
 refine go_block ?_
 refine go_loopE (fun σ m => ∃ (i : Nat) (ro : RR) (n5 : Int) (kk : Int), σ = (S37_1 hv kk n5 ro) ∧ (n5 = (i : Int) ∧ i ≤ List.length x ∧ kk = k + cnSessionS (x.take i) ∧ ro = List.map eoSession (mkSessionS k (x.take i) ++ x.drop i)) ∧ m = List.length x - i) _ [] [0, 1, 5] [1000000000] (S37_1 hv k 0 x_r) rfl (by cbv) ⟨0, x_r, 0, k, rfl, ?_, rfl⟩ (fun σ m hI => ?_)
 ·
  exact ⟨rfl, Nat.zero_le _, by simp [cnSessionS], i2⟩
 obtain ⟨i, ro, n5, kk, rfl, ⟨hn5, hi, hkk, hro⟩, rfl⟩ := hI
 have hlro : (List.length ro : Int) = List.length x := by
  rw [hro]; simp only [List.length_map, List.length_append, mkSessionS_len, List.length_take, List.length_drop]; omega
 have lro : A.rlen ro = (List.length x : Int) := by
  rw [rlen_map hA hro]; simp only [List.length_append, mkSessionS_len, List.length_take, List.length_drop]; omega
 refine gs (gs (gB (ra hA 4 (by cbv) (oz ?_))))
 refine go_cond rfl (fun c1 => ?_) (fun c1 => ?_)
 ·
  have ec1 : n5 < (A.rlen ro) := lss_t hA c1
  refine gk (gs ?_)
  refine go_block ?_
  refine gs ?_
  have h05 : (0 : Int) ≤ n5 := by omega
  have hlt : Int.toNat n5 < List.length x := by omega
  obtain ⟨y, hy⟩ : ∃ y, x[Int.toNat n5]? = some y := ⟨_, List.getElem?_eq_getElem hlt⟩
  have hyi : x[i]? = some y := by have h := hy; rw [hn5] at h; exact h
  have cat := cnSessionS_at hyi
  have cle := cnSessionS_le x (i + 1)
  have cnn := cnSessionS_nn (x.take i)
  have cce : ceSession y = _ := rfl
  have s3 : ro = List.map eoSession (mkSessionS k (x.take i) ++ y :: x.drop (i + 1)) := by
   rw [hro, ← drop_at hyi]
  have v1 : ro[Int.toNat n5]? = some (eoSession y) := by
   rw [s3, hn5]; exact mark_get (by rw [mkSessionS_len, List.length_take]; omega)
  obtain ⟨g2, f5, d0, c7, ⟨b5, b4, c9, c6⟩, ⟨a8, a7, c4, c5⟩, ⟨a3, a4, a6, a1, c8⟩⟩ := y
  obtain ⟨b3, d6⟩ := nm (c9.map eString)
  have p3 := rlen_map hA d6
  obtain ⟨a9, d4⟩ := nm (c6.map eString)
  have l0 := rlen_map hA d4
  obtain ⟨a5, d2⟩ := nm (c4.map eoMail)
  have j3 := rlen_map hA d2
  obtain ⟨a2, d3⟩ := nm (c5.map eBool)
  have m2 := rlen_map hA d3
  obtain ⟨a0, d5⟩ := nm (c8.map eInt)
  have o6 := rlen_map hA d5
  have hzro : ro[Int.toNat n5]? = some [.int .i64 g2, .str f5, .str d0, .bool c7, .int .i64 b5, .str b4, .ow 1 b3, .ow 1 a9, .int .i64 a8, .str a7, .ow 3 a5, .ow 1 a2, .int .i64 a3, .str a4, .str a6, .int .i64 a1, .ow 1 a0] := by subst d6 d4 d2 d3 d5; exact v1
  have f6 := cnStringS_nn c9
  have d9 := cnStringS_nn c6
  have d7 := cnMailS_nn c4
  have d8 := cnBoolS_nn c5
  have f0 := cnIntS_nn c8
  have cce : ceSession (⟨g2, f5, d0, c7, ⟨b5, b4, c9, c6⟩, ⟨a8, a7, c4, c5⟩, ⟨a3, a4, a6, a1, c8⟩⟩ : GSession) = 1 + 1 + 1 + 1 + 1 + 1 + cnStringS c9 + cnStringS c6 + 1 + 1 + cnMailS c4 + cnBoolS c5 + 1 + 1 + 1 + 1 + cnIntS c8 := rfl
  obtain ⟨r17, f7, e17⟩ : ∃ r : Int, r = 0 ∧ 0 ≤ r := ⟨0, rfl, by decide⟩
  obtain ⟨r16, f2, e16⟩ : ∃ r : Int, r = cnIntS c8 + r17 ∧ 0 ≤ r := ⟨_, rfl, nn_add f0 e17⟩
  obtain ⟨r15, g1, e15⟩ : ∃ r : Int, r = 1 + r16 ∧ 0 ≤ r := ⟨_, rfl, nn_add (by decide) e16⟩
  obtain ⟨r14, f8, e14⟩ : ∃ r : Int, r = 1 + r15 ∧ 0 ≤ r := ⟨_, rfl, nn_add (by decide) e15⟩
  obtain ⟨r13, g0, e13⟩ : ∃ r : Int, r = 1 + r14 ∧ 0 ≤ r := ⟨_, rfl, nn_add (by decide) e14⟩
  obtain ⟨r12, f9, e12⟩ : ∃ r : Int, r = 1 + r13 ∧ 0 ≤ r := ⟨_, rfl, nn_add (by decide) e13⟩
  obtain ⟨r11, f3, e11⟩ : ∃ r : Int, r = cnBoolS c5 + r12 ∧ 0 ≤ r := ⟨_, rfl, nn_add d8 e12⟩
  obtain ⟨r10, f4, e10⟩ : ∃ r : Int, r = cnMailS c4 + r11 ∧ 0 ≤ r := ⟨_, rfl, nn_add d7 e11⟩
  obtain ⟨r9, hr9, e9⟩ : ∃ r : Int, r = 1 + r10 ∧ 0 ≤ r := ⟨_, rfl, nn_add (by decide) e10⟩
  obtain ⟨r8, hr8, e8⟩ : ∃ r : Int, r = 1 + r9 ∧ 0 ≤ r := ⟨_, rfl, nn_add (by decide) e9⟩
  obtain ⟨r7, hr7, e7⟩ : ∃ r : Int, r = cnStringS c6 + r8 ∧ 0 ≤ r := ⟨_, rfl, nn_add d9 e8⟩
  obtain ⟨r6, hr6, e6⟩ : ∃ r : Int, r = cnStringS c9 + r7 ∧ 0 ≤ r := ⟨_, rfl, nn_add f6 e7⟩
  obtain ⟨r5, hr5, e5⟩ : ∃ r : Int, r = 1 + r6 ∧ 0 ≤ r := ⟨_, rfl, nn_add (by decide) e6⟩
  obtain ⟨r4, hr4, e4⟩ : ∃ r : Int, r = 1 + r5 ∧ 0 ≤ r := ⟨_, rfl, nn_add (by decide) e5⟩
  obtain ⟨r3, hr3, e3⟩ : ∃ r : Int, r = 1 + r4 ∧ 0 ≤ r := ⟨_, rfl, nn_add (by decide) e4⟩
  obtain ⟨r2, hr2, e2⟩ : ∃ r : Int, r = 1 + r3 ∧ 0 ≤ r := ⟨_, rfl, nn_add (by decide) e3⟩
  obtain ⟨r1, hr1, e1⟩ : ∃ r : Int, r = 1 + r2 ∧ 0 ≤ r := ⟨_, rfl, nn_add (by decide) e2⟩
  obtain ⟨r0, hr0, e0⟩ : ∃ r : Int, r = 1 + r1 ∧ 0 ≤ r := ⟨_, rfl, nn_add (by decide) e1⟩
  have p0 : 0 ≤ kk := by clear f7 e17 f2 e16 g1 e15 f8 e14 g0 e13 f9 e12 f3 e11 f4 e10 hr9 e9 hr8 e8 hr7 e7 hr6 e6 hr5 e5 hr4 e4 hr3 e3 hr2 e2 hr1 e1 hr0 e0; omega
  have hrce : r0 = ceSession (⟨g2, f5, d0, c7, ⟨b5, b4, c9, c6⟩, ⟨a8, a7, c4, c5⟩, ⟨a3, a4, a6, a1, c8⟩⟩ : GSession) := by subst f7 f2 g1 f8 g0 f9 f3 f4 hr9 hr8 hr7 hr6 hr5 hr4 hr3 hr2 hr1 hr0; rw [cce]; omega
  have q0 : kk + r0 ≤ 1099511627776 ∧ kk + r0 = kk + r0 := ⟨by clear f7 e17 f2 e16 g1 e15 f8 e14 g0 e13 f9 e12 f3 e11 f4 e10 hr9 e9 hr8 e8 hr7 e7 hr6 e6 hr5 e5 hr4 e4 hr3 e3 hr2 e2 hr1 e1 hr0 e0; omega, rfl⟩
  have d1 : n5 < (List.length x : Int) := by clear f7 e17 f2 e16 g1 e15 f8 e14 g0 e13 f9 e12 f3 e11 f4 e10 hr9 e9 hr8 e8 hr7 e7 hr6 e6 hr5 e5 hr4 e4 hr3 e3 hr2 e2 hr1 e1 hr0 e0; omega
  have hi1 : i + 1 ≤ List.length x := by clear f7 e17 f2 e16 g1 e15 f8 e14 g0 e13 f9 e12 f3 e11 f4 e10 hr9 e9 hr8 e8 hr7 e7 hr6 e6 hr5 e5 hr4 e4 hr3 e3 hr2 e2 hr1 e1 hr0 e0; omega
  have B7 : A.num .add .i64 n5 1 = ((i + 1 : Nat) : Int) := by
   clear f7 e17 f2 e16 g1 e15 f8 e14 g0 e13 f9 e12 f3 e11 f4 e10 hr9 e9 hr8 e8 hr7 e7 hr6 e6 hr5 e5 hr4 e4 hr3 e3 hr2 e2 hr1 e1 hr0 e0; rw [add_i64 hA (by omega) (by omega)]; omega
  have hlen : i = List.length (mkSessionS k (x.take i)) := by rw [mkSessionS_len, List.length_take]; clear f7 e17 f2 e16 g1 e15 f8 e14 g0 e13 f9 e12 f3 e11 f4 e10 hr9 e9 hr8 e8 hr7 e7 hr6 e6 hr5 e5 hr4 e4 hr3 e3 hr2 e2 hr1 e1 hr0 e0; omega
  have hdec : List.length x - (i + 1) < List.length x - i := by clear f7 e17 f2 e16 g1 e15 f8 e14 g0 e13 f9 e12 f3 e11 f4 e10 hr9 e9 hr8 e8 hr7 e7 hr6 e6 hr5 e5 hr4 e4 hr3 e3 hr2 e2 hr1 e1 hr0 e0; omega
  refine gB (ra hA 3 (by cbv) ?_)
  have C5 : n5 < (List.length ro : Int) := by rw [hlro]; exact d1
  refine ops_step rfl rfl (idx_own rfl rfl rfl rfl rfl rfl h05 C5 rfl) ?_
  refine ra hA 1 (by cbv) ?_
  obtain ⟨o3, ho3⟩ := nm (ro.set (Int.toNat n5) [.int .i64 kk, .str f5, .str d0, .bool c7, .int .i64 b5, .str b4, .ow 1 b3, .ow 1 a9, .int .i64 a8, .str a7, .ow 3 a5, .ow 1 a2, .int .i64 a3, .str a4, .str a6, .int .i64 a1, .ow 1 a0])
  have go3 : o3 = ro.set (Int.toNat n5) [.int .i64 kk, .str f5, .str d0, .bool c7, .int .i64 b5, .str b4, .ow 1 b3, .ow 1 a9, .int .i64 a8, .str a7, .ow 3 a5, .ow 1 a2, .int .i64 a3, .str a4, .str a6, .int .i64 a1, .ow 1 a0] := ho3
  have q3 : (List.length o3 : Int) = List.length x := by rw [go3, List.length_set]; exact hlro
  have u3 : o3[(Int.toNat n5)]? = some [.int .i64 kk, .str f5, .str d0, .bool c7, .int .i64 b5, .str b4, .ow 1 b3, .ow 1 a9, .int .i64 a8, .str a7, .ow 3 a5, .ow 1 a2, .int .i64 a3, .str a4, .str a6, .int .i64 a1, .ow 1 a0] := by rw [go3]; exact set_self hzro
  have B6 : o3 = ro.set (Int.toNat n5) [.int .i64 kk, .str f5, .str d0, .bool c7, .int .i64 b5, .str b4, .ow 1 b3, .ow 1 a9, .int .i64 a8, .str a7, .ow 3 a5, .ow 1 a2, .int .i64 a3, .str a4, .str a6, .int .i64 a1, .ow 1 a0] := go3
  refine ops_step rfl rfl (sto_arr (r := [.int .i64 g2, .str f5, .str d0, .bool c7, .int .i64 b5, .str b4, .ow 1 b3, .ow 1 a9, .int .i64 a8, .str a7, .ow 3 a5, .ow 1 a2, .int .i64 a3, .str a4, .str a6, .int .i64 a1, .ow 1 a0]) (cs := [.int .i64 kk]) rfl rfl rfl rfl rfl ⟨_, _, rfl⟩ rfl rfl hzro rfl ho3) ?_
  refine oz ?_
  refine gs (gB (ra hA 1 (by cbv) ?_))
  obtain ⟨k4, wk4, D7, pk4, qk4⟩ := add_one hA p0 q0 hr0 e1
  refine ops_step rfl rfl (int_add hA rfl rfl rfl D7) ?_
  refine ra hA 1 (by cbv) (oz ?_)
  refine gs (gB (ra hA 3 (by cbv) ?_))
  obtain ⟨b1, t1, hc6⟩ : ∃ (b1 : ByteArray), b1 = (mt k4) ∧ Real Tryz.prog 71 [.int .i64 k4] (.str b1) := ⟨_, rfl, by exact r_laws_markText A hA k4 pk4 (le_k qk4 e1)⟩
  refine ops_callV rfl rfl (by cbv) (by cbv) hc6 (.inr rfl) (by cbv) ?_
  have C9 : n5 < (List.length o3 : Int) := by rw [q3]; exact d1
  refine ops_step rfl rfl (idx_own rfl rfl rfl rfl rfl rfl h05 C9 rfl) ?_
  refine ra hA 1 (by cbv) ?_
  obtain ⟨o8, ho8⟩ := nm (o3.set (Int.toNat n5) [.int .i64 kk, .str b1, .str d0, .bool c7, .int .i64 b5, .str b4, .ow 1 b3, .ow 1 a9, .int .i64 a8, .str a7, .ow 3 a5, .ow 1 a2, .int .i64 a3, .str a4, .str a6, .int .i64 a1, .ow 1 a0])
  have go8 : o8 = o3.set (Int.toNat n5) [.int .i64 kk, .str b1, .str d0, .bool c7, .int .i64 b5, .str b4, .ow 1 b3, .ow 1 a9, .int .i64 a8, .str a7, .ow 3 a5, .ow 1 a2, .int .i64 a3, .str a4, .str a6, .int .i64 a1, .ow 1 a0] := ho8
  have s2 : (List.length o8 : Int) = List.length x := by rw [go8, List.length_set]; exact q3
  have q2 : o8[(Int.toNat n5)]? = some [.int .i64 kk, .str b1, .str d0, .bool c7, .int .i64 b5, .str b4, .ow 1 b3, .ow 1 a9, .int .i64 a8, .str a7, .ow 3 a5, .ow 1 a2, .int .i64 a3, .str a4, .str a6, .int .i64 a1, .ow 1 a0] := by rw [go8]; exact set_self u3
  have B5 : o8 = ro.set (Int.toNat n5) [.int .i64 kk, .str b1, .str d0, .bool c7, .int .i64 b5, .str b4, .ow 1 b3, .ow 1 a9, .int .i64 a8, .str a7, .ow 3 a5, .ow 1 a2, .int .i64 a3, .str a4, .str a6, .int .i64 a1, .ow 1 a0] := by rw [go8, B6, List.set_set]
  refine ops_step rfl rfl (sto_arr (r := [.int .i64 kk, .str f5, .str d0, .bool c7, .int .i64 b5, .str b4, .ow 1 b3, .ow 1 a9, .int .i64 a8, .str a7, .ow 3 a5, .ow 1 a2, .int .i64 a3, .str a4, .str a6, .int .i64 a1, .ow 1 a0]) (cs := [.str b1]) rfl rfl rfl rfl rfl ⟨_, _, rfl⟩ rfl rfl u3 rfl ho8) ?_
  refine oz ?_
  refine gs (gB (ra hA 1 (by cbv) ?_))
  obtain ⟨k9, wk9, C2, pk9, qk9⟩ := add_one hA pk4 qk4 hr1 e2
  refine ops_step rfl rfl (int_add hA rfl rfl rfl C2) ?_
  refine ra hA 1 (by cbv) (oz ?_)
  refine gs (gB (ra hA 3 (by cbv) ?_))
  obtain ⟨b0, o5, E1⟩ : ∃ (b0 : ByteArray), b0 = (mt k9) ∧ Real Tryz.prog 71 [.int .i64 k9] (.str b0) := ⟨_, rfl, by exact r_laws_markText A hA k9 pk9 (le_k qk9 e2)⟩
  refine ops_callV rfl rfl (by cbv) (by cbv) E1 (.inr rfl) (by cbv) ?_
  have y7 : n5 < (List.length o8 : Int) := by rw [s2]; exact d1
  refine ops_step rfl rfl (idx_own rfl rfl rfl rfl rfl rfl h05 y7 rfl) ?_
  refine ra hA 1 (by cbv) ?_
  obtain ⟨o13, s1⟩ := nm (o8.set (Int.toNat n5) [.int .i64 kk, .str b1, .str b0, .bool c7, .int .i64 b5, .str b4, .ow 1 b3, .ow 1 a9, .int .i64 a8, .str a7, .ow 3 a5, .ow 1 a2, .int .i64 a3, .str a4, .str a6, .int .i64 a1, .ow 1 a0])
  have i1 : o13 = o8.set (Int.toNat n5) [.int .i64 kk, .str b1, .str b0, .bool c7, .int .i64 b5, .str b4, .ow 1 b3, .ow 1 a9, .int .i64 a8, .str a7, .ow 3 a5, .ow 1 a2, .int .i64 a3, .str a4, .str a6, .int .i64 a1, .ow 1 a0] := s1
  have n4 : (List.length o13 : Int) = List.length x := by rw [i1, List.length_set]; exact s2
  have n7 : o13[(Int.toNat n5)]? = some [.int .i64 kk, .str b1, .str b0, .bool c7, .int .i64 b5, .str b4, .ow 1 b3, .ow 1 a9, .int .i64 a8, .str a7, .ow 3 a5, .ow 1 a2, .int .i64 a3, .str a4, .str a6, .int .i64 a1, .ow 1 a0] := by rw [i1]; exact set_self q2
  have z8 : o13 = ro.set (Int.toNat n5) [.int .i64 kk, .str b1, .str b0, .bool c7, .int .i64 b5, .str b4, .ow 1 b3, .ow 1 a9, .int .i64 a8, .str a7, .ow 3 a5, .ow 1 a2, .int .i64 a3, .str a4, .str a6, .int .i64 a1, .ow 1 a0] := by rw [i1, B5, List.set_set]
  refine ops_step rfl rfl (sto_arr (r := [.int .i64 kk, .str b1, .str d0, .bool c7, .int .i64 b5, .str b4, .ow 1 b3, .ow 1 a9, .int .i64 a8, .str a7, .ow 3 a5, .ow 1 a2, .int .i64 a3, .str a4, .str a6, .int .i64 a1, .ow 1 a0]) (cs := [.str b0]) rfl rfl rfl rfl rfl ⟨_, _, rfl⟩ rfl rfl q2 rfl s1) ?_
  refine oz ?_
  refine gs (gB (ra hA 1 (by cbv) ?_))
  obtain ⟨k14, C0, z7, C6, B3⟩ := add_one hA pk9 qk9 hr2 e3
  refine ops_step rfl rfl (int_add hA rfl rfl rfl z7) ?_
  refine ra hA 1 (by cbv) (oz ?_)
  refine gs (gB (ra hA 5 (by cbv) ?_))
  have w4 : n5 < (List.length o13 : Int) := by rw [n4]; exact d1
  refine ops_step rfl rfl (idx_own rfl rfl rfl rfl rfl rfl h05 w4 rfl) ?_
  refine ra hA 1 (by cbv) ?_
  obtain ⟨o16, p4⟩ := nm (o13.set (Int.toNat n5) [.int .i64 kk, .str b1, .str b0, .bool (A.cmp .eql (A.num .rem .i64 k14 3) 0), .int .i64 b5, .str b4, .ow 1 b3, .ow 1 a9, .int .i64 a8, .str a7, .ow 3 a5, .ow 1 a2, .int .i64 a3, .str a4, .str a6, .int .i64 a1, .ow 1 a0])
  have j5 : o16 = o13.set (Int.toNat n5) [.int .i64 kk, .str b1, .str b0, .bool (A.cmp .eql (A.num .rem .i64 k14 3) 0), .int .i64 b5, .str b4, .ow 1 b3, .ow 1 a9, .int .i64 a8, .str a7, .ow 3 a5, .ow 1 a2, .int .i64 a3, .str a4, .str a6, .int .i64 a1, .ow 1 a0] := p4
  have l8 : (List.length o16 : Int) = List.length x := by rw [j5, List.length_set]; exact n4
  have k8 : o16[(Int.toNat n5)]? = some [.int .i64 kk, .str b1, .str b0, .bool (A.cmp .eql (A.num .rem .i64 k14 3) 0), .int .i64 b5, .str b4, .ow 1 b3, .ow 1 a9, .int .i64 a8, .str a7, .ow 3 a5, .ow 1 a2, .int .i64 a3, .str a4, .str a6, .int .i64 a1, .ow 1 a0] := by rw [j5]; exact set_self n7
  have z0 : o16 = ro.set (Int.toNat n5) [.int .i64 kk, .str b1, .str b0, .bool (A.cmp .eql (A.num .rem .i64 k14 3) 0), .int .i64 b5, .str b4, .ow 1 b3, .ow 1 a9, .int .i64 a8, .str a7, .ow 3 a5, .ow 1 a2, .int .i64 a3, .str a4, .str a6, .int .i64 a1, .ow 1 a0] := by rw [j5, z8, List.set_set]
  refine ops_step rfl rfl (sto_arr (r := [.int .i64 kk, .str b1, .str b0, .bool c7, .int .i64 b5, .str b4, .ow 1 b3, .ow 1 a9, .int .i64 a8, .str a7, .ow 3 a5, .ow 1 a2, .int .i64 a3, .str a4, .str a6, .int .i64 a1, .ow 1 a0]) (cs := [.bool (A.cmp .eql (A.num .rem .i64 k14 3) 0)]) rfl rfl rfl rfl rfl ⟨_, _, rfl⟩ rfl rfl n7 rfl p4) ?_
  refine oz ?_
  refine gs (gB (ra hA 1 (by cbv) ?_))
  obtain ⟨k17, E0, y4, D4, D1⟩ := add_one hA C6 B3 hr3 e4
  refine ops_step rfl rfl (int_add hA rfl rfl rfl y4) ?_
  refine ra hA 1 (by cbv) (oz ?_)
  refine gs (gB (ra hA 3 (by cbv) ?_))
  have x4 : n5 < (List.length o16 : Int) := by rw [l8]; exact d1
  refine ops_step rfl rfl (idx_own rfl rfl rfl rfl rfl rfl h05 x4 rfl) ?_
  refine ra hA 2 (by cbv) ?_
  obtain ⟨o19, t0⟩ := nm (o16.set (Int.toNat n5) [.int .i64 kk, .str b1, .str b0, .bool (A.cmp .eql (A.num .rem .i64 k14 3) 0), .int .i64 k17, .str b4, .ow 1 b3, .ow 1 a9, .int .i64 a8, .str a7, .ow 3 a5, .ow 1 a2, .int .i64 a3, .str a4, .str a6, .int .i64 a1, .ow 1 a0])
  have j1 : o19 = o16.set (Int.toNat n5) [.int .i64 kk, .str b1, .str b0, .bool (A.cmp .eql (A.num .rem .i64 k14 3) 0), .int .i64 k17, .str b4, .ow 1 b3, .ow 1 a9, .int .i64 a8, .str a7, .ow 3 a5, .ow 1 a2, .int .i64 a3, .str a4, .str a6, .int .i64 a1, .ow 1 a0] := t0
  have l5 : (List.length o19 : Int) = List.length x := by rw [j1, List.length_set]; exact l8
  have m7 : o19[(Int.toNat n5)]? = some [.int .i64 kk, .str b1, .str b0, .bool (A.cmp .eql (A.num .rem .i64 k14 3) 0), .int .i64 k17, .str b4, .ow 1 b3, .ow 1 a9, .int .i64 a8, .str a7, .ow 3 a5, .ow 1 a2, .int .i64 a3, .str a4, .str a6, .int .i64 a1, .ow 1 a0] := by rw [j1]; exact set_self k8
  have z3 : o19 = ro.set (Int.toNat n5) [.int .i64 kk, .str b1, .str b0, .bool (A.cmp .eql (A.num .rem .i64 k14 3) 0), .int .i64 k17, .str b4, .ow 1 b3, .ow 1 a9, .int .i64 a8, .str a7, .ow 3 a5, .ow 1 a2, .int .i64 a3, .str a4, .str a6, .int .i64 a1, .ow 1 a0] := by rw [j1, z0, List.set_set]
  refine ops_step rfl rfl (sto_arr (r := [.int .i64 kk, .str b1, .str b0, .bool (A.cmp .eql (A.num .rem .i64 k14 3) 0), .int .i64 b5, .str b4, .ow 1 b3, .ow 1 a9, .int .i64 a8, .str a7, .ow 3 a5, .ow 1 a2, .int .i64 a3, .str a4, .str a6, .int .i64 a1, .ow 1 a0]) (cs := [.int .i64 k17]) rfl rfl rfl rfl rfl ⟨_, _, rfl⟩ rfl rfl k8 rfl t0) ?_
  refine oz ?_
  refine gs (gB (ra hA 1 (by cbv) ?_))
  obtain ⟨k20, D3, z6, u0, s6⟩ := add_one hA D4 D1 hr4 e5
  refine ops_step rfl rfl (int_add hA rfl rfl rfl z6) ?_
  refine ra hA 1 (by cbv) (oz ?_)
  refine gs (gB (ra hA 3 (by cbv) ?_))
  obtain ⟨b2, o7, E2⟩ : ∃ (b2 : ByteArray), b2 = (mt k20) ∧ Real Tryz.prog 71 [.int .i64 k20] (.str b2) := ⟨_, rfl, by exact r_laws_markText A hA k20 u0 (le_k s6 e5)⟩
  refine ops_callV rfl rfl (by cbv) (by cbv) E2 (.inr rfl) (by cbv) ?_
  have w7 : n5 < (List.length o19 : Int) := by rw [l5]; exact d1
  refine ops_step rfl rfl (idx_own rfl rfl rfl rfl rfl rfl h05 w7 rfl) ?_
  refine ra hA 2 (by cbv) ?_
  obtain ⟨o24, t5⟩ := nm (o19.set (Int.toNat n5) [.int .i64 kk, .str b1, .str b0, .bool (A.cmp .eql (A.num .rem .i64 k14 3) 0), .int .i64 k17, .str b2, .ow 1 b3, .ow 1 a9, .int .i64 a8, .str a7, .ow 3 a5, .ow 1 a2, .int .i64 a3, .str a4, .str a6, .int .i64 a1, .ow 1 a0])
  have j8 : o24 = o19.set (Int.toNat n5) [.int .i64 kk, .str b1, .str b0, .bool (A.cmp .eql (A.num .rem .i64 k14 3) 0), .int .i64 k17, .str b2, .ow 1 b3, .ow 1 a9, .int .i64 a8, .str a7, .ow 3 a5, .ow 1 a2, .int .i64 a3, .str a4, .str a6, .int .i64 a1, .ow 1 a0] := t5
  have o4 : (List.length o24 : Int) = List.length x := by rw [j8, List.length_set]; exact l5
  have n9 : o24[(Int.toNat n5)]? = some [.int .i64 kk, .str b1, .str b0, .bool (A.cmp .eql (A.num .rem .i64 k14 3) 0), .int .i64 k17, .str b2, .ow 1 b3, .ow 1 a9, .int .i64 a8, .str a7, .ow 3 a5, .ow 1 a2, .int .i64 a3, .str a4, .str a6, .int .i64 a1, .ow 1 a0] := by rw [j8]; exact set_self m7
  have x8 : o24 = ro.set (Int.toNat n5) [.int .i64 kk, .str b1, .str b0, .bool (A.cmp .eql (A.num .rem .i64 k14 3) 0), .int .i64 k17, .str b2, .ow 1 b3, .ow 1 a9, .int .i64 a8, .str a7, .ow 3 a5, .ow 1 a2, .int .i64 a3, .str a4, .str a6, .int .i64 a1, .ow 1 a0] := by rw [j8, z3, List.set_set]
  refine ops_step rfl rfl (sto_arr (r := [.int .i64 kk, .str b1, .str b0, .bool (A.cmp .eql (A.num .rem .i64 k14 3) 0), .int .i64 k17, .str b4, .ow 1 b3, .ow 1 a9, .int .i64 a8, .str a7, .ow 3 a5, .ow 1 a2, .int .i64 a3, .str a4, .str a6, .int .i64 a1, .ow 1 a0]) (cs := [.str b2]) rfl rfl rfl rfl rfl ⟨_, _, rfl⟩ rfl rfl m7 rfl t5) ?_
  refine oz ?_
  refine gs (gB (ra hA 1 (by cbv) ?_))
  obtain ⟨k25, D0, u6, q1, s7⟩ := add_one hA u0 s6 hr5 e6
  refine ops_step rfl rfl (int_add hA rfl rfl rfl u6) ?_
  refine ra hA 1 (by cbv) (oz ?_)
  refine gs (gB (ra hA 2 (by cbv) ?_))
  have w0 : n5 < (List.length o24 : Int) := by rw [o4]; exact d1
  refine ops_step rfl rfl (idx_own rfl rfl rfl rfl rfl rfl h05 w0 rfl) ?_
  refine ra hA 2 (by cbv) ?_
  refine ops_nestR rfl rfl rfl rfl rfl rfl rfl n9 rfl rfl (fun w28 o27 E3 => ?_)
  have i5 : o27 = o24.set (Int.toNat n5) [.int .i64 kk, .str b1, .str b0, .bool (A.cmp .eql (A.num .rem .i64 k14 3) 0), .int .i64 k17, .str b2, .raw w28, .ow 1 a9, .int .i64 a8, .str a7, .ow 3 a5, .ow 1 a2, .int .i64 a3, .str a4, .str a6, .int .i64 a1, .ow 1 a0] := E3
  have w6 : (List.length o27 : Int) = List.length x := by rw [i5, List.length_set]; exact o4
  have m1 : o27[(Int.toNat n5)]? = some [.int .i64 kk, .str b1, .str b0, .bool (A.cmp .eql (A.num .rem .i64 k14 3) 0), .int .i64 k17, .str b2, .raw w28, .ow 1 a9, .int .i64 a8, .str a7, .ow 3 a5, .ow 1 a2, .int .i64 a3, .str a4, .str a6, .int .i64 a1, .ow 1 a0] := by rw [i5]; exact set_self n9
  have y1 : o27 = ro.set (Int.toNat n5) [.int .i64 kk, .str b1, .str b0, .bool (A.cmp .eql (A.num .rem .i64 k14 3) 0), .int .i64 k17, .str b2, .raw w28, .ow 1 a9, .int .i64 a8, .str a7, .ow 3 a5, .ow 1 a2, .int .i64 a3, .str a4, .str a6, .int .i64 a1, .ow 1 a0] := by rw [i5, x8, List.set_set]
  refine ra hA 1 (by cbv) ?_
  obtain ⟨b6, m29, g8, q5, u5⟩ : ∃ (b6 : RR) (m29 : Int), b6 = List.map eString (mkStringS k25 c9) ∧ m29 = k25 + cnStringS c9 ∧ RealM Tryz.prog 72 [.ow 1 b3, .int .i64 k25] [.ow 1 b6, .int .i64 k25] (.int .i64 m29) := ⟨_, _, rfl, rfl, by subst d6; exact m_laws_markStringS A hA c9 k25 q1 (le_cn s7 hr6 e7)⟩
  have E8 := rlen_map hA g8
  have g3 := add_cn q5 q1 s7 hr6 f6
  refine ops_callM rfl (by cbv) (by cbv) (by cbv) u5 rfl (by cbv) ?_
  refine ra hA 1 (by cbv) ?_
  obtain ⟨o30, t8⟩ := nm (o27.set (Int.toNat n5) [.int .i64 kk, .str b1, .str b0, .bool (A.cmp .eql (A.num .rem .i64 k14 3) 0), .int .i64 k17, .str b2, .ow 1 b6, .ow 1 a9, .int .i64 a8, .str a7, .ow 3 a5, .ow 1 a2, .int .i64 a3, .str a4, .str a6, .int .i64 a1, .ow 1 a0])
  have i8 : o30 = o27.set (Int.toNat n5) [.int .i64 kk, .str b1, .str b0, .bool (A.cmp .eql (A.num .rem .i64 k14 3) 0), .int .i64 k17, .str b2, .ow 1 b6, .ow 1 a9, .int .i64 a8, .str a7, .ow 3 a5, .ow 1 a2, .int .i64 a3, .str a4, .str a6, .int .i64 a1, .ow 1 a0] := t8
  have m0 : (List.length o30 : Int) = List.length x := by rw [i8, List.length_set]; exact w6
  have o2 : o30[(Int.toNat n5)]? = some [.int .i64 kk, .str b1, .str b0, .bool (A.cmp .eql (A.num .rem .i64 k14 3) 0), .int .i64 k17, .str b2, .ow 1 b6, .ow 1 a9, .int .i64 a8, .str a7, .ow 3 a5, .ow 1 a2, .int .i64 a3, .str a4, .str a6, .int .i64 a1, .ow 1 a0] := by rw [i8]; exact set_self m1
  have x9 : o30 = ro.set (Int.toNat n5) [.int .i64 kk, .str b1, .str b0, .bool (A.cmp .eql (A.num .rem .i64 k14 3) 0), .int .i64 k17, .str b2, .ow 1 b6, .ow 1 a9, .int .i64 a8, .str a7, .ow 3 a5, .ow 1 a2, .int .i64 a3, .str a4, .str a6, .int .i64 a1, .ow 1 a0] := by rw [i8, y1, List.set_set]
  refine ops_doneB (tweak_backR (D := 66) (d := 1000000000) (i := (Int.toNat n5)) (j := 6) rfl rfl rfl m1 rfl (by decide) t8 rfl) ?_
  refine gs (gB (ra hA 2 (by cbv) ?_))
  have y8 : n5 < (List.length o30 : Int) := by rw [m0]; exact d1
  refine ops_step rfl rfl (idx_own rfl rfl rfl rfl rfl rfl h05 y8 rfl) ?_
  refine ra hA 2 (by cbv) ?_
  refine ops_nestR rfl rfl rfl rfl rfl rfl rfl o2 rfl rfl (fun w33 o32 D6 => ?_)
  have i9 : o32 = o30.set (Int.toNat n5) [.int .i64 kk, .str b1, .str b0, .bool (A.cmp .eql (A.num .rem .i64 k14 3) 0), .int .i64 k17, .str b2, .ow 1 b6, .raw w33, .int .i64 a8, .str a7, .ow 3 a5, .ow 1 a2, .int .i64 a3, .str a4, .str a6, .int .i64 a1, .ow 1 a0] := D6
  have v8 : (List.length o32 : Int) = List.length x := by rw [i9, List.length_set]; exact m0
  have m6 : o32[(Int.toNat n5)]? = some [.int .i64 kk, .str b1, .str b0, .bool (A.cmp .eql (A.num .rem .i64 k14 3) 0), .int .i64 k17, .str b2, .ow 1 b6, .raw w33, .int .i64 a8, .str a7, .ow 3 a5, .ow 1 a2, .int .i64 a3, .str a4, .str a6, .int .i64 a1, .ow 1 a0] := by rw [i9]; exact set_self o2
  have w9 : o32 = ro.set (Int.toNat n5) [.int .i64 kk, .str b1, .str b0, .bool (A.cmp .eql (A.num .rem .i64 k14 3) 0), .int .i64 k17, .str b2, .ow 1 b6, .raw w33, .int .i64 a8, .str a7, .ow 3 a5, .ow 1 a2, .int .i64 a3, .str a4, .str a6, .int .i64 a1, .ow 1 a0] := by rw [i9, x9, List.set_set]
  refine ra hA 1 (by cbv) ?_
  obtain ⟨b8, m34, g5, s4, x3⟩ : ∃ (b8 : RR) (m34 : Int), b8 = List.map eString (mkStringS m29 c6) ∧ m34 = m29 + cnStringS c6 ∧ RealM Tryz.prog 72 [.ow 1 a9, .int .i64 m29] [.ow 1 b8, .int .i64 m29] (.int .i64 m34) := ⟨_, _, rfl, rfl, by subst d4; exact m_laws_markStringS A hA c6 m29 g3.1 (le_cn g3.2 hr7 e8)⟩
  have E9 := rlen_map hA g5
  have l9 := add_cn s4 g3.1 g3.2 hr7 d9
  refine ops_callM rfl (by cbv) (by cbv) (by cbv) x3 rfl (by cbv) ?_
  refine ra hA 1 (by cbv) ?_
  obtain ⟨o35, t6⟩ := nm (o32.set (Int.toNat n5) [.int .i64 kk, .str b1, .str b0, .bool (A.cmp .eql (A.num .rem .i64 k14 3) 0), .int .i64 k17, .str b2, .ow 1 b6, .ow 1 b8, .int .i64 a8, .str a7, .ow 3 a5, .ow 1 a2, .int .i64 a3, .str a4, .str a6, .int .i64 a1, .ow 1 a0])
  have j4 : o35 = o32.set (Int.toNat n5) [.int .i64 kk, .str b1, .str b0, .bool (A.cmp .eql (A.num .rem .i64 k14 3) 0), .int .i64 k17, .str b2, .ow 1 b6, .ow 1 b8, .int .i64 a8, .str a7, .ow 3 a5, .ow 1 a2, .int .i64 a3, .str a4, .str a6, .int .i64 a1, .ow 1 a0] := t6
  have n3 : (List.length o35 : Int) = List.length x := by rw [j4, List.length_set]; exact v8
  have l3 : o35[(Int.toNat n5)]? = some [.int .i64 kk, .str b1, .str b0, .bool (A.cmp .eql (A.num .rem .i64 k14 3) 0), .int .i64 k17, .str b2, .ow 1 b6, .ow 1 b8, .int .i64 a8, .str a7, .ow 3 a5, .ow 1 a2, .int .i64 a3, .str a4, .str a6, .int .i64 a1, .ow 1 a0] := by rw [j4]; exact set_self m6
  have v0 : o35 = ro.set (Int.toNat n5) [.int .i64 kk, .str b1, .str b0, .bool (A.cmp .eql (A.num .rem .i64 k14 3) 0), .int .i64 k17, .str b2, .ow 1 b6, .ow 1 b8, .int .i64 a8, .str a7, .ow 3 a5, .ow 1 a2, .int .i64 a3, .str a4, .str a6, .int .i64 a1, .ow 1 a0] := by rw [j4, w9, List.set_set]
  refine ops_doneB (tweak_backR (D := 74) (d := 1000000000) (i := (Int.toNat n5)) (j := 7) rfl rfl rfl m6 rfl (by decide) t6 rfl) ?_
  refine gs (gB (ra hA 3 (by cbv) ?_))
  have x0 : n5 < (List.length o35 : Int) := by rw [n3]; exact d1
  refine ops_step rfl rfl (idx_own rfl rfl rfl rfl rfl rfl h05 x0 rfl) ?_
  refine ra hA 2 (by cbv) ?_
  obtain ⟨o37, p7⟩ := nm (o35.set (Int.toNat n5) [.int .i64 kk, .str b1, .str b0, .bool (A.cmp .eql (A.num .rem .i64 k14 3) 0), .int .i64 k17, .str b2, .ow 1 b6, .ow 1 b8, .int .i64 m34, .str a7, .ow 3 a5, .ow 1 a2, .int .i64 a3, .str a4, .str a6, .int .i64 a1, .ow 1 a0])
  have i6 : o37 = o35.set (Int.toNat n5) [.int .i64 kk, .str b1, .str b0, .bool (A.cmp .eql (A.num .rem .i64 k14 3) 0), .int .i64 k17, .str b2, .ow 1 b6, .ow 1 b8, .int .i64 m34, .str a7, .ow 3 a5, .ow 1 a2, .int .i64 a3, .str a4, .str a6, .int .i64 a1, .ow 1 a0] := p7
  have n1 : (List.length o37 : Int) = List.length x := by rw [i6, List.length_set]; exact n3
  have n8 : o37[(Int.toNat n5)]? = some [.int .i64 kk, .str b1, .str b0, .bool (A.cmp .eql (A.num .rem .i64 k14 3) 0), .int .i64 k17, .str b2, .ow 1 b6, .ow 1 b8, .int .i64 m34, .str a7, .ow 3 a5, .ow 1 a2, .int .i64 a3, .str a4, .str a6, .int .i64 a1, .ow 1 a0] := by rw [i6]; exact set_self l3
  have v5 : o37 = ro.set (Int.toNat n5) [.int .i64 kk, .str b1, .str b0, .bool (A.cmp .eql (A.num .rem .i64 k14 3) 0), .int .i64 k17, .str b2, .ow 1 b6, .ow 1 b8, .int .i64 m34, .str a7, .ow 3 a5, .ow 1 a2, .int .i64 a3, .str a4, .str a6, .int .i64 a1, .ow 1 a0] := by rw [i6, v0, List.set_set]
  refine ops_step rfl rfl (sto_arr (r := [.int .i64 kk, .str b1, .str b0, .bool (A.cmp .eql (A.num .rem .i64 k14 3) 0), .int .i64 k17, .str b2, .ow 1 b6, .ow 1 b8, .int .i64 a8, .str a7, .ow 3 a5, .ow 1 a2, .int .i64 a3, .str a4, .str a6, .int .i64 a1, .ow 1 a0]) (cs := [.int .i64 m34]) rfl rfl rfl rfl rfl ⟨_, _, rfl⟩ rfl rfl l3 rfl p7) ?_
  refine oz ?_
  refine gs (gB (ra hA 1 (by cbv) ?_))
  obtain ⟨k38, E4, u7, p6, u2⟩ := add_one hA l9.1 l9.2 hr8 e9
  refine ops_step rfl rfl (int_add hA rfl rfl rfl u7) ?_
  refine ra hA 1 (by cbv) (oz ?_)
  refine gs (gB (ra hA 3 (by cbv) ?_))
  obtain ⟨b7, o9, B9⟩ : ∃ (b7 : ByteArray), b7 = (mt k38) ∧ Real Tryz.prog 71 [.int .i64 k38] (.str b7) := ⟨_, rfl, by exact r_laws_markText A hA k38 p6 (le_k u2 e9)⟩
  refine ops_callV rfl rfl (by cbv) (by cbv) B9 (.inr rfl) (by cbv) ?_
  have u8 : n5 < (List.length o37 : Int) := by rw [n1]; exact d1
  refine ops_step rfl rfl (idx_own rfl rfl rfl rfl rfl rfl h05 u8 rfl) ?_
  refine ra hA 2 (by cbv) ?_
  obtain ⟨o42, s8⟩ := nm (o37.set (Int.toNat n5) [.int .i64 kk, .str b1, .str b0, .bool (A.cmp .eql (A.num .rem .i64 k14 3) 0), .int .i64 k17, .str b2, .ow 1 b6, .ow 1 b8, .int .i64 m34, .str b7, .ow 3 a5, .ow 1 a2, .int .i64 a3, .str a4, .str a6, .int .i64 a1, .ow 1 a0])
  have i7 : o42 = o37.set (Int.toNat n5) [.int .i64 kk, .str b1, .str b0, .bool (A.cmp .eql (A.num .rem .i64 k14 3) 0), .int .i64 k17, .str b2, .ow 1 b6, .ow 1 b8, .int .i64 m34, .str b7, .ow 3 a5, .ow 1 a2, .int .i64 a3, .str a4, .str a6, .int .i64 a1, .ow 1 a0] := s8
  have l6 : (List.length o42 : Int) = List.length x := by rw [i7, List.length_set]; exact n1
  have m4 : o42[(Int.toNat n5)]? = some [.int .i64 kk, .str b1, .str b0, .bool (A.cmp .eql (A.num .rem .i64 k14 3) 0), .int .i64 k17, .str b2, .ow 1 b6, .ow 1 b8, .int .i64 m34, .str b7, .ow 3 a5, .ow 1 a2, .int .i64 a3, .str a4, .str a6, .int .i64 a1, .ow 1 a0] := by rw [i7]; exact set_self n8
  have z9 : o42 = ro.set (Int.toNat n5) [.int .i64 kk, .str b1, .str b0, .bool (A.cmp .eql (A.num .rem .i64 k14 3) 0), .int .i64 k17, .str b2, .ow 1 b6, .ow 1 b8, .int .i64 m34, .str b7, .ow 3 a5, .ow 1 a2, .int .i64 a3, .str a4, .str a6, .int .i64 a1, .ow 1 a0] := by rw [i7, v5, List.set_set]
  refine ops_step rfl rfl (sto_arr (r := [.int .i64 kk, .str b1, .str b0, .bool (A.cmp .eql (A.num .rem .i64 k14 3) 0), .int .i64 k17, .str b2, .ow 1 b6, .ow 1 b8, .int .i64 m34, .str a7, .ow 3 a5, .ow 1 a2, .int .i64 a3, .str a4, .str a6, .int .i64 a1, .ow 1 a0]) (cs := [.str b7]) rfl rfl rfl rfl rfl ⟨_, _, rfl⟩ rfl rfl n8 rfl s8) ?_
  refine oz ?_
  refine gs (gB (ra hA 1 (by cbv) ?_))
  obtain ⟨k43, C3, y5, u4, t9⟩ := add_one hA p6 u2 hr9 e10
  refine ops_step rfl rfl (int_add hA rfl rfl rfl y5) ?_
  refine ra hA 1 (by cbv) (oz ?_)
  refine gs (gB (ra hA 2 (by cbv) ?_))
  have z2 : n5 < (List.length o42 : Int) := by rw [l6]; exact d1
  refine ops_step rfl rfl (idx_own rfl rfl rfl rfl rfl rfl h05 z2 rfl) ?_
  refine ra hA 2 (by cbv) ?_
  refine ops_nestR rfl rfl rfl rfl rfl rfl rfl m4 rfl rfl (fun w46 o45 B2 => ?_)
  have j9 : o45 = o42.set (Int.toNat n5) [.int .i64 kk, .str b1, .str b0, .bool (A.cmp .eql (A.num .rem .i64 k14 3) 0), .int .i64 k17, .str b2, .ow 1 b6, .ow 1 b8, .int .i64 m34, .str b7, .raw w46, .ow 1 a2, .int .i64 a3, .str a4, .str a6, .int .i64 a1, .ow 1 a0] := B2
  have z5 : (List.length o45 : Int) = List.length x := by rw [j9, List.length_set]; exact l6
  have l2 : o45[(Int.toNat n5)]? = some [.int .i64 kk, .str b1, .str b0, .bool (A.cmp .eql (A.num .rem .i64 k14 3) 0), .int .i64 k17, .str b2, .ow 1 b6, .ow 1 b8, .int .i64 m34, .str b7, .raw w46, .ow 1 a2, .int .i64 a3, .str a4, .str a6, .int .i64 a1, .ow 1 a0] := by rw [j9]; exact set_self m4
  have y9 : o45 = ro.set (Int.toNat n5) [.int .i64 kk, .str b1, .str b0, .bool (A.cmp .eql (A.num .rem .i64 k14 3) 0), .int .i64 k17, .str b2, .ow 1 b6, .ow 1 b8, .int .i64 m34, .str b7, .raw w46, .ow 1 a2, .int .i64 a3, .str a4, .str a6, .int .i64 a1, .ow 1 a0] := by rw [j9, z9, List.set_set]
  refine ra hA 1 (by cbv) ?_
  obtain ⟨b9, m47, g7, s9, y2⟩ : ∃ (b9 : RR) (m47 : Int), b9 = List.map eoMail (mkMailS k43 c4) ∧ m47 = k43 + cnMailS c4 ∧ RealM Tryz.prog 73 [.ow 3 a5, .int .i64 k43] [.ow 3 b9, .int .i64 k43] (.int .i64 m47) := ⟨_, _, rfl, rfl, by subst d2; exact m_laws_markMailS A hA c4 k43 u4 (le_cn t9 f4 e11)⟩
  have E7 := rlen_map hA g7
  have g4 := add_cn s9 u4 t9 f4 d7
  refine ops_callM rfl (by cbv) (by cbv) (by cbv) y2 rfl (by cbv) ?_
  refine ra hA 1 (by cbv) ?_
  obtain ⟨o48, t7⟩ := nm (o45.set (Int.toNat n5) [.int .i64 kk, .str b1, .str b0, .bool (A.cmp .eql (A.num .rem .i64 k14 3) 0), .int .i64 k17, .str b2, .ow 1 b6, .ow 1 b8, .int .i64 m34, .str b7, .ow 3 b9, .ow 1 a2, .int .i64 a3, .str a4, .str a6, .int .i64 a1, .ow 1 a0])
  have j2 : o48 = o45.set (Int.toNat n5) [.int .i64 kk, .str b1, .str b0, .bool (A.cmp .eql (A.num .rem .i64 k14 3) 0), .int .i64 k17, .str b2, .ow 1 b6, .ow 1 b8, .int .i64 m34, .str b7, .ow 3 b9, .ow 1 a2, .int .i64 a3, .str a4, .str a6, .int .i64 a1, .ow 1 a0] := t7
  have o1 : (List.length o48 : Int) = List.length x := by rw [j2, List.length_set]; exact z5
  have o0 : o48[(Int.toNat n5)]? = some [.int .i64 kk, .str b1, .str b0, .bool (A.cmp .eql (A.num .rem .i64 k14 3) 0), .int .i64 k17, .str b2, .ow 1 b6, .ow 1 b8, .int .i64 m34, .str b7, .ow 3 b9, .ow 1 a2, .int .i64 a3, .str a4, .str a6, .int .i64 a1, .ow 1 a0] := by rw [j2]; exact set_self l2
  have v7 : o48 = ro.set (Int.toNat n5) [.int .i64 kk, .str b1, .str b0, .bool (A.cmp .eql (A.num .rem .i64 k14 3) 0), .int .i64 k17, .str b2, .ow 1 b6, .ow 1 b8, .int .i64 m34, .str b7, .ow 3 b9, .ow 1 a2, .int .i64 a3, .str a4, .str a6, .int .i64 a1, .ow 1 a0] := by rw [j2, y9, List.set_set]
  refine ops_doneB (tweak_backR (D := 99) (d := 1000000000) (i := (Int.toNat n5)) (j := 10) rfl rfl rfl l2 rfl (by decide) t7 rfl) ?_
  refine gs (gB (ra hA 2 (by cbv) ?_))
  have v4 : n5 < (List.length o48 : Int) := by rw [o1]; exact d1
  refine ops_step rfl rfl (idx_own rfl rfl rfl rfl rfl rfl h05 v4 rfl) ?_
  refine ra hA 2 (by cbv) ?_
  refine ops_nestR rfl rfl rfl rfl rfl rfl rfl o0 rfl rfl (fun w51 o50 C8 => ?_)
  have k2 : o50 = o48.set (Int.toNat n5) [.int .i64 kk, .str b1, .str b0, .bool (A.cmp .eql (A.num .rem .i64 k14 3) 0), .int .i64 k17, .str b2, .ow 1 b6, .ow 1 b8, .int .i64 m34, .str b7, .ow 3 b9, .raw w51, .int .i64 a3, .str a4, .str a6, .int .i64 a1, .ow 1 a0] := C8
  have v2 : (List.length o50 : Int) = List.length x := by rw [k2, List.length_set]; exact o1
  have m3 : o50[(Int.toNat n5)]? = some [.int .i64 kk, .str b1, .str b0, .bool (A.cmp .eql (A.num .rem .i64 k14 3) 0), .int .i64 k17, .str b2, .ow 1 b6, .ow 1 b8, .int .i64 m34, .str b7, .ow 3 b9, .raw w51, .int .i64 a3, .str a4, .str a6, .int .i64 a1, .ow 1 a0] := by rw [k2]; exact set_self o0
  have w2 : o50 = ro.set (Int.toNat n5) [.int .i64 kk, .str b1, .str b0, .bool (A.cmp .eql (A.num .rem .i64 k14 3) 0), .int .i64 k17, .str b2, .ow 1 b6, .ow 1 b8, .int .i64 m34, .str b7, .ow 3 b9, .raw w51, .int .i64 a3, .str a4, .str a6, .int .i64 a1, .ow 1 a0] := by rw [k2, v7, List.set_set]
  refine ra hA 1 (by cbv) ?_
  obtain ⟨c2, m52, g9, q4, w8⟩ : ∃ (c2 : RR) (m52 : Int), c2 = List.map eBool (mkBoolS m47 c5) ∧ m52 = m47 + cnBoolS c5 ∧ RealM Tryz.prog 74 [.ow 1 a2, .int .i64 m47] [.ow 1 c2, .int .i64 m47] (.int .i64 m52) := ⟨_, _, rfl, rfl, by subst d3; exact m_laws_markBoolS A hA c5 m47 g4.1 (le_cn g4.2 f3 e12)⟩
  have E5 := rlen_map hA g9
  have n6 := add_cn q4 g4.1 g4.2 f3 d8
  refine ops_callM rfl (by cbv) (by cbv) (by cbv) w8 rfl (by cbv) ?_
  refine ra hA 1 (by cbv) ?_
  obtain ⟨o53, q9⟩ := nm (o50.set (Int.toNat n5) [.int .i64 kk, .str b1, .str b0, .bool (A.cmp .eql (A.num .rem .i64 k14 3) 0), .int .i64 k17, .str b2, .ow 1 b6, .ow 1 b8, .int .i64 m34, .str b7, .ow 3 b9, .ow 1 c2, .int .i64 a3, .str a4, .str a6, .int .i64 a1, .ow 1 a0])
  have j7 : o53 = o50.set (Int.toNat n5) [.int .i64 kk, .str b1, .str b0, .bool (A.cmp .eql (A.num .rem .i64 k14 3) 0), .int .i64 k17, .str b2, .ow 1 b6, .ow 1 b8, .int .i64 m34, .str b7, .ow 3 b9, .ow 1 c2, .int .i64 a3, .str a4, .str a6, .int .i64 a1, .ow 1 a0] := q9
  have l7 : (List.length o53 : Int) = List.length x := by rw [j7, List.length_set]; exact v2
  have m5 : o53[(Int.toNat n5)]? = some [.int .i64 kk, .str b1, .str b0, .bool (A.cmp .eql (A.num .rem .i64 k14 3) 0), .int .i64 k17, .str b2, .ow 1 b6, .ow 1 b8, .int .i64 m34, .str b7, .ow 3 b9, .ow 1 c2, .int .i64 a3, .str a4, .str a6, .int .i64 a1, .ow 1 a0] := by rw [j7]; exact set_self m3
  have x1 : o53 = ro.set (Int.toNat n5) [.int .i64 kk, .str b1, .str b0, .bool (A.cmp .eql (A.num .rem .i64 k14 3) 0), .int .i64 k17, .str b2, .ow 1 b6, .ow 1 b8, .int .i64 m34, .str b7, .ow 3 b9, .ow 1 c2, .int .i64 a3, .str a4, .str a6, .int .i64 a1, .ow 1 a0] := by rw [j7, w2, List.set_set]
  refine ops_doneB (tweak_backR (D := 107) (d := 1000000000) (i := (Int.toNat n5)) (j := 11) rfl rfl rfl m3 rfl (by decide) q9 rfl) ?_
  refine gs (gB (ra hA 3 (by cbv) ?_))
  have z4 : n5 < (List.length o53 : Int) := by rw [l7]; exact d1
  refine ops_step rfl rfl (idx_own rfl rfl rfl rfl rfl rfl h05 z4 rfl) ?_
  refine ra hA 2 (by cbv) ?_
  obtain ⟨o55, q7⟩ := nm (o53.set (Int.toNat n5) [.int .i64 kk, .str b1, .str b0, .bool (A.cmp .eql (A.num .rem .i64 k14 3) 0), .int .i64 k17, .str b2, .ow 1 b6, .ow 1 b8, .int .i64 m34, .str b7, .ow 3 b9, .ow 1 c2, .int .i64 m52, .str a4, .str a6, .int .i64 a1, .ow 1 a0])
  have k1 : o55 = o53.set (Int.toNat n5) [.int .i64 kk, .str b1, .str b0, .bool (A.cmp .eql (A.num .rem .i64 k14 3) 0), .int .i64 k17, .str b2, .ow 1 b6, .ow 1 b8, .int .i64 m34, .str b7, .ow 3 b9, .ow 1 c2, .int .i64 m52, .str a4, .str a6, .int .i64 a1, .ow 1 a0] := q7
  have l4 : (List.length o55 : Int) = List.length x := by rw [k1, List.length_set]; exact l7
  have k6 : o55[(Int.toNat n5)]? = some [.int .i64 kk, .str b1, .str b0, .bool (A.cmp .eql (A.num .rem .i64 k14 3) 0), .int .i64 k17, .str b2, .ow 1 b6, .ow 1 b8, .int .i64 m34, .str b7, .ow 3 b9, .ow 1 c2, .int .i64 m52, .str a4, .str a6, .int .i64 a1, .ow 1 a0] := by rw [k1]; exact set_self m5
  have w3 : o55 = ro.set (Int.toNat n5) [.int .i64 kk, .str b1, .str b0, .bool (A.cmp .eql (A.num .rem .i64 k14 3) 0), .int .i64 k17, .str b2, .ow 1 b6, .ow 1 b8, .int .i64 m34, .str b7, .ow 3 b9, .ow 1 c2, .int .i64 m52, .str a4, .str a6, .int .i64 a1, .ow 1 a0] := by rw [k1, x1, List.set_set]
  refine ops_step rfl rfl (sto_arr (r := [.int .i64 kk, .str b1, .str b0, .bool (A.cmp .eql (A.num .rem .i64 k14 3) 0), .int .i64 k17, .str b2, .ow 1 b6, .ow 1 b8, .int .i64 m34, .str b7, .ow 3 b9, .ow 1 c2, .int .i64 a3, .str a4, .str a6, .int .i64 a1, .ow 1 a0]) (cs := [.int .i64 m52]) rfl rfl rfl rfl rfl ⟨_, _, rfl⟩ rfl rfl m5 rfl q7) ?_
  refine oz ?_
  refine gs (gB (ra hA 1 (by cbv) ?_))
  obtain ⟨k56, C4, x2, t4, p9⟩ := add_one hA n6.1 n6.2 f9 e13
  refine ops_step rfl rfl (int_add hA rfl rfl rfl x2) ?_
  refine ra hA 1 (by cbv) (oz ?_)
  refine gs (gB (ra hA 3 (by cbv) ?_))
  obtain ⟨c0, i4, C7⟩ : ∃ (c0 : ByteArray), c0 = (mt k56) ∧ Real Tryz.prog 71 [.int .i64 k56] (.str c0) := ⟨_, rfl, by exact r_laws_markText A hA k56 t4 (le_k p9 e13)⟩
  refine ops_callV rfl rfl (by cbv) (by cbv) C7 (.inr rfl) (by cbv) ?_
  have x7 : n5 < (List.length o55 : Int) := by rw [l4]; exact d1
  refine ops_step rfl rfl (idx_own rfl rfl rfl rfl rfl rfl h05 x7 rfl) ?_
  refine ra hA 2 (by cbv) ?_
  obtain ⟨o60, q6⟩ := nm (o55.set (Int.toNat n5) [.int .i64 kk, .str b1, .str b0, .bool (A.cmp .eql (A.num .rem .i64 k14 3) 0), .int .i64 k17, .str b2, .ow 1 b6, .ow 1 b8, .int .i64 m34, .str b7, .ow 3 b9, .ow 1 c2, .int .i64 m52, .str c0, .str a6, .int .i64 a1, .ow 1 a0])
  have k0 : o60 = o55.set (Int.toNat n5) [.int .i64 kk, .str b1, .str b0, .bool (A.cmp .eql (A.num .rem .i64 k14 3) 0), .int .i64 k17, .str b2, .ow 1 b6, .ow 1 b8, .int .i64 m34, .str b7, .ow 3 b9, .ow 1 c2, .int .i64 m52, .str c0, .str a6, .int .i64 a1, .ow 1 a0] := q6
  have k5 : (List.length o60 : Int) = List.length x := by rw [k0, List.length_set]; exact l4
  have n0 : o60[(Int.toNat n5)]? = some [.int .i64 kk, .str b1, .str b0, .bool (A.cmp .eql (A.num .rem .i64 k14 3) 0), .int .i64 k17, .str b2, .ow 1 b6, .ow 1 b8, .int .i64 m34, .str b7, .ow 3 b9, .ow 1 c2, .int .i64 m52, .str c0, .str a6, .int .i64 a1, .ow 1 a0] := by rw [k0]; exact set_self k6
  have w5 : o60 = ro.set (Int.toNat n5) [.int .i64 kk, .str b1, .str b0, .bool (A.cmp .eql (A.num .rem .i64 k14 3) 0), .int .i64 k17, .str b2, .ow 1 b6, .ow 1 b8, .int .i64 m34, .str b7, .ow 3 b9, .ow 1 c2, .int .i64 m52, .str c0, .str a6, .int .i64 a1, .ow 1 a0] := by rw [k0, w3, List.set_set]
  refine ops_step rfl rfl (sto_arr (r := [.int .i64 kk, .str b1, .str b0, .bool (A.cmp .eql (A.num .rem .i64 k14 3) 0), .int .i64 k17, .str b2, .ow 1 b6, .ow 1 b8, .int .i64 m34, .str b7, .ow 3 b9, .ow 1 c2, .int .i64 m52, .str a4, .str a6, .int .i64 a1, .ow 1 a0]) (cs := [.str c0]) rfl rfl rfl rfl rfl ⟨_, _, rfl⟩ rfl rfl k6 rfl q6) ?_
  refine oz ?_
  refine gs (gB (ra hA 1 (by cbv) ?_))
  obtain ⟨k61, B8, z1, t3, q8⟩ := add_one hA t4 p9 g0 e14
  refine ops_step rfl rfl (int_add hA rfl rfl rfl z1) ?_
  refine ra hA 1 (by cbv) (oz ?_)
  refine gs (gB (ra hA 3 (by cbv) ?_))
  obtain ⟨c3, k3, C1⟩ : ∃ (c3 : ByteArray), c3 = (mt k61) ∧ Real Tryz.prog 71 [.int .i64 k61] (.str c3) := ⟨_, rfl, by exact r_laws_markText A hA k61 t3 (le_k q8 e14)⟩
  refine ops_callV rfl rfl (by cbv) (by cbv) C1 (.inr rfl) (by cbv) ?_
  have B1 : n5 < (List.length o60 : Int) := by rw [k5]; exact d1
  refine ops_step rfl rfl (idx_own rfl rfl rfl rfl rfl rfl h05 B1 rfl) ?_
  refine ra hA 2 (by cbv) ?_
  obtain ⟨o65, s5⟩ := nm (o60.set (Int.toNat n5) [.int .i64 kk, .str b1, .str b0, .bool (A.cmp .eql (A.num .rem .i64 k14 3) 0), .int .i64 k17, .str b2, .ow 1 b6, .ow 1 b8, .int .i64 m34, .str b7, .ow 3 b9, .ow 1 c2, .int .i64 m52, .str c0, .str c3, .int .i64 a1, .ow 1 a0])
  have j6 : o65 = o60.set (Int.toNat n5) [.int .i64 kk, .str b1, .str b0, .bool (A.cmp .eql (A.num .rem .i64 k14 3) 0), .int .i64 k17, .str b2, .ow 1 b6, .ow 1 b8, .int .i64 m34, .str b7, .ow 3 b9, .ow 1 c2, .int .i64 m52, .str c0, .str c3, .int .i64 a1, .ow 1 a0] := s5
  have k7 : (List.length o65 : Int) = List.length x := by rw [j6, List.length_set]; exact k5
  have l1 : o65[(Int.toNat n5)]? = some [.int .i64 kk, .str b1, .str b0, .bool (A.cmp .eql (A.num .rem .i64 k14 3) 0), .int .i64 k17, .str b2, .ow 1 b6, .ow 1 b8, .int .i64 m34, .str b7, .ow 3 b9, .ow 1 c2, .int .i64 m52, .str c0, .str c3, .int .i64 a1, .ow 1 a0] := by rw [j6]; exact set_self n0
  have v3 : o65 = ro.set (Int.toNat n5) [.int .i64 kk, .str b1, .str b0, .bool (A.cmp .eql (A.num .rem .i64 k14 3) 0), .int .i64 k17, .str b2, .ow 1 b6, .ow 1 b8, .int .i64 m34, .str b7, .ow 3 b9, .ow 1 c2, .int .i64 m52, .str c0, .str c3, .int .i64 a1, .ow 1 a0] := by rw [j6, w5, List.set_set]
  refine ops_step rfl rfl (sto_arr (r := [.int .i64 kk, .str b1, .str b0, .bool (A.cmp .eql (A.num .rem .i64 k14 3) 0), .int .i64 k17, .str b2, .ow 1 b6, .ow 1 b8, .int .i64 m34, .str b7, .ow 3 b9, .ow 1 c2, .int .i64 m52, .str c0, .str a6, .int .i64 a1, .ow 1 a0]) (cs := [.str c3]) rfl rfl rfl rfl rfl ⟨_, _, rfl⟩ rfl rfl n0 rfl s5) ?_
  refine oz ?_
  refine gs (gB (ra hA 1 (by cbv) ?_))
  obtain ⟨k66, D5, v9, B4, D9⟩ := add_one hA t3 q8 f8 e15
  refine ops_step rfl rfl (int_add hA rfl rfl rfl v9) ?_
  refine ra hA 1 (by cbv) (oz ?_)
  refine gs (gB (ra hA 3 (by cbv) ?_))
  have y6 : n5 < (List.length o65 : Int) := by rw [k7]; exact d1
  refine ops_step rfl rfl (idx_own rfl rfl rfl rfl rfl rfl h05 y6 rfl) ?_
  refine ra hA 2 (by cbv) ?_
  obtain ⟨o68, u1⟩ := nm (o65.set (Int.toNat n5) [.int .i64 kk, .str b1, .str b0, .bool (A.cmp .eql (A.num .rem .i64 k14 3) 0), .int .i64 k17, .str b2, .ow 1 b6, .ow 1 b8, .int .i64 m34, .str b7, .ow 3 b9, .ow 1 c2, .int .i64 m52, .str c0, .str c3, .int .i64 k66, .ow 1 a0])
  have j0 : o68 = o65.set (Int.toNat n5) [.int .i64 kk, .str b1, .str b0, .bool (A.cmp .eql (A.num .rem .i64 k14 3) 0), .int .i64 k17, .str b2, .ow 1 b6, .ow 1 b8, .int .i64 m34, .str b7, .ow 3 b9, .ow 1 c2, .int .i64 m52, .str c0, .str c3, .int .i64 k66, .ow 1 a0] := u1
  have n2 : (List.length o68 : Int) = List.length x := by rw [j0, List.length_set]; exact k7
  have m9 : o68[(Int.toNat n5)]? = some [.int .i64 kk, .str b1, .str b0, .bool (A.cmp .eql (A.num .rem .i64 k14 3) 0), .int .i64 k17, .str b2, .ow 1 b6, .ow 1 b8, .int .i64 m34, .str b7, .ow 3 b9, .ow 1 c2, .int .i64 m52, .str c0, .str c3, .int .i64 k66, .ow 1 a0] := by rw [j0]; exact set_self l1
  have x6 : o68 = ro.set (Int.toNat n5) [.int .i64 kk, .str b1, .str b0, .bool (A.cmp .eql (A.num .rem .i64 k14 3) 0), .int .i64 k17, .str b2, .ow 1 b6, .ow 1 b8, .int .i64 m34, .str b7, .ow 3 b9, .ow 1 c2, .int .i64 m52, .str c0, .str c3, .int .i64 k66, .ow 1 a0] := by rw [j0, v3, List.set_set]
  refine ops_step rfl rfl (sto_arr (r := [.int .i64 kk, .str b1, .str b0, .bool (A.cmp .eql (A.num .rem .i64 k14 3) 0), .int .i64 k17, .str b2, .ow 1 b6, .ow 1 b8, .int .i64 m34, .str b7, .ow 3 b9, .ow 1 c2, .int .i64 m52, .str c0, .str c3, .int .i64 a1, .ow 1 a0]) (cs := [.int .i64 k66]) rfl rfl rfl rfl rfl ⟨_, _, rfl⟩ rfl rfl l1 rfl u1) ?_
  refine oz ?_
  refine gs (gB (ra hA 1 (by cbv) ?_))
  obtain ⟨k69, D8, y3, t2, p5⟩ := add_one hA B4 D9 g1 e16
  refine ops_step rfl rfl (int_add hA rfl rfl rfl y3) ?_
  refine ra hA 1 (by cbv) (oz ?_)
  refine gB (ra hA 2 (by cbv) ?_)
  have x5 : n5 < (List.length o68 : Int) := by rw [n2]; exact d1
  refine ops_step rfl rfl (idx_own rfl rfl rfl rfl rfl rfl h05 x5 rfl) ?_
  refine ra hA 2 (by cbv) ?_
  refine ops_nestR rfl rfl rfl rfl rfl rfl rfl m9 rfl rfl (fun w72 o71 D2 => ?_)
  have i0 : o71 = o68.set (Int.toNat n5) [.int .i64 kk, .str b1, .str b0, .bool (A.cmp .eql (A.num .rem .i64 k14 3) 0), .int .i64 k17, .str b2, .ow 1 b6, .ow 1 b8, .int .i64 m34, .str b7, .ow 3 b9, .ow 1 c2, .int .i64 m52, .str c0, .str c3, .int .i64 k66, .raw w72] := D2
  have y0 : (List.length o71 : Int) = List.length x := by rw [i0, List.length_set]; exact n2
  have m8 : o71[(Int.toNat n5)]? = some [.int .i64 kk, .str b1, .str b0, .bool (A.cmp .eql (A.num .rem .i64 k14 3) 0), .int .i64 k17, .str b2, .ow 1 b6, .ow 1 b8, .int .i64 m34, .str b7, .ow 3 b9, .ow 1 c2, .int .i64 m52, .str c0, .str c3, .int .i64 k66, .raw w72] := by rw [i0]; exact set_self m9
  have u9 : o71 = ro.set (Int.toNat n5) [.int .i64 kk, .str b1, .str b0, .bool (A.cmp .eql (A.num .rem .i64 k14 3) 0), .int .i64 k17, .str b2, .ow 1 b6, .ow 1 b8, .int .i64 m34, .str b7, .ow 3 b9, .ow 1 c2, .int .i64 m52, .str c0, .str c3, .int .i64 k66, .raw w72] := by rw [i0, x6, List.set_set]
  refine ra hA 1 (by cbv) ?_
  obtain ⟨f1, m73, g6, p8, w1⟩ : ∃ (f1 : RR) (m73 : Int), f1 = List.map eInt (mkIntS k69 c8) ∧ m73 = k69 + cnIntS c8 ∧ RealM Tryz.prog 70 [.ow 1 a0, .int .i64 k69] [.ow 1 f1, .int .i64 k69] (.int .i64 m73) := ⟨_, _, rfl, rfl, by subst d5; exact m_laws_markIntS A hA c8 k69 t2 (le_cn p5 f2 e17)⟩
  have E6 := rlen_map hA g6
  have v6 := add_cn p8 t2 p5 f2 f0
  refine ops_callM rfl (by cbv) (by cbv) (by cbv) w1 rfl (by cbv) ?_
  refine ra hA 1 (by cbv) ?_
  obtain ⟨o74, s0⟩ := nm (o71.set (Int.toNat n5) [.int .i64 kk, .str b1, .str b0, .bool (A.cmp .eql (A.num .rem .i64 k14 3) 0), .int .i64 k17, .str b2, .ow 1 b6, .ow 1 b8, .int .i64 m34, .str b7, .ow 3 b9, .ow 1 c2, .int .i64 m52, .str c0, .str c3, .int .i64 k66, .ow 1 f1])
  have i3 : o74 = o71.set (Int.toNat n5) [.int .i64 kk, .str b1, .str b0, .bool (A.cmp .eql (A.num .rem .i64 k14 3) 0), .int .i64 k17, .str b2, .ow 1 b6, .ow 1 b8, .int .i64 m34, .str b7, .ow 3 b9, .ow 1 c2, .int .i64 m52, .str c0, .str c3, .int .i64 k66, .ow 1 f1] := s0
  have F1 : (List.length o74 : Int) = List.length x := by rw [i3, List.length_set]; exact y0
  have F0 : o74[(Int.toNat n5)]? = some [.int .i64 kk, .str b1, .str b0, .bool (A.cmp .eql (A.num .rem .i64 k14 3) 0), .int .i64 k17, .str b2, .ow 1 b6, .ow 1 b8, .int .i64 m34, .str b7, .ow 3 b9, .ow 1 c2, .int .i64 m52, .str c0, .str c3, .int .i64 k66, .ow 1 f1] := by rw [i3]; exact set_self m8
  have B0 : o74 = ro.set (Int.toNat n5) [.int .i64 kk, .str b1, .str b0, .bool (A.cmp .eql (A.num .rem .i64 k14 3) 0), .int .i64 k17, .str b2, .ow 1 b6, .ow 1 b8, .int .i64 m34, .str b7, .ow 3 b9, .ow 1 c2, .int .i64 m52, .str c0, .str c3, .int .i64 k66, .ow 1 f1] := by rw [i3, u9, List.set_set]
  refine ops_doneB (tweak_backR (D := 149) (d := 1000000000) (i := (Int.toNat n5)) (j := 16) rfl rfl rfl m8 rfl (by decide) s0 rfl) ?_
  refine gB (ra hA 1 (by cbv) (ra hA 1 (by cbv) (ra hA 1 (by cbv) (oz ?_))))
  refine ⟨(S37_1 hv m73 (A.num .add .i64 n5 1) o74), List.length x - (i + 1), ?_, by cbv, i + 1, o74, (A.num .add .i64 n5 1), m73, rfl, ?_, rfl⟩
  ·
   exact hdec
  ·
   have hrow : ([.int .i64 kk, .str b1, .str b0, .bool (A.cmp .eql (A.num .rem .i64 k14 3) 0), .int .i64 k17, .str b2, .ow 1 b6, .ow 1 b8, .int .i64 m34, .str b7, .ow 3 b9, .ow 1 c2, .int .i64 m52, .str c0, .str c3, .int .i64 k66, .ow 1 f1] : List PV) = eoSession (meSession kk (⟨g2, f5, d0, c7, ⟨b5, b4, c9, c6⟩, ⟨a8, a7, c4, c5⟩, ⟨a3, a4, a6, a1, c8⟩⟩ : GSession)) := by
    subst wk4 wk9 C0 E0 D3 D0 q5 s4 E4 C3 s9 q4 C4 B8 D5 D8 p8
    show _ = ([_, _, _, _, _, _, _, _, _, _, _, _, _, _, _, _, _] : List PV)
    exact congr (congrArg List.cons (congrArg (PV.int .i64) rfl)) (congr (congrArg List.cons (congrArg PV.str t1)) (congr (congrArg List.cons (congrArg PV.str o5)) (congr (congrArg List.cons (congrArg PV.bool (mb_eq hA rfl))) (congr (congrArg List.cons (congrArg (PV.int .i64) rfl)) (congr (congrArg List.cons (congrArg PV.str o7)) (congr (congrArg List.cons (congrArg (PV.ow 1) g8)) (congr (congrArg List.cons (congrArg (PV.ow 1) g5)) (congr (congrArg List.cons (congrArg (PV.int .i64) rfl)) (congr (congrArg List.cons (congrArg PV.str o9)) (congr (congrArg List.cons (congrArg (PV.ow 3) g7)) (congr (congrArg List.cons (congrArg (PV.ow 1) g9)) (congr (congrArg List.cons (congrArg (PV.int .i64) rfl)) (congr (congrArg List.cons (congrArg PV.str i4)) (congr (congrArg List.cons (congrArg PV.str k3)) (congr (congrArg List.cons (congrArg (PV.int .i64) rfl)) (congr (congrArg List.cons (congrArg (PV.ow 1) g6)) (rfl)))))))))))))))))
   refine ⟨B7, hi1, fin_k v6.2 f7 hrce hkk cat, ?_⟩
   rw [B0, hrow, s3, hn5, mkSessionS_at k hyi, ← hkk]
   exact mark_set (hlen.symm.trans (Int.toNat_natCast i).symm)
 ·
  have ec1 : (A.rlen ro) ≤ n5 := lss_f hA c1
  refine go_exit ⟨fun _ => ?_, fun h => absurd rfl h⟩
  refine gs (gB (ra hA 2 (by cbv) (oz ?_)))
  refine go_ret ⟨⟨rfl, trivial⟩, Eq.trans (b := some [.ow 17 ro, .int .i64 k]) (by cbv) ?_, _, by cbv, ?_⟩
  ·
   rw [hro, List.take_of_length_le (by omega), List.drop_of_length_le (by omega), List.append_nil]
  ·
   show _ = (PV.int .i64 kk)
   refine congrArg (PV.int .i64) ?_
   rw [hkk, List.take_of_length_le (by omega)]
end Go.Av
