/- Walks: marks. -/
import Derived.Test.YtjbokkoiicoahaaM1
namespace Go.Av
open Go Go.Proofs
set_option maxRecDepth 100000
set_option maxHeartbeats 4000000
set_option linter.unusedVariables false
set_option linter.unusedSimpArgs false
def S77_1 (hv : Nat → Value) (p0 : Int) (p1 : Int) (p2 : RR) : St := { sl := [.own 1000000000, .int .i64 p0, .bad, .bad, .bad, .int .i64 p1, .bad, .bad, .bad, .bad, .bad, .bad, .bad, .bad, .bad, .bad, .bad, .bad, .bad, .bad, .bad, .bad, .bad, .bad, .bad, .bad, .bad, .bad, .bad, .bad, .bad, .bad, .bad, .bad, .bad, .bad, .bad, .bad, .bad, .bad, .bad, .bad, .bad, .bad, .bad, .bad, .bad, .bad, .bad, .bad, .bad, .bad, .bad, .bad, .bad, .bad, .bad, .bad, .bad, .bad, .bad, .bad, .bad, .bad, .bad, .bad, .bad, .bad, .bad, .bad, .bad, .bad, .bad, .bad, .bad, .bad, .bad, .bad, .bad, .bad, .bad, .bad, .bad, .bad, .bad, .bad, .bad, .bad, .bad, .bad, .bad, .bad, .bad, .bad, .bad, .bad, .bad, .bad, .bad, .bad, .bad, .bad, .bad, .bad, .bad, .bad, .bad, .bad, .bad, .bad, .bad, .bad, .bad, .bad, .bad, .bad, .bad, .bad, .bad, .bad, .bad, .bad, .bad, .bad, .bad, .bad, .bad, .bad, .bad, .bad, .bad, .bad, .bad, .bad, .bad, .bad, .bad, .bad, .bad, .bad, .bad, .bad, .bad, .bad, .bad, .bad, .bad, .bad, .bad, .bad, .bad, .bad, .bad], bl := [(1000000000, ⟨.arr, 17, p2⟩)], hd := [(1000000000, hv 1000000000)] }
theorem m_laws_markSessionS (A : Alg) (hA : A = std) (x : List GSession) (k : Int) (h0 : 0 ≤ k) (h1 : k + cnSessionS x ≤ 1099511627776) : RealM Try.prog 77 [.ow 17 (List.map eoSession x), .int .i64 k] [.ow 17 (List.map eoSession (mkSessionS k x)), .int .i64 k] (.int .i64 (k + cnSessionS x)) := by
 obtain ⟨x_r, k2⟩ := nm (x.map eoSession)
 have F2 := rlen_map hA k2
 refine realM_args (args1 := [.ow 17 x_r, .int .i64 k]) (by subst k2; rfl) rfl ?_
 have h2 : (List.length x : Int) ≤ 1099511627776 := by have := cnSessionS_ge x; omega
 refine realM tyOk Try.func77 (by kernel_rfl) (afunM_of rfl (by cbv) (fun hv => ?_))
 refine gs (gB (ra hA 1 (by cbv) (oz ?_)))
 refine gs (gs (gB (ra hA 1 (by cbv) (oz ?_))))
 refine go_block ?_
 refine go_loopE (fun σ m => ∃ (i : Nat) (ro : RR) (n5 : Int) (kk : Int), σ = (S77_1 hv kk n5 ro) ∧ (n5 = (i : Int) ∧ i ≤ List.length x ∧ kk = k + cnSessionS (x.take i) ∧ ro = List.map eoSession (mkSessionS k (x.take i) ++ x.drop i)) ∧ m = List.length x - i) _ [] [0, 1, 5] [1000000000] (S77_1 hv k 0 x_r) rfl (by cbv) ⟨0, x_r, 0, k, rfl, ?_, rfl⟩ (fun σ m hI => ?_)
 ·
  exact ⟨rfl, Nat.zero_le _, by simp [cnSessionS], k2⟩
 obtain ⟨i, ro, n5, kk, rfl, ⟨hn5, hi, hkk, hro⟩, rfl⟩ := hI
 have hlro : (List.length ro : Int) = List.length x := by
  rw [hro]; simp only [List.length_map, List.length_append, mkSessionS_len, List.length_take, List.length_drop]; omega
 have lro : A.rlen ro = (List.length x : Int) := by
  rw [rlen_map hA hro]; simp only [List.length_append, mkSessionS_len, List.length_take, List.length_drop]; omega
 refine gs (gs (gB (ra hA 4 (by cbv) (oz ?_))))
 refine go_cond rfl (fun c1 => ?_) (fun c1 => ?_)
 ·
  have ec1 : n5 < (A.rlen ro) := lss_t hA c1
  refine gk (gs ?_)
  refine go_block ?_
  refine gs ?_
  have h05 : (0 : Int) ≤ n5 := by omega
  have hlt : Int.toNat n5 < List.length x := by omega
  obtain ⟨y, hy⟩ : ∃ y, x[Int.toNat n5]? = some y := ⟨_, List.getElem?_eq_getElem hlt⟩
  have hyi : x[i]? = some y := by have h := hy; rw [hn5] at h; exact h
  have cat := cnSessionS_at hyi
  have cle := cnSessionS_le x (i + 1)
  have cnn := cnSessionS_nn (x.take i)
  have cce : ceSession y = _ := rfl
  have s2 : ro = List.map eoSession (mkSessionS k (x.take i) ++ y :: x.drop (i + 1)) := by
   rw [hro, ← drop_at hyi]
  have x9 : ro[Int.toNat n5]? = some (eoSession y) := by
   rw [s2, hn5]; exact mark_get (by rw [mkSessionS_len, List.length_take]; omega)
  obtain ⟨g2, f3, d0, c7, ⟨b5, b4, c9, c6⟩, ⟨a8, a7, c4, c5⟩, ⟨a3, a4, a6, a1, c8⟩⟩ := y
  obtain ⟨b3, d6⟩ := nm (c9.map eString)
  have p3 := rlen_map hA d6
  obtain ⟨a9, d3⟩ := nm (c6.map eString)
  have l9 := rlen_map hA d3
  obtain ⟨a5, d2⟩ := nm (c4.map eoMail)
  have k3 := rlen_map hA d2
  obtain ⟨a2, d4⟩ := nm (c5.map eBool)
  have n9 := rlen_map hA d4
  obtain ⟨a0, d5⟩ := nm (c8.map eInt)
  have o7 := rlen_map hA d5
  have hzro : ro[Int.toNat n5]? = some [.int .i64 g2, .str f3, .str d0, .bool c7, .int .i64 b5, .str b4, .ow 1 b3, .ow 1 a9, .int .i64 a8, .str a7, .ow 3 a5, .ow 1 a2, .int .i64 a3, .str a4, .str a6, .int .i64 a1, .ow 1 a0] := by subst d6 d3 d2 d4 d5; exact x9
  have f6 := cnStringS_nn c9
  have d9 := cnStringS_nn c6
  have d7 := cnMailS_nn c4
  have d8 := cnBoolS_nn c5
  have f0 := cnIntS_nn c8
  have cce : ceSession (⟨g2, f3, d0, c7, ⟨b5, b4, c9, c6⟩, ⟨a8, a7, c4, c5⟩, ⟨a3, a4, a6, a1, c8⟩⟩ : GSession) = 1 + 1 + 1 + 1 + 1 + 1 + cnStringS c9 + cnStringS c6 + 1 + 1 + cnMailS c4 + cnBoolS c5 + 1 + 1 + 1 + 1 + cnIntS c8 := rfl
  obtain ⟨r17, g0, e17⟩ : ∃ r : Int, r = 0 ∧ 0 ≤ r := ⟨0, rfl, by decide⟩
  obtain ⟨r16, f5, e16⟩ : ∃ r : Int, r = cnIntS c8 + r17 ∧ 0 ≤ r := ⟨_, rfl, nn_add f0 e17⟩
  obtain ⟨r15, g1, e15⟩ : ∃ r : Int, r = 1 + r16 ∧ 0 ≤ r := ⟨_, rfl, nn_add (by decide) e16⟩
  obtain ⟨r14, f7, e14⟩ : ∃ r : Int, r = 1 + r15 ∧ 0 ≤ r := ⟨_, rfl, nn_add (by decide) e15⟩
  obtain ⟨r13, f9, e13⟩ : ∃ r : Int, r = 1 + r14 ∧ 0 ≤ r := ⟨_, rfl, nn_add (by decide) e14⟩
  obtain ⟨r12, f8, e12⟩ : ∃ r : Int, r = 1 + r13 ∧ 0 ≤ r := ⟨_, rfl, nn_add (by decide) e13⟩
  obtain ⟨r11, f4, e11⟩ : ∃ r : Int, r = cnBoolS c5 + r12 ∧ 0 ≤ r := ⟨_, rfl, nn_add d8 e12⟩
  obtain ⟨r10, f2, e10⟩ : ∃ r : Int, r = cnMailS c4 + r11 ∧ 0 ≤ r := ⟨_, rfl, nn_add d7 e11⟩
  obtain ⟨r9, hr9, e9⟩ : ∃ r : Int, r = 1 + r10 ∧ 0 ≤ r := ⟨_, rfl, nn_add (by decide) e10⟩
  obtain ⟨r8, hr8, e8⟩ : ∃ r : Int, r = 1 + r9 ∧ 0 ≤ r := ⟨_, rfl, nn_add (by decide) e9⟩
  obtain ⟨r7, hr7, e7⟩ : ∃ r : Int, r = cnStringS c6 + r8 ∧ 0 ≤ r := ⟨_, rfl, nn_add d9 e8⟩
  obtain ⟨r6, hr6, e6⟩ : ∃ r : Int, r = cnStringS c9 + r7 ∧ 0 ≤ r := ⟨_, rfl, nn_add f6 e7⟩
  obtain ⟨r5, hr5, e5⟩ : ∃ r : Int, r = 1 + r6 ∧ 0 ≤ r := ⟨_, rfl, nn_add (by decide) e6⟩
  obtain ⟨r4, hr4, e4⟩ : ∃ r : Int, r = 1 + r5 ∧ 0 ≤ r := ⟨_, rfl, nn_add (by decide) e5⟩
  obtain ⟨r3, hr3, e3⟩ : ∃ r : Int, r = 1 + r4 ∧ 0 ≤ r := ⟨_, rfl, nn_add (by decide) e4⟩
  obtain ⟨r2, hr2, e2⟩ : ∃ r : Int, r = 1 + r3 ∧ 0 ≤ r := ⟨_, rfl, nn_add (by decide) e3⟩
  obtain ⟨r1, hr1, e1⟩ : ∃ r : Int, r = 1 + r2 ∧ 0 ≤ r := ⟨_, rfl, nn_add (by decide) e2⟩
  obtain ⟨r0, hr0, e0⟩ : ∃ r : Int, r = 1 + r1 ∧ 0 ≤ r := ⟨_, rfl, nn_add (by decide) e1⟩
  have p0 : 0 ≤ kk := by clear g0 e17 f5 e16 g1 e15 f7 e14 f9 e13 f8 e12 f4 e11 f2 e10 hr9 e9 hr8 e8 hr7 e7 hr6 e6 hr5 e5 hr4 e4 hr3 e3 hr2 e2 hr1 e1 hr0 e0; omega
  have hrce : r0 = ceSession (⟨g2, f3, d0, c7, ⟨b5, b4, c9, c6⟩, ⟨a8, a7, c4, c5⟩, ⟨a3, a4, a6, a1, c8⟩⟩ : GSession) := by subst g0 f5 g1 f7 f9 f8 f4 f2 hr9 hr8 hr7 hr6 hr5 hr4 hr3 hr2 hr1 hr0; rw [cce]; omega
  have q0 : kk + r0 ≤ 1099511627776 ∧ kk + r0 = kk + r0 := ⟨by clear g0 e17 f5 e16 g1 e15 f7 e14 f9 e13 f8 e12 f4 e11 f2 e10 hr9 e9 hr8 e8 hr7 e7 hr6 e6 hr5 e5 hr4 e4 hr3 e3 hr2 e2 hr1 e1 hr0 e0; omega, rfl⟩
  have d1 : n5 < (List.length x : Int) := by clear g0 e17 f5 e16 g1 e15 f7 e14 f9 e13 f8 e12 f4 e11 f2 e10 hr9 e9 hr8 e8 hr7 e7 hr6 e6 hr5 e5 hr4 e4 hr3 e3 hr2 e2 hr1 e1 hr0 e0; omega
  have hi1 : i + 1 ≤ List.length x := by clear g0 e17 f5 e16 g1 e15 f7 e14 f9 e13 f8 e12 f4 e11 f2 e10 hr9 e9 hr8 e8 hr7 e7 hr6 e6 hr5 e5 hr4 e4 hr3 e3 hr2 e2 hr1 e1 hr0 e0; omega
  have D9 : A.num .add .i64 n5 1 = ((i + 1 : Nat) : Int) := by
   clear g0 e17 f5 e16 g1 e15 f7 e14 f9 e13 f8 e12 f4 e11 f2 e10 hr9 e9 hr8 e8 hr7 e7 hr6 e6 hr5 e5 hr4 e4 hr3 e3 hr2 e2 hr1 e1 hr0 e0; rw [add_i64 hA (by omega) (by omega)]; omega
  have hlen : i = List.length (mkSessionS k (x.take i)) := by rw [mkSessionS_len, List.length_take]; clear g0 e17 f5 e16 g1 e15 f7 e14 f9 e13 f8 e12 f4 e11 f2 e10 hr9 e9 hr8 e8 hr7 e7 hr6 e6 hr5 e5 hr4 e4 hr3 e3 hr2 e2 hr1 e1 hr0 e0; omega
  have hdec : List.length x - (i + 1) < List.length x - i := by clear g0 e17 f5 e16 g1 e15 f7 e14 f9 e13 f8 e12 f4 e11 f2 e10 hr9 e9 hr8 e8 hr7 e7 hr6 e6 hr5 e5 hr4 e4 hr3 e3 hr2 e2 hr1 e1 hr0 e0; omega
  refine gB (ra hA 3 (by cbv) ?_)
  have B2 : n5 < (List.length ro : Int) := by rw [hlro]; exact d1
  refine ops_step rfl rfl (idx_own rfl rfl rfl rfl rfl rfl h05 B2 rfl) ?_
  refine ra hA 1 (by cbv) ?_
  obtain ⟨o3, ho3⟩ : ∃ r, r = ro.set (Int.toNat n5) [.int .i64 kk, .str f3, .str d0, .bool c7, .int .i64 b5, .str b4, .ow 1 b3, .ow 1 a9, .int .i64 a8, .str a7, .ow 3 a5, .ow 1 a2, .int .i64 a3, .str a4, .str a6, .int .i64 a1, .ow 1 a0] := ⟨_, rfl⟩
  have go3 : o3 = ro.set (Int.toNat n5) [.int .i64 kk, .str f3, .str d0, .bool c7, .int .i64 b5, .str b4, .ow 1 b3, .ow 1 a9, .int .i64 a8, .str a7, .ow 3 a5, .ow 1 a2, .int .i64 a3, .str a4, .str a6, .int .i64 a1, .ow 1 a0] := ho3
  have t7 : (List.length o3 : Int) = List.length x := by rw [go3, List.length_set]; exact hlro
  have t6 : o3[(Int.toNat n5)]? = some [.int .i64 kk, .str f3, .str d0, .bool c7, .int .i64 b5, .str b4, .ow 1 b3, .ow 1 a9, .int .i64 a8, .str a7, .ow 3 a5, .ow 1 a2, .int .i64 a3, .str a4, .str a6, .int .i64 a1, .ow 1 a0] := by rw [go3]; exact set_self hzro
  have D3 : o3 = ro.set (Int.toNat n5) [.int .i64 kk, .str f3, .str d0, .bool c7, .int .i64 b5, .str b4, .ow 1 b3, .ow 1 a9, .int .i64 a8, .str a7, .ow 3 a5, .ow 1 a2, .int .i64 a3, .str a4, .str a6, .int .i64 a1, .ow 1 a0] := go3
  refine ops_step rfl rfl (sto_arr (r := [.int .i64 g2, .str f3, .str d0, .bool c7, .int .i64 b5, .str b4, .ow 1 b3, .ow 1 a9, .int .i64 a8, .str a7, .ow 3 a5, .ow 1 a2, .int .i64 a3, .str a4, .str a6, .int .i64 a1, .ow 1 a0]) (cs := [.int .i64 kk]) rfl rfl rfl rfl rfl ⟨_, _, rfl⟩ rfl rfl hzro rfl ho3) ?_
  refine oz ?_
  refine gs (gB (ra hA 1 (by cbv) ?_))
  obtain ⟨k4, wk4, E4, pk4, qk4⟩ := add_one hA p0 q0 hr0 e1
  refine ops_step rfl rfl (int_add hA rfl rfl rfl E4) ?_
  refine ra hA 1 (by cbv) (oz ?_)
  refine gs (gB (ra hA 3 (by cbv) ?_))
  obtain ⟨b1, t1, hc6⟩ : ∃ (b1 : ByteArray), b1 = (mt k4) ∧ Real Try.prog 44 [.int .i64 k4] (.str b1) := ⟨_, rfl, by exact r_laws_markText A hA k4 pk4 (le_k qk4 e1)⟩
  refine ops_callV rfl rfl (by cbv) (by cbv) hc6 (.inr rfl) (by cbv) ?_
  have C0 : n5 < (List.length o3 : Int) := by rw [t7]; exact d1
  refine ops_step rfl rfl (idx_own rfl rfl rfl rfl rfl rfl h05 C0 rfl) ?_
  refine ra hA 1 (by cbv) ?_
  obtain ⟨o8, ho8⟩ : ∃ r, r = o3.set (Int.toNat n5) [.int .i64 kk, .str b1, .str d0, .bool c7, .int .i64 b5, .str b4, .ow 1 b3, .ow 1 a9, .int .i64 a8, .str a7, .ow 3 a5, .ow 1 a2, .int .i64 a3, .str a4, .str a6, .int .i64 a1, .ow 1 a0] := ⟨_, rfl⟩
  have go8 : o8 = o3.set (Int.toNat n5) [.int .i64 kk, .str b1, .str d0, .bool c7, .int .i64 b5, .str b4, .ow 1 b3, .ow 1 a9, .int .i64 a8, .str a7, .ow 3 a5, .ow 1 a2, .int .i64 a3, .str a4, .str a6, .int .i64 a1, .ow 1 a0] := ho8
  have t3 : (List.length o8 : Int) = List.length x := by rw [go8, List.length_set]; exact t7
  have q3 : o8[(Int.toNat n5)]? = some [.int .i64 kk, .str b1, .str d0, .bool c7, .int .i64 b5, .str b4, .ow 1 b3, .ow 1 a9, .int .i64 a8, .str a7, .ow 3 a5, .ow 1 a2, .int .i64 a3, .str a4, .str a6, .int .i64 a1, .ow 1 a0] := by rw [go8]; exact set_self t6
  have D1 : o8 = ro.set (Int.toNat n5) [.int .i64 kk, .str b1, .str d0, .bool c7, .int .i64 b5, .str b4, .ow 1 b3, .ow 1 a9, .int .i64 a8, .str a7, .ow 3 a5, .ow 1 a2, .int .i64 a3, .str a4, .str a6, .int .i64 a1, .ow 1 a0] := by rw [go8, D3, List.set_set]
  refine ops_step rfl rfl (sto_arr (r := [.int .i64 kk, .str f3, .str d0, .bool c7, .int .i64 b5, .str b4, .ow 1 b3, .ow 1 a9, .int .i64 a8, .str a7, .ow 3 a5, .ow 1 a2, .int .i64 a3, .str a4, .str a6, .int .i64 a1, .ow 1 a0]) (cs := [.str b1]) rfl rfl rfl rfl rfl ⟨_, _, rfl⟩ rfl rfl t6 rfl ho8) ?_
  refine oz ?_
  refine gs (gB (ra hA 1 (by cbv) ?_))
  obtain ⟨k9, wk9, D0, pk9, qk9⟩ := add_one hA pk4 qk4 hr1 e2
  refine ops_step rfl rfl (int_add hA rfl rfl rfl D0) ?_
  refine ra hA 1 (by cbv) (oz ?_)
  refine gs (gB (ra hA 3 (by cbv) ?_))
  obtain ⟨b0, o5, B9⟩ : ∃ (b0 : ByteArray), b0 = (mt k9) ∧ Real Try.prog 44 [.int .i64 k9] (.str b0) := ⟨_, rfl, by exact r_laws_markText A hA k9 pk9 (le_k qk9 e2)⟩
  refine ops_callV rfl rfl (by cbv) (by cbv) B9 (.inr rfl) (by cbv) ?_
  have z7 : n5 < (List.length o8 : Int) := by rw [t3]; exact d1
  refine ops_step rfl rfl (idx_own rfl rfl rfl rfl rfl rfl h05 z7 rfl) ?_
  refine ra hA 1 (by cbv) ?_
  obtain ⟨o13, u3⟩ : ∃ r, r = o8.set (Int.toNat n5) [.int .i64 kk, .str b1, .str b0, .bool c7, .int .i64 b5, .str b4, .ow 1 b3, .ow 1 a9, .int .i64 a8, .str a7, .ow 3 a5, .ow 1 a2, .int .i64 a3, .str a4, .str a6, .int .i64 a1, .ow 1 a0] := ⟨_, rfl⟩
  have k0 : o13 = o8.set (Int.toNat n5) [.int .i64 kk, .str b1, .str b0, .bool c7, .int .i64 b5, .str b4, .ow 1 b3, .ow 1 a9, .int .i64 a8, .str a7, .ow 3 a5, .ow 1 a2, .int .i64 a3, .str a4, .str a6, .int .i64 a1, .ow 1 a0] := u3
  have n2 : (List.length o13 : Int) = List.length x := by rw [k0, List.length_set]; exact t3
  have n8 : o13[(Int.toNat n5)]? = some [.int .i64 kk, .str b1, .str b0, .bool c7, .int .i64 b5, .str b4, .ow 1 b3, .ow 1 a9, .int .i64 a8, .str a7, .ow 3 a5, .ow 1 a2, .int .i64 a3, .str a4, .str a6, .int .i64 a1, .ow 1 a0] := by rw [k0]; exact set_self q3
  have z5 : o13 = ro.set (Int.toNat n5) [.int .i64 kk, .str b1, .str b0, .bool c7, .int .i64 b5, .str b4, .ow 1 b3, .ow 1 a9, .int .i64 a8, .str a7, .ow 3 a5, .ow 1 a2, .int .i64 a3, .str a4, .str a6, .int .i64 a1, .ow 1 a0] := by rw [k0, D1, List.set_set]
  refine ops_step rfl rfl (sto_arr (r := [.int .i64 kk, .str b1, .str d0, .bool c7, .int .i64 b5, .str b4, .ow 1 b3, .ow 1 a9, .int .i64 a8, .str a7, .ow 3 a5, .ow 1 a2, .int .i64 a3, .str a4, .str a6, .int .i64 a1, .ow 1 a0]) (cs := [.str b0]) rfl rfl rfl rfl rfl ⟨_, _, rfl⟩ rfl rfl q3 rfl u3) ?_
  refine oz ?_
  refine gs (gB (ra hA 1 (by cbv) ?_))
  obtain ⟨k14, B4, y7, D6, C1⟩ := add_one hA pk9 qk9 hr2 e3
  refine ops_step rfl rfl (int_add hA rfl rfl rfl y7) ?_
  refine ra hA 1 (by cbv) (oz ?_)
  refine gs (gB (ra hA 5 (by cbv) ?_))
  have x3 : n5 < (List.length o13 : Int) := by rw [n2]; exact d1
  refine ops_step rfl rfl (idx_own rfl rfl rfl rfl rfl rfl h05 x3 rfl) ?_
  refine ra hA 1 (by cbv) ?_
  obtain ⟨o16, u1⟩ : ∃ r, r = o13.set (Int.toNat n5) [.int .i64 kk, .str b1, .str b0, .bool (A.cmp .eql (A.num .rem .i64 k14 3) 0), .int .i64 b5, .str b4, .ow 1 b3, .ow 1 a9, .int .i64 a8, .str a7, .ow 3 a5, .ow 1 a2, .int .i64 a3, .str a4, .str a6, .int .i64 a1, .ow 1 a0] := ⟨_, rfl⟩
  have i9 : o16 = o13.set (Int.toNat n5) [.int .i64 kk, .str b1, .str b0, .bool (A.cmp .eql (A.num .rem .i64 k14 3) 0), .int .i64 b5, .str b4, .ow 1 b3, .ow 1 a9, .int .i64 a8, .str a7, .ow 3 a5, .ow 1 a2, .int .i64 a3, .str a4, .str a6, .int .i64 a1, .ow 1 a0] := u1
  have o1 : (List.length o16 : Int) = List.length x := by rw [i9, List.length_set]; exact n2
  have n4 : o16[(Int.toNat n5)]? = some [.int .i64 kk, .str b1, .str b0, .bool (A.cmp .eql (A.num .rem .i64 k14 3) 0), .int .i64 b5, .str b4, .ow 1 b3, .ow 1 a9, .int .i64 a8, .str a7, .ow 3 a5, .ow 1 a2, .int .i64 a3, .str a4, .str a6, .int .i64 a1, .ow 1 a0] := by rw [i9]; exact set_self n8
  have v4 : o16 = ro.set (Int.toNat n5) [.int .i64 kk, .str b1, .str b0, .bool (A.cmp .eql (A.num .rem .i64 k14 3) 0), .int .i64 b5, .str b4, .ow 1 b3, .ow 1 a9, .int .i64 a8, .str a7, .ow 3 a5, .ow 1 a2, .int .i64 a3, .str a4, .str a6, .int .i64 a1, .ow 1 a0] := by rw [i9, z5, List.set_set]
  refine ops_step rfl rfl (sto_arr (r := [.int .i64 kk, .str b1, .str b0, .bool c7, .int .i64 b5, .str b4, .ow 1 b3, .ow 1 a9, .int .i64 a8, .str a7, .ow 3 a5, .ow 1 a2, .int .i64 a3, .str a4, .str a6, .int .i64 a1, .ow 1 a0]) (cs := [.bool (A.cmp .eql (A.num .rem .i64 k14 3) 0)]) rfl rfl rfl rfl rfl ⟨_, _, rfl⟩ rfl rfl n8 rfl u1) ?_
  refine oz ?_
  refine gs (gB (ra hA 1 (by cbv) ?_))
  obtain ⟨k17, B8, w5, D2, D7⟩ := add_one hA D6 C1 hr3 e4
  refine ops_step rfl rfl (int_add hA rfl rfl rfl w5) ?_
  refine ra hA 1 (by cbv) (oz ?_)
  refine gs (gB (ra hA 3 (by cbv) ?_))
  have v0 : n5 < (List.length o16 : Int) := by rw [o1]; exact d1
  refine ops_step rfl rfl (idx_own rfl rfl rfl rfl rfl rfl h05 v0 rfl) ?_
  refine ra hA 2 (by cbv) ?_
  obtain ⟨o19, p6⟩ : ∃ r, r = o16.set (Int.toNat n5) [.int .i64 kk, .str b1, .str b0, .bool (A.cmp .eql (A.num .rem .i64 k14 3) 0), .int .i64 k17, .str b4, .ow 1 b3, .ow 1 a9, .int .i64 a8, .str a7, .ow 3 a5, .ow 1 a2, .int .i64 a3, .str a4, .str a6, .int .i64 a1, .ow 1 a0] := ⟨_, rfl⟩
  have j4 : o19 = o16.set (Int.toNat n5) [.int .i64 kk, .str b1, .str b0, .bool (A.cmp .eql (A.num .rem .i64 k14 3) 0), .int .i64 k17, .str b4, .ow 1 b3, .ow 1 a9, .int .i64 a8, .str a7, .ow 3 a5, .ow 1 a2, .int .i64 a3, .str a4, .str a6, .int .i64 a1, .ow 1 a0] := p6
  have o2 : (List.length o19 : Int) = List.length x := by rw [j4, List.length_set]; exact o1
  have o4 : o19[(Int.toNat n5)]? = some [.int .i64 kk, .str b1, .str b0, .bool (A.cmp .eql (A.num .rem .i64 k14 3) 0), .int .i64 k17, .str b4, .ow 1 b3, .ow 1 a9, .int .i64 a8, .str a7, .ow 3 a5, .ow 1 a2, .int .i64 a3, .str a4, .str a6, .int .i64 a1, .ow 1 a0] := by rw [j4]; exact set_self n4
  have y6 : o19 = ro.set (Int.toNat n5) [.int .i64 kk, .str b1, .str b0, .bool (A.cmp .eql (A.num .rem .i64 k14 3) 0), .int .i64 k17, .str b4, .ow 1 b3, .ow 1 a9, .int .i64 a8, .str a7, .ow 3 a5, .ow 1 a2, .int .i64 a3, .str a4, .str a6, .int .i64 a1, .ow 1 a0] := by rw [j4, v4, List.set_set]
  refine ops_step rfl rfl (sto_arr (r := [.int .i64 kk, .str b1, .str b0, .bool (A.cmp .eql (A.num .rem .i64 k14 3) 0), .int .i64 b5, .str b4, .ow 1 b3, .ow 1 a9, .int .i64 a8, .str a7, .ow 3 a5, .ow 1 a2, .int .i64 a3, .str a4, .str a6, .int .i64 a1, .ow 1 a0]) (cs := [.int .i64 k17]) rfl rfl rfl rfl rfl ⟨_, _, rfl⟩ rfl rfl n4 rfl p6) ?_
  refine oz ?_
  refine gs (gB (ra hA 1 (by cbv) ?_))
  obtain ⟨k20, C6, u9, q5, s5⟩ := add_one hA D2 D7 hr4 e5
  refine ops_step rfl rfl (int_add hA rfl rfl rfl u9) ?_
  refine ra hA 1 (by cbv) (oz ?_)
  refine gs (gB (ra hA 3 (by cbv) ?_))
  obtain ⟨b2, o6, E3⟩ : ∃ (b2 : ByteArray), b2 = (mt k20) ∧ Real Try.prog 44 [.int .i64 k20] (.str b2) := ⟨_, rfl, by exact r_laws_markText A hA k20 q5 (le_k s5 e5)⟩
  refine ops_callV rfl rfl (by cbv) (by cbv) E3 (.inr rfl) (by cbv) ?_
  have w8 : n5 < (List.length o19 : Int) := by rw [o2]; exact d1
  refine ops_step rfl rfl (idx_own rfl rfl rfl rfl rfl rfl h05 w8 rfl) ?_
  refine ra hA 2 (by cbv) ?_
  obtain ⟨o24, p4⟩ : ∃ r, r = o19.set (Int.toNat n5) [.int .i64 kk, .str b1, .str b0, .bool (A.cmp .eql (A.num .rem .i64 k14 3) 0), .int .i64 k17, .str b2, .ow 1 b3, .ow 1 a9, .int .i64 a8, .str a7, .ow 3 a5, .ow 1 a2, .int .i64 a3, .str a4, .str a6, .int .i64 a1, .ow 1 a0] := ⟨_, rfl⟩
  have j5 : o24 = o19.set (Int.toNat n5) [.int .i64 kk, .str b1, .str b0, .bool (A.cmp .eql (A.num .rem .i64 k14 3) 0), .int .i64 k17, .str b2, .ow 1 b3, .ow 1 a9, .int .i64 a8, .str a7, .ow 3 a5, .ow 1 a2, .int .i64 a3, .str a4, .str a6, .int .i64 a1, .ow 1 a0] := p4
  have m6 : (List.length o24 : Int) = List.length x := by rw [j5, List.length_set]; exact o2
  have m4 : o24[(Int.toNat n5)]? = some [.int .i64 kk, .str b1, .str b0, .bool (A.cmp .eql (A.num .rem .i64 k14 3) 0), .int .i64 k17, .str b2, .ow 1 b3, .ow 1 a9, .int .i64 a8, .str a7, .ow 3 a5, .ow 1 a2, .int .i64 a3, .str a4, .str a6, .int .i64 a1, .ow 1 a0] := by rw [j5]; exact set_self o4
  have w1 : o24 = ro.set (Int.toNat n5) [.int .i64 kk, .str b1, .str b0, .bool (A.cmp .eql (A.num .rem .i64 k14 3) 0), .int .i64 k17, .str b2, .ow 1 b3, .ow 1 a9, .int .i64 a8, .str a7, .ow 3 a5, .ow 1 a2, .int .i64 a3, .str a4, .str a6, .int .i64 a1, .ow 1 a0] := by rw [j5, y6, List.set_set]
  refine ops_step rfl rfl (sto_arr (r := [.int .i64 kk, .str b1, .str b0, .bool (A.cmp .eql (A.num .rem .i64 k14 3) 0), .int .i64 k17, .str b4, .ow 1 b3, .ow 1 a9, .int .i64 a8, .str a7, .ow 3 a5, .ow 1 a2, .int .i64 a3, .str a4, .str a6, .int .i64 a1, .ow 1 a0]) (cs := [.str b2]) rfl rfl rfl rfl rfl ⟨_, _, rfl⟩ rfl rfl o4 rfl p4) ?_
  refine oz ?_
  refine gs (gB (ra hA 1 (by cbv) ?_))
  obtain ⟨k25, C3, w7, q4, t9⟩ := add_one hA q5 s5 hr5 e6
  refine ops_step rfl rfl (int_add hA rfl rfl rfl w7) ?_
  refine ra hA 1 (by cbv) (oz ?_)
  refine gs (gB (ra hA 2 (by cbv) ?_))
  have x8 : n5 < (List.length o24 : Int) := by rw [m6]; exact d1
  refine ops_step rfl rfl (idx_own rfl rfl rfl rfl rfl rfl h05 x8 rfl) ?_
  refine ra hA 2 (by cbv) ?_
  refine ops_nestR rfl rfl rfl rfl rfl rfl rfl m4 rfl rfl (fun w28 o27 D8 => ?_)
  have j9 : o27 = o24.set (Int.toNat n5) [.int .i64 kk, .str b1, .str b0, .bool (A.cmp .eql (A.num .rem .i64 k14 3) 0), .int .i64 k17, .str b2, .raw w28, .ow 1 a9, .int .i64 a8, .str a7, .ow 3 a5, .ow 1 a2, .int .i64 a3, .str a4, .str a6, .int .i64 a1, .ow 1 a0] := D8
  have y4 : (List.length o27 : Int) = List.length x := by rw [j9, List.length_set]; exact m6
  have l6 : o27[(Int.toNat n5)]? = some [.int .i64 kk, .str b1, .str b0, .bool (A.cmp .eql (A.num .rem .i64 k14 3) 0), .int .i64 k17, .str b2, .raw w28, .ow 1 a9, .int .i64 a8, .str a7, .ow 3 a5, .ow 1 a2, .int .i64 a3, .str a4, .str a6, .int .i64 a1, .ow 1 a0] := by rw [j9]; exact set_self m4
  have z3 : o27 = ro.set (Int.toNat n5) [.int .i64 kk, .str b1, .str b0, .bool (A.cmp .eql (A.num .rem .i64 k14 3) 0), .int .i64 k17, .str b2, .raw w28, .ow 1 a9, .int .i64 a8, .str a7, .ow 3 a5, .ow 1 a2, .int .i64 a3, .str a4, .str a6, .int .i64 a1, .ow 1 a0] := by rw [j9, w1, List.set_set]
  refine ra hA 1 (by cbv) ?_
  obtain ⟨b6, m29, g7, s9, y8⟩ : ∃ (b6 : RR) (m29 : Int), b6 = List.map eString (mkStringS k25 c9) ∧ m29 = k25 + cnStringS c9 ∧ RealM Try.prog 36 [.ow 1 b3, .int .i64 k25] [.ow 1 b6, .int .i64 k25] (.int .i64 m29) := ⟨_, _, rfl, rfl, by subst d6; exact m_laws_markStringS A hA c9 k25 q4 (le_cn t9 hr6 e7)⟩
  have E5 := rlen_map hA g7
  have g4 := add_cn s9 q4 t9 hr6 f6
  refine ops_callM rfl (by cbv) (by cbv) (by cbv) y8 rfl (by cbv) ?_
  refine ra hA 1 (by cbv) ?_
  obtain ⟨o30, s1⟩ : ∃ r, r = o27.set (Int.toNat n5) [.int .i64 kk, .str b1, .str b0, .bool (A.cmp .eql (A.num .rem .i64 k14 3) 0), .int .i64 k17, .str b2, .ow 1 b6, .ow 1 a9, .int .i64 a8, .str a7, .ow 3 a5, .ow 1 a2, .int .i64 a3, .str a4, .str a6, .int .i64 a1, .ow 1 a0] := ⟨_, rfl⟩
  have j0 : o30 = o27.set (Int.toNat n5) [.int .i64 kk, .str b1, .str b0, .bool (A.cmp .eql (A.num .rem .i64 k14 3) 0), .int .i64 k17, .str b2, .ow 1 b6, .ow 1 a9, .int .i64 a8, .str a7, .ow 3 a5, .ow 1 a2, .int .i64 a3, .str a4, .str a6, .int .i64 a1, .ow 1 a0] := s1
  have m9 : (List.length o30 : Int) = List.length x := by rw [j0, List.length_set]; exact y4
  have l0 : o30[(Int.toNat n5)]? = some [.int .i64 kk, .str b1, .str b0, .bool (A.cmp .eql (A.num .rem .i64 k14 3) 0), .int .i64 k17, .str b2, .ow 1 b6, .ow 1 a9, .int .i64 a8, .str a7, .ow 3 a5, .ow 1 a2, .int .i64 a3, .str a4, .str a6, .int .i64 a1, .ow 1 a0] := by rw [j0]; exact set_self l6
  have v5 : o30 = ro.set (Int.toNat n5) [.int .i64 kk, .str b1, .str b0, .bool (A.cmp .eql (A.num .rem .i64 k14 3) 0), .int .i64 k17, .str b2, .ow 1 b6, .ow 1 a9, .int .i64 a8, .str a7, .ow 3 a5, .ow 1 a2, .int .i64 a3, .str a4, .str a6, .int .i64 a1, .ow 1 a0] := by rw [j0, z3, List.set_set]
  refine ops_doneB (tweak_backR (D := 66) (d := 1000000000) (i := (Int.toNat n5)) (j := 6) rfl rfl rfl l6 rfl (by decide) s1 rfl) ?_
  refine gs (gB (ra hA 2 (by cbv) ?_))
  have v7 : n5 < (List.length o30 : Int) := by rw [m9]; exact d1
  refine ops_step rfl rfl (idx_own rfl rfl rfl rfl rfl rfl h05 v7 rfl) ?_
  refine ra hA 2 (by cbv) ?_
  refine ops_nestR rfl rfl rfl rfl rfl rfl rfl l0 rfl rfl (fun w33 o32 C4 => ?_)
  have j8 : o32 = o30.set (Int.toNat n5) [.int .i64 kk, .str b1, .str b0, .bool (A.cmp .eql (A.num .rem .i64 k14 3) 0), .int .i64 k17, .str b2, .ow 1 b6, .raw w33, .int .i64 a8, .str a7, .ow 3 a5, .ow 1 a2, .int .i64 a3, .str a4, .str a6, .int .i64 a1, .ow 1 a0] := C4
  have z4 : (List.length o32 : Int) = List.length x := by rw [j8, List.length_set]; exact m9
  have l4 : o32[(Int.toNat n5)]? = some [.int .i64 kk, .str b1, .str b0, .bool (A.cmp .eql (A.num .rem .i64 k14 3) 0), .int .i64 k17, .str b2, .ow 1 b6, .raw w33, .int .i64 a8, .str a7, .ow 3 a5, .ow 1 a2, .int .i64 a3, .str a4, .str a6, .int .i64 a1, .ow 1 a0] := by rw [j8]; exact set_self l0
  have y2 : o32 = ro.set (Int.toNat n5) [.int .i64 kk, .str b1, .str b0, .bool (A.cmp .eql (A.num .rem .i64 k14 3) 0), .int .i64 k17, .str b2, .ow 1 b6, .raw w33, .int .i64 a8, .str a7, .ow 3 a5, .ow 1 a2, .int .i64 a3, .str a4, .str a6, .int .i64 a1, .ow 1 a0] := by rw [j8, v5, List.set_set]
  refine ra hA 1 (by cbv) ?_
  obtain ⟨b8, m34, g8, s8, z1⟩ : ∃ (b8 : RR) (m34 : Int), b8 = List.map eString (mkStringS m29 c6) ∧ m34 = m29 + cnStringS c6 ∧ RealM Try.prog 36 [.ow 1 a9, .int .i64 m29] [.ow 1 b8, .int .i64 m29] (.int .i64 m34) := ⟨_, _, rfl, rfl, by subst d3; exact m_laws_markStringS A hA c6 m29 g4.1 (le_cn g4.2 hr7 e8)⟩
  have E9 := rlen_map hA g8
  have l5 := add_cn s8 g4.1 g4.2 hr7 d9
  refine ops_callM rfl (by cbv) (by cbv) (by cbv) z1 rfl (by cbv) ?_
  refine ra hA 1 (by cbv) ?_
  obtain ⟨o35, s7⟩ : ∃ r, r = o32.set (Int.toNat n5) [.int .i64 kk, .str b1, .str b0, .bool (A.cmp .eql (A.num .rem .i64 k14 3) 0), .int .i64 k17, .str b2, .ow 1 b6, .ow 1 b8, .int .i64 a8, .str a7, .ow 3 a5, .ow 1 a2, .int .i64 a3, .str a4, .str a6, .int .i64 a1, .ow 1 a0] := ⟨_, rfl⟩
  have i1 : o35 = o32.set (Int.toNat n5) [.int .i64 kk, .str b1, .str b0, .bool (A.cmp .eql (A.num .rem .i64 k14 3) 0), .int .i64 k17, .str b2, .ow 1 b6, .ow 1 b8, .int .i64 a8, .str a7, .ow 3 a5, .ow 1 a2, .int .i64 a3, .str a4, .str a6, .int .i64 a1, .ow 1 a0] := s7
  have o0 : (List.length o35 : Int) = List.length x := by rw [i1, List.length_set]; exact z4
  have m5 : o35[(Int.toNat n5)]? = some [.int .i64 kk, .str b1, .str b0, .bool (A.cmp .eql (A.num .rem .i64 k14 3) 0), .int .i64 k17, .str b2, .ow 1 b6, .ow 1 b8, .int .i64 a8, .str a7, .ow 3 a5, .ow 1 a2, .int .i64 a3, .str a4, .str a6, .int .i64 a1, .ow 1 a0] := by rw [i1]; exact set_self l4
  have u5 : o35 = ro.set (Int.toNat n5) [.int .i64 kk, .str b1, .str b0, .bool (A.cmp .eql (A.num .rem .i64 k14 3) 0), .int .i64 k17, .str b2, .ow 1 b6, .ow 1 b8, .int .i64 a8, .str a7, .ow 3 a5, .ow 1 a2, .int .i64 a3, .str a4, .str a6, .int .i64 a1, .ow 1 a0] := by rw [i1, y2, List.set_set]
  refine ops_doneB (tweak_backR (D := 74) (d := 1000000000) (i := (Int.toNat n5)) (j := 7) rfl rfl rfl l4 rfl (by decide) s7 rfl) ?_
  refine gs (gB (ra hA 3 (by cbv) ?_))
  have v3 : n5 < (List.length o35 : Int) := by rw [o0]; exact d1
  refine ops_step rfl rfl (idx_own rfl rfl rfl rfl rfl rfl h05 v3 rfl) ?_
  refine ra hA 2 (by cbv) ?_
  obtain ⟨o37, s4⟩ : ∃ r, r = o35.set (Int.toNat n5) [.int .i64 kk, .str b1, .str b0, .bool (A.cmp .eql (A.num .rem .i64 k14 3) 0), .int .i64 k17, .str b2, .ow 1 b6, .ow 1 b8, .int .i64 m34, .str a7, .ow 3 a5, .ow 1 a2, .int .i64 a3, .str a4, .str a6, .int .i64 a1, .ow 1 a0] := ⟨_, rfl⟩
  have j3 : o37 = o35.set (Int.toNat n5) [.int .i64 kk, .str b1, .str b0, .bool (A.cmp .eql (A.num .rem .i64 k14 3) 0), .int .i64 k17, .str b2, .ow 1 b6, .ow 1 b8, .int .i64 m34, .str a7, .ow 3 a5, .ow 1 a2, .int .i64 a3, .str a4, .str a6, .int .i64 a1, .ow 1 a0] := s4
  have l1 : (List.length o37 : Int) = List.length x := by rw [j3, List.length_set]; exact o0
  have m8 : o37[(Int.toNat n5)]? = some [.int .i64 kk, .str b1, .str b0, .bool (A.cmp .eql (A.num .rem .i64 k14 3) 0), .int .i64 k17, .str b2, .ow 1 b6, .ow 1 b8, .int .i64 m34, .str a7, .ow 3 a5, .ow 1 a2, .int .i64 a3, .str a4, .str a6, .int .i64 a1, .ow 1 a0] := by rw [j3]; exact set_self m5
  have y5 : o37 = ro.set (Int.toNat n5) [.int .i64 kk, .str b1, .str b0, .bool (A.cmp .eql (A.num .rem .i64 k14 3) 0), .int .i64 k17, .str b2, .ow 1 b6, .ow 1 b8, .int .i64 m34, .str a7, .ow 3 a5, .ow 1 a2, .int .i64 a3, .str a4, .str a6, .int .i64 a1, .ow 1 a0] := by rw [j3, u5, List.set_set]
  refine ops_step rfl rfl (sto_arr (r := [.int .i64 kk, .str b1, .str b0, .bool (A.cmp .eql (A.num .rem .i64 k14 3) 0), .int .i64 k17, .str b2, .ow 1 b6, .ow 1 b8, .int .i64 a8, .str a7, .ow 3 a5, .ow 1 a2, .int .i64 a3, .str a4, .str a6, .int .i64 a1, .ow 1 a0]) (cs := [.int .i64 m34]) rfl rfl rfl rfl rfl ⟨_, _, rfl⟩ rfl rfl m5 rfl s4) ?_
  refine oz ?_
  refine gs (gB (ra hA 1 (by cbv) ?_))
  obtain ⟨k38, C9, u6, s6, q2⟩ := add_one hA l5.1 l5.2 hr8 e9
  refine ops_step rfl rfl (int_add hA rfl rfl rfl u6) ?_
  refine ra hA 1 (by cbv) (oz ?_)
  refine gs (gB (ra hA 3 (by cbv) ?_))
  obtain ⟨b7, o9, C2⟩ : ∃ (b7 : ByteArray), b7 = (mt k38) ∧ Real Try.prog 44 [.int .i64 k38] (.str b7) := ⟨_, rfl, by exact r_laws_markText A hA k38 s6 (le_k q2 e9)⟩
  refine ops_callV rfl rfl (by cbv) (by cbv) C2 (.inr rfl) (by cbv) ?_
  have x1 : n5 < (List.length o37 : Int) := by rw [l1]; exact d1
  refine ops_step rfl rfl (idx_own rfl rfl rfl rfl rfl rfl h05 x1 rfl) ?_
  refine ra hA 2 (by cbv) ?_
  obtain ⟨o42, u0⟩ : ∃ r, r = o37.set (Int.toNat n5) [.int .i64 kk, .str b1, .str b0, .bool (A.cmp .eql (A.num .rem .i64 k14 3) 0), .int .i64 k17, .str b2, .ow 1 b6, .ow 1 b8, .int .i64 m34, .str b7, .ow 3 a5, .ow 1 a2, .int .i64 a3, .str a4, .str a6, .int .i64 a1, .ow 1 a0] := ⟨_, rfl⟩
  have i3 : o42 = o37.set (Int.toNat n5) [.int .i64 kk, .str b1, .str b0, .bool (A.cmp .eql (A.num .rem .i64 k14 3) 0), .int .i64 k17, .str b2, .ow 1 b6, .ow 1 b8, .int .i64 m34, .str b7, .ow 3 a5, .ow 1 a2, .int .i64 a3, .str a4, .str a6, .int .i64 a1, .ow 1 a0] := u0
  have l3 : (List.length o42 : Int) = List.length x := by rw [i3, List.length_set]; exact l1
  have m7 : o42[(Int.toNat n5)]? = some [.int .i64 kk, .str b1, .str b0, .bool (A.cmp .eql (A.num .rem .i64 k14 3) 0), .int .i64 k17, .str b2, .ow 1 b6, .ow 1 b8, .int .i64 m34, .str b7, .ow 3 a5, .ow 1 a2, .int .i64 a3, .str a4, .str a6, .int .i64 a1, .ow 1 a0] := by rw [i3]; exact set_self m8
  have w0 : o42 = ro.set (Int.toNat n5) [.int .i64 kk, .str b1, .str b0, .bool (A.cmp .eql (A.num .rem .i64 k14 3) 0), .int .i64 k17, .str b2, .ow 1 b6, .ow 1 b8, .int .i64 m34, .str b7, .ow 3 a5, .ow 1 a2, .int .i64 a3, .str a4, .str a6, .int .i64 a1, .ow 1 a0] := by rw [i3, y5, List.set_set]
  refine ops_step rfl rfl (sto_arr (r := [.int .i64 kk, .str b1, .str b0, .bool (A.cmp .eql (A.num .rem .i64 k14 3) 0), .int .i64 k17, .str b2, .ow 1 b6, .ow 1 b8, .int .i64 m34, .str a7, .ow 3 a5, .ow 1 a2, .int .i64 a3, .str a4, .str a6, .int .i64 a1, .ow 1 a0]) (cs := [.str b7]) rfl rfl rfl rfl rfl ⟨_, _, rfl⟩ rfl rfl m8 rfl u0) ?_
  refine oz ?_
  refine gs (gB (ra hA 1 (by cbv) ?_))
  obtain ⟨k43, B7, B1, t8, u2⟩ := add_one hA s6 q2 hr9 e10
  refine ops_step rfl rfl (int_add hA rfl rfl rfl B1) ?_
  refine ra hA 1 (by cbv) (oz ?_)
  refine gs (gB (ra hA 2 (by cbv) ?_))
  have u7 : n5 < (List.length o42 : Int) := by rw [l3]; exact d1
  refine ops_step rfl rfl (idx_own rfl rfl rfl rfl rfl rfl h05 u7 rfl) ?_
  refine ra hA 2 (by cbv) ?_
  refine ops_nestR rfl rfl rfl rfl rfl rfl rfl m7 rfl rfl (fun w46 o45 C7 => ?_)
  have j1 : o45 = o42.set (Int.toNat n5) [.int .i64 kk, .str b1, .str b0, .bool (A.cmp .eql (A.num .rem .i64 k14 3) 0), .int .i64 k17, .str b2, .ow 1 b6, .ow 1 b8, .int .i64 m34, .str b7, .raw w46, .ow 1 a2, .int .i64 a3, .str a4, .str a6, .int .i64 a1, .ow 1 a0] := C7
  have v2 : (List.length o45 : Int) = List.length x := by rw [j1, List.length_set]; exact l3
  have k6 : o45[(Int.toNat n5)]? = some [.int .i64 kk, .str b1, .str b0, .bool (A.cmp .eql (A.num .rem .i64 k14 3) 0), .int .i64 k17, .str b2, .ow 1 b6, .ow 1 b8, .int .i64 m34, .str b7, .raw w46, .ow 1 a2, .int .i64 a3, .str a4, .str a6, .int .i64 a1, .ow 1 a0] := by rw [j1]; exact set_self m7
  have x2 : o45 = ro.set (Int.toNat n5) [.int .i64 kk, .str b1, .str b0, .bool (A.cmp .eql (A.num .rem .i64 k14 3) 0), .int .i64 k17, .str b2, .ow 1 b6, .ow 1 b8, .int .i64 m34, .str b7, .raw w46, .ow 1 a2, .int .i64 a3, .str a4, .str a6, .int .i64 a1, .ow 1 a0] := by rw [j1, w0, List.set_set]
  refine ra hA 1 (by cbv) ?_
  obtain ⟨b9, m47, g5, s0, w4⟩ : ∃ (b9 : RR) (m47 : Int), b9 = List.map eoMail (mkMailS k43 c4) ∧ m47 = k43 + cnMailS c4 ∧ RealM Try.prog 114 [.ow 3 a5, .int .i64 k43] [.ow 3 b9, .int .i64 k43] (.int .i64 m47) := ⟨_, _, rfl, rfl, by subst d2; exact m_laws_markMailS A hA c4 k43 t8 (le_cn u2 f2 e11)⟩
  have E6 := rlen_map hA g5
  have g3 := add_cn s0 t8 u2 f2 d7
  refine ops_callM rfl (by cbv) (by cbv) (by cbv) w4 rfl (by cbv) ?_
  refine ra hA 1 (by cbv) ?_
  obtain ⟨o48, p7⟩ : ∃ r, r = o45.set (Int.toNat n5) [.int .i64 kk, .str b1, .str b0, .bool (A.cmp .eql (A.num .rem .i64 k14 3) 0), .int .i64 k17, .str b2, .ow 1 b6, .ow 1 b8, .int .i64 m34, .str b7, .ow 3 b9, .ow 1 a2, .int .i64 a3, .str a4, .str a6, .int .i64 a1, .ow 1 a0] := ⟨_, rfl⟩
  have i7 : o48 = o45.set (Int.toNat n5) [.int .i64 kk, .str b1, .str b0, .bool (A.cmp .eql (A.num .rem .i64 k14 3) 0), .int .i64 k17, .str b2, .ow 1 b6, .ow 1 b8, .int .i64 m34, .str b7, .ow 3 b9, .ow 1 a2, .int .i64 a3, .str a4, .str a6, .int .i64 a1, .ow 1 a0] := p7
  have l2 : (List.length o48 : Int) = List.length x := by rw [i7, List.length_set]; exact v2
  have k7 : o48[(Int.toNat n5)]? = some [.int .i64 kk, .str b1, .str b0, .bool (A.cmp .eql (A.num .rem .i64 k14 3) 0), .int .i64 k17, .str b2, .ow 1 b6, .ow 1 b8, .int .i64 m34, .str b7, .ow 3 b9, .ow 1 a2, .int .i64 a3, .str a4, .str a6, .int .i64 a1, .ow 1 a0] := by rw [i7]; exact set_self k6
  have w9 : o48 = ro.set (Int.toNat n5) [.int .i64 kk, .str b1, .str b0, .bool (A.cmp .eql (A.num .rem .i64 k14 3) 0), .int .i64 k17, .str b2, .ow 1 b6, .ow 1 b8, .int .i64 m34, .str b7, .ow 3 b9, .ow 1 a2, .int .i64 a3, .str a4, .str a6, .int .i64 a1, .ow 1 a0] := by rw [i7, x2, List.set_set]
  refine ops_doneB (tweak_backR (D := 99) (d := 1000000000) (i := (Int.toNat n5)) (j := 10) rfl rfl rfl k6 rfl (by decide) p7 rfl) ?_
  refine gs (gB (ra hA 2 (by cbv) ?_))
  have y9 : n5 < (List.length o48 : Int) := by rw [l2]; exact d1
  refine ops_step rfl rfl (idx_own rfl rfl rfl rfl rfl rfl h05 y9 rfl) ?_
  refine ra hA 2 (by cbv) ?_
  refine ops_nestR rfl rfl rfl rfl rfl rfl rfl k7 rfl rfl (fun w51 o50 B3 => ?_)
  have j6 : o50 = o48.set (Int.toNat n5) [.int .i64 kk, .str b1, .str b0, .bool (A.cmp .eql (A.num .rem .i64 k14 3) 0), .int .i64 k17, .str b2, .ow 1 b6, .ow 1 b8, .int .i64 m34, .str b7, .ow 3 b9, .raw w51, .int .i64 a3, .str a4, .str a6, .int .i64 a1, .ow 1 a0] := B3
  have z6 : (List.length o50 : Int) = List.length x := by rw [j6, List.length_set]; exact l2
  have n0 : o50[(Int.toNat n5)]? = some [.int .i64 kk, .str b1, .str b0, .bool (A.cmp .eql (A.num .rem .i64 k14 3) 0), .int .i64 k17, .str b2, .ow 1 b6, .ow 1 b8, .int .i64 m34, .str b7, .ow 3 b9, .raw w51, .int .i64 a3, .str a4, .str a6, .int .i64 a1, .ow 1 a0] := by rw [j6]; exact set_self k7
  have x4 : o50 = ro.set (Int.toNat n5) [.int .i64 kk, .str b1, .str b0, .bool (A.cmp .eql (A.num .rem .i64 k14 3) 0), .int .i64 k17, .str b2, .ow 1 b6, .ow 1 b8, .int .i64 m34, .str b7, .ow 3 b9, .raw w51, .int .i64 a3, .str a4, .str a6, .int .i64 a1, .ow 1 a0] := by rw [j6, w9, List.set_set]
  refine ra hA 1 (by cbv) ?_
  obtain ⟨c2, m52, g6, q8, x6⟩ : ∃ (c2 : RR) (m52 : Int), c2 = List.map eBool (mkBoolS m47 c5) ∧ m52 = m47 + cnBoolS c5 ∧ RealM Try.prog 115 [.ow 1 a2, .int .i64 m47] [.ow 1 c2, .int .i64 m47] (.int .i64 m52) := ⟨_, _, rfl, rfl, by subst d4; exact m_laws_markBoolS A hA c5 m47 g3.1 (le_cn g3.2 f4 e12)⟩
  have E7 := rlen_map hA g6
  have m1 := add_cn q8 g3.1 g3.2 f4 d8
  refine ops_callM rfl (by cbv) (by cbv) (by cbv) x6 rfl (by cbv) ?_
  refine ra hA 1 (by cbv) ?_
  obtain ⟨o53, s3⟩ : ∃ r, r = o50.set (Int.toNat n5) [.int .i64 kk, .str b1, .str b0, .bool (A.cmp .eql (A.num .rem .i64 k14 3) 0), .int .i64 k17, .str b2, .ow 1 b6, .ow 1 b8, .int .i64 m34, .str b7, .ow 3 b9, .ow 1 c2, .int .i64 a3, .str a4, .str a6, .int .i64 a1, .ow 1 a0] := ⟨_, rfl⟩
  have i6 : o53 = o50.set (Int.toNat n5) [.int .i64 kk, .str b1, .str b0, .bool (A.cmp .eql (A.num .rem .i64 k14 3) 0), .int .i64 k17, .str b2, .ow 1 b6, .ow 1 b8, .int .i64 m34, .str b7, .ow 3 b9, .ow 1 c2, .int .i64 a3, .str a4, .str a6, .int .i64 a1, .ow 1 a0] := s3
  have k8 : (List.length o53 : Int) = List.length x := by rw [i6, List.length_set]; exact z6
  have n6 : o53[(Int.toNat n5)]? = some [.int .i64 kk, .str b1, .str b0, .bool (A.cmp .eql (A.num .rem .i64 k14 3) 0), .int .i64 k17, .str b2, .ow 1 b6, .ow 1 b8, .int .i64 m34, .str b7, .ow 3 b9, .ow 1 c2, .int .i64 a3, .str a4, .str a6, .int .i64 a1, .ow 1 a0] := by rw [i6]; exact set_self n0
  have y0 : o53 = ro.set (Int.toNat n5) [.int .i64 kk, .str b1, .str b0, .bool (A.cmp .eql (A.num .rem .i64 k14 3) 0), .int .i64 k17, .str b2, .ow 1 b6, .ow 1 b8, .int .i64 m34, .str b7, .ow 3 b9, .ow 1 c2, .int .i64 a3, .str a4, .str a6, .int .i64 a1, .ow 1 a0] := by rw [i6, x4, List.set_set]
  refine ops_doneB (tweak_backR (D := 107) (d := 1000000000) (i := (Int.toNat n5)) (j := 11) rfl rfl rfl n0 rfl (by decide) s3 rfl) ?_
  refine gs (gB (ra hA 3 (by cbv) ?_))
  have y1 : n5 < (List.length o53 : Int) := by rw [k8]; exact d1
  refine ops_step rfl rfl (idx_own rfl rfl rfl rfl rfl rfl h05 y1 rfl) ?_
  refine ra hA 2 (by cbv) ?_
  obtain ⟨o55, t4⟩ : ∃ r, r = o53.set (Int.toNat n5) [.int .i64 kk, .str b1, .str b0, .bool (A.cmp .eql (A.num .rem .i64 k14 3) 0), .int .i64 k17, .str b2, .ow 1 b6, .ow 1 b8, .int .i64 m34, .str b7, .ow 3 b9, .ow 1 c2, .int .i64 m52, .str a4, .str a6, .int .i64 a1, .ow 1 a0] := ⟨_, rfl⟩
  have i4 : o55 = o53.set (Int.toNat n5) [.int .i64 kk, .str b1, .str b0, .bool (A.cmp .eql (A.num .rem .i64 k14 3) 0), .int .i64 k17, .str b2, .ow 1 b6, .ow 1 b8, .int .i64 m34, .str b7, .ow 3 b9, .ow 1 c2, .int .i64 m52, .str a4, .str a6, .int .i64 a1, .ow 1 a0] := t4
  have n7 : (List.length o55 : Int) = List.length x := by rw [i4, List.length_set]; exact k8
  have l7 : o55[(Int.toNat n5)]? = some [.int .i64 kk, .str b1, .str b0, .bool (A.cmp .eql (A.num .rem .i64 k14 3) 0), .int .i64 k17, .str b2, .ow 1 b6, .ow 1 b8, .int .i64 m34, .str b7, .ow 3 b9, .ow 1 c2, .int .i64 m52, .str a4, .str a6, .int .i64 a1, .ow 1 a0] := by rw [i4]; exact set_self n6
  have v6 : o55 = ro.set (Int.toNat n5) [.int .i64 kk, .str b1, .str b0, .bool (A.cmp .eql (A.num .rem .i64 k14 3) 0), .int .i64 k17, .str b2, .ow 1 b6, .ow 1 b8, .int .i64 m34, .str b7, .ow 3 b9, .ow 1 c2, .int .i64 m52, .str a4, .str a6, .int .i64 a1, .ow 1 a0] := by rw [i4, y0, List.set_set]
  refine ops_step rfl rfl (sto_arr (r := [.int .i64 kk, .str b1, .str b0, .bool (A.cmp .eql (A.num .rem .i64 k14 3) 0), .int .i64 k17, .str b2, .ow 1 b6, .ow 1 b8, .int .i64 m34, .str b7, .ow 3 b9, .ow 1 c2, .int .i64 a3, .str a4, .str a6, .int .i64 a1, .ow 1 a0]) (cs := [.int .i64 m52]) rfl rfl rfl rfl rfl ⟨_, _, rfl⟩ rfl rfl n6 rfl t4) ?_
  refine oz ?_
  refine gs (gB (ra hA 1 (by cbv) ?_))
  obtain ⟨k56, E2, y3, p8, t0⟩ := add_one hA m1.1 m1.2 f8 e13
  refine ops_step rfl rfl (int_add hA rfl rfl rfl y3) ?_
  refine ra hA 1 (by cbv) (oz ?_)
  refine gs (gB (ra hA 3 (by cbv) ?_))
  obtain ⟨c0, j2, B5⟩ : ∃ (c0 : ByteArray), c0 = (mt k56) ∧ Real Try.prog 44 [.int .i64 k56] (.str c0) := ⟨_, rfl, by exact r_laws_markText A hA k56 p8 (le_k t0 e13)⟩
  refine ops_callV rfl rfl (by cbv) (by cbv) B5 (.inr rfl) (by cbv) ?_
  have v1 : n5 < (List.length o55 : Int) := by rw [n7]; exact d1
  refine ops_step rfl rfl (idx_own rfl rfl rfl rfl rfl rfl h05 v1 rfl) ?_
  refine ra hA 2 (by cbv) ?_
  obtain ⟨o60, q6⟩ : ∃ r, r = o55.set (Int.toNat n5) [.int .i64 kk, .str b1, .str b0, .bool (A.cmp .eql (A.num .rem .i64 k14 3) 0), .int .i64 k17, .str b2, .ow 1 b6, .ow 1 b8, .int .i64 m34, .str b7, .ow 3 b9, .ow 1 c2, .int .i64 m52, .str c0, .str a6, .int .i64 a1, .ow 1 a0] := ⟨_, rfl⟩
  have i8 : o60 = o55.set (Int.toNat n5) [.int .i64 kk, .str b1, .str b0, .bool (A.cmp .eql (A.num .rem .i64 k14 3) 0), .int .i64 k17, .str b2, .ow 1 b6, .ow 1 b8, .int .i64 m34, .str b7, .ow 3 b9, .ow 1 c2, .int .i64 m52, .str c0, .str a6, .int .i64 a1, .ow 1 a0] := q6
  have n1 : (List.length o60 : Int) = List.length x := by rw [i8, List.length_set]; exact n7
  have m0 : o60[(Int.toNat n5)]? = some [.int .i64 kk, .str b1, .str b0, .bool (A.cmp .eql (A.num .rem .i64 k14 3) 0), .int .i64 k17, .str b2, .ow 1 b6, .ow 1 b8, .int .i64 m34, .str b7, .ow 3 b9, .ow 1 c2, .int .i64 m52, .str c0, .str a6, .int .i64 a1, .ow 1 a0] := by rw [i8]; exact set_self l7
  have x0 : o60 = ro.set (Int.toNat n5) [.int .i64 kk, .str b1, .str b0, .bool (A.cmp .eql (A.num .rem .i64 k14 3) 0), .int .i64 k17, .str b2, .ow 1 b6, .ow 1 b8, .int .i64 m34, .str b7, .ow 3 b9, .ow 1 c2, .int .i64 m52, .str c0, .str a6, .int .i64 a1, .ow 1 a0] := by rw [i8, v6, List.set_set]
  refine ops_step rfl rfl (sto_arr (r := [.int .i64 kk, .str b1, .str b0, .bool (A.cmp .eql (A.num .rem .i64 k14 3) 0), .int .i64 k17, .str b2, .ow 1 b6, .ow 1 b8, .int .i64 m34, .str b7, .ow 3 b9, .ow 1 c2, .int .i64 m52, .str a4, .str a6, .int .i64 a1, .ow 1 a0]) (cs := [.str c0]) rfl rfl rfl rfl rfl ⟨_, _, rfl⟩ rfl rfl l7 rfl q6) ?_
  refine oz ?_
  refine gs (gB (ra hA 1 (by cbv) ?_))
  obtain ⟨k61, B6, z0, t5, q9⟩ := add_one hA p8 t0 f9 e14
  refine ops_step rfl rfl (int_add hA rfl rfl rfl z0) ?_
  refine ra hA 1 (by cbv) (oz ?_)
  refine gs (gB (ra hA 3 (by cbv) ?_))
  obtain ⟨c3, k1, D4⟩ : ∃ (c3 : ByteArray), c3 = (mt k61) ∧ Real Try.prog 44 [.int .i64 k61] (.str c3) := ⟨_, rfl, by exact r_laws_markText A hA k61 t5 (le_k q9 e14)⟩
  refine ops_callV rfl rfl (by cbv) (by cbv) D4 (.inr rfl) (by cbv) ?_
  have z2 : n5 < (List.length o60 : Int) := by rw [n1]; exact d1
  refine ops_step rfl rfl (idx_own rfl rfl rfl rfl rfl rfl h05 z2 rfl) ?_
  refine ra hA 2 (by cbv) ?_
  obtain ⟨o65, t2⟩ : ∃ r, r = o60.set (Int.toNat n5) [.int .i64 kk, .str b1, .str b0, .bool (A.cmp .eql (A.num .rem .i64 k14 3) 0), .int .i64 k17, .str b2, .ow 1 b6, .ow 1 b8, .int .i64 m34, .str b7, .ow 3 b9, .ow 1 c2, .int .i64 m52, .str c0, .str c3, .int .i64 a1, .ow 1 a0] := ⟨_, rfl⟩
  have i2 : o65 = o60.set (Int.toNat n5) [.int .i64 kk, .str b1, .str b0, .bool (A.cmp .eql (A.num .rem .i64 k14 3) 0), .int .i64 k17, .str b2, .ow 1 b6, .ow 1 b8, .int .i64 m34, .str b7, .ow 3 b9, .ow 1 c2, .int .i64 m52, .str c0, .str c3, .int .i64 a1, .ow 1 a0] := t2
  have m3 : (List.length o65 : Int) = List.length x := by rw [i2, List.length_set]; exact n1
  have m2 : o65[(Int.toNat n5)]? = some [.int .i64 kk, .str b1, .str b0, .bool (A.cmp .eql (A.num .rem .i64 k14 3) 0), .int .i64 k17, .str b2, .ow 1 b6, .ow 1 b8, .int .i64 m34, .str b7, .ow 3 b9, .ow 1 c2, .int .i64 m52, .str c0, .str c3, .int .i64 a1, .ow 1 a0] := by rw [i2]; exact set_self m0
  have v8 : o65 = ro.set (Int.toNat n5) [.int .i64 kk, .str b1, .str b0, .bool (A.cmp .eql (A.num .rem .i64 k14 3) 0), .int .i64 k17, .str b2, .ow 1 b6, .ow 1 b8, .int .i64 m34, .str b7, .ow 3 b9, .ow 1 c2, .int .i64 m52, .str c0, .str c3, .int .i64 a1, .ow 1 a0] := by rw [i2, x0, List.set_set]
  refine ops_step rfl rfl (sto_arr (r := [.int .i64 kk, .str b1, .str b0, .bool (A.cmp .eql (A.num .rem .i64 k14 3) 0), .int .i64 k17, .str b2, .ow 1 b6, .ow 1 b8, .int .i64 m34, .str b7, .ow 3 b9, .ow 1 c2, .int .i64 m52, .str c0, .str a6, .int .i64 a1, .ow 1 a0]) (cs := [.str c3]) rfl rfl rfl rfl rfl ⟨_, _, rfl⟩ rfl rfl m0 rfl t2) ?_
  refine oz ?_
  refine gs (gB (ra hA 1 (by cbv) ?_))
  obtain ⟨k66, E0, z9, D5, C5⟩ := add_one hA t5 q9 f7 e15
  refine ops_step rfl rfl (int_add hA rfl rfl rfl z9) ?_
  refine ra hA 1 (by cbv) (oz ?_)
  refine gs (gB (ra hA 3 (by cbv) ?_))
  have v9 : n5 < (List.length o65 : Int) := by rw [m3]; exact d1
  refine ops_step rfl rfl (idx_own rfl rfl rfl rfl rfl rfl h05 v9 rfl) ?_
  refine ra hA 2 (by cbv) ?_
  obtain ⟨o68, p9⟩ : ∃ r, r = o65.set (Int.toNat n5) [.int .i64 kk, .str b1, .str b0, .bool (A.cmp .eql (A.num .rem .i64 k14 3) 0), .int .i64 k17, .str b2, .ow 1 b6, .ow 1 b8, .int .i64 m34, .str b7, .ow 3 b9, .ow 1 c2, .int .i64 m52, .str c0, .str c3, .int .i64 k66, .ow 1 a0] := ⟨_, rfl⟩
  have i0 : o68 = o65.set (Int.toNat n5) [.int .i64 kk, .str b1, .str b0, .bool (A.cmp .eql (A.num .rem .i64 k14 3) 0), .int .i64 k17, .str b2, .ow 1 b6, .ow 1 b8, .int .i64 m34, .str b7, .ow 3 b9, .ow 1 c2, .int .i64 m52, .str c0, .str c3, .int .i64 k66, .ow 1 a0] := p9
  have l8 : (List.length o68 : Int) = List.length x := by rw [i0, List.length_set]; exact m3
  have n3 : o68[(Int.toNat n5)]? = some [.int .i64 kk, .str b1, .str b0, .bool (A.cmp .eql (A.num .rem .i64 k14 3) 0), .int .i64 k17, .str b2, .ow 1 b6, .ow 1 b8, .int .i64 m34, .str b7, .ow 3 b9, .ow 1 c2, .int .i64 m52, .str c0, .str c3, .int .i64 k66, .ow 1 a0] := by rw [i0]; exact set_self m2
  have x5 : o68 = ro.set (Int.toNat n5) [.int .i64 kk, .str b1, .str b0, .bool (A.cmp .eql (A.num .rem .i64 k14 3) 0), .int .i64 k17, .str b2, .ow 1 b6, .ow 1 b8, .int .i64 m34, .str b7, .ow 3 b9, .ow 1 c2, .int .i64 m52, .str c0, .str c3, .int .i64 k66, .ow 1 a0] := by rw [i0, v8, List.set_set]
  refine ops_step rfl rfl (sto_arr (r := [.int .i64 kk, .str b1, .str b0, .bool (A.cmp .eql (A.num .rem .i64 k14 3) 0), .int .i64 k17, .str b2, .ow 1 b6, .ow 1 b8, .int .i64 m34, .str b7, .ow 3 b9, .ow 1 c2, .int .i64 m52, .str c0, .str c3, .int .i64 a1, .ow 1 a0]) (cs := [.int .i64 k66]) rfl rfl rfl rfl rfl ⟨_, _, rfl⟩ rfl rfl m2 rfl p9) ?_
  refine oz ?_
  refine gs (gB (ra hA 1 (by cbv) ?_))
  obtain ⟨k69, E1, z8, q7, q1⟩ := add_one hA D5 C5 g1 e16
  refine ops_step rfl rfl (int_add hA rfl rfl rfl z8) ?_
  refine ra hA 1 (by cbv) (oz ?_)
  refine gB (ra hA 2 (by cbv) ?_)
  have w3 : n5 < (List.length o68 : Int) := by rw [l8]; exact d1
  refine ops_step rfl rfl (idx_own rfl rfl rfl rfl rfl rfl h05 w3 rfl) ?_
  refine ra hA 2 (by cbv) ?_
  refine ops_nestR rfl rfl rfl rfl rfl rfl rfl n3 rfl rfl (fun w72 o71 C8 => ?_)
  have j7 : o71 = o68.set (Int.toNat n5) [.int .i64 kk, .str b1, .str b0, .bool (A.cmp .eql (A.num .rem .i64 k14 3) 0), .int .i64 k17, .str b2, .ow 1 b6, .ow 1 b8, .int .i64 m34, .str b7, .ow 3 b9, .ow 1 c2, .int .i64 m52, .str c0, .str c3, .int .i64 k66, .raw w72] := C8
  have x7 : (List.length o71 : Int) = List.length x := by rw [j7, List.length_set]; exact l8
  have k5 : o71[(Int.toNat n5)]? = some [.int .i64 kk, .str b1, .str b0, .bool (A.cmp .eql (A.num .rem .i64 k14 3) 0), .int .i64 k17, .str b2, .ow 1 b6, .ow 1 b8, .int .i64 m34, .str b7, .ow 3 b9, .ow 1 c2, .int .i64 m52, .str c0, .str c3, .int .i64 k66, .raw w72] := by rw [j7]; exact set_self n3
  have w2 : o71 = ro.set (Int.toNat n5) [.int .i64 kk, .str b1, .str b0, .bool (A.cmp .eql (A.num .rem .i64 k14 3) 0), .int .i64 k17, .str b2, .ow 1 b6, .ow 1 b8, .int .i64 m34, .str b7, .ow 3 b9, .ow 1 c2, .int .i64 m52, .str c0, .str c3, .int .i64 k66, .raw w72] := by rw [j7, x5, List.set_set]
  refine ra hA 1 (by cbv) ?_
  obtain ⟨f1, m73, g9, p5, B0⟩ : ∃ (f1 : RR) (m73 : Int), f1 = List.map eInt (mkIntS k69 c8) ∧ m73 = k69 + cnIntS c8 ∧ RealM Try.prog 45 [.ow 1 a0, .int .i64 k69] [.ow 1 f1, .int .i64 k69] (.int .i64 m73) := ⟨_, _, rfl, rfl, by subst d5; exact m_laws_markIntS A hA c8 k69 q7 (le_cn q1 f5 e17)⟩
  have E8 := rlen_map hA g9
  have u8 := add_cn p5 q7 q1 f5 f0
  refine ops_callM rfl (by cbv) (by cbv) (by cbv) B0 rfl (by cbv) ?_
  refine ra hA 1 (by cbv) ?_
  obtain ⟨o74, u4⟩ : ∃ r, r = o71.set (Int.toNat n5) [.int .i64 kk, .str b1, .str b0, .bool (A.cmp .eql (A.num .rem .i64 k14 3) 0), .int .i64 k17, .str b2, .ow 1 b6, .ow 1 b8, .int .i64 m34, .str b7, .ow 3 b9, .ow 1 c2, .int .i64 m52, .str c0, .str c3, .int .i64 k66, .ow 1 f1] := ⟨_, rfl⟩
  have i5 : o74 = o71.set (Int.toNat n5) [.int .i64 kk, .str b1, .str b0, .bool (A.cmp .eql (A.num .rem .i64 k14 3) 0), .int .i64 k17, .str b2, .ow 1 b6, .ow 1 b8, .int .i64 m34, .str b7, .ow 3 b9, .ow 1 c2, .int .i64 m52, .str c0, .str c3, .int .i64 k66, .ow 1 f1] := u4
  have F0 : (List.length o74 : Int) = List.length x := by rw [i5, List.length_set]; exact x7
  have F1 : o74[(Int.toNat n5)]? = some [.int .i64 kk, .str b1, .str b0, .bool (A.cmp .eql (A.num .rem .i64 k14 3) 0), .int .i64 k17, .str b2, .ow 1 b6, .ow 1 b8, .int .i64 m34, .str b7, .ow 3 b9, .ow 1 c2, .int .i64 m52, .str c0, .str c3, .int .i64 k66, .ow 1 f1] := by rw [i5]; exact set_self k5
  have w6 : o74 = ro.set (Int.toNat n5) [.int .i64 kk, .str b1, .str b0, .bool (A.cmp .eql (A.num .rem .i64 k14 3) 0), .int .i64 k17, .str b2, .ow 1 b6, .ow 1 b8, .int .i64 m34, .str b7, .ow 3 b9, .ow 1 c2, .int .i64 m52, .str c0, .str c3, .int .i64 k66, .ow 1 f1] := by rw [i5, w2, List.set_set]
  refine ops_doneB (tweak_backR (D := 149) (d := 1000000000) (i := (Int.toNat n5)) (j := 16) rfl rfl rfl k5 rfl (by decide) u4 rfl) ?_
  refine gB (ra hA 1 (by cbv) (ra hA 1 (by cbv) (ra hA 1 (by cbv) (oz ?_))))
  refine ⟨(S77_1 hv m73 (A.num .add .i64 n5 1) o74), List.length x - (i + 1), ?_, by cbv, i + 1, o74, (A.num .add .i64 n5 1), m73, rfl, ?_, rfl⟩
  ·
   exact hdec
  ·
   have hrow : ([.int .i64 kk, .str b1, .str b0, .bool (A.cmp .eql (A.num .rem .i64 k14 3) 0), .int .i64 k17, .str b2, .ow 1 b6, .ow 1 b8, .int .i64 m34, .str b7, .ow 3 b9, .ow 1 c2, .int .i64 m52, .str c0, .str c3, .int .i64 k66, .ow 1 f1] : List PV) = eoSession (meSession kk (⟨g2, f3, d0, c7, ⟨b5, b4, c9, c6⟩, ⟨a8, a7, c4, c5⟩, ⟨a3, a4, a6, a1, c8⟩⟩ : GSession)) := by
    subst wk4 wk9 B4 B8 C6 C3 s9 s8 C9 B7 s0 q8 E2 B6 E0 E1 p5
    show _ = ([_, _, _, _, _, _, _, _, _, _, _, _, _, _, _, _, _] : List PV)
    exact congr (congrArg List.cons (congrArg (PV.int .i64) rfl)) (congr (congrArg List.cons (congrArg PV.str t1)) (congr (congrArg List.cons (congrArg PV.str o5)) (congr (congrArg List.cons (congrArg PV.bool (mb_eq hA rfl))) (congr (congrArg List.cons (congrArg (PV.int .i64) rfl)) (congr (congrArg List.cons (congrArg PV.str o6)) (congr (congrArg List.cons (congrArg (PV.ow 1) g7)) (congr (congrArg List.cons (congrArg (PV.ow 1) g8)) (congr (congrArg List.cons (congrArg (PV.int .i64) rfl)) (congr (congrArg List.cons (congrArg PV.str o9)) (congr (congrArg List.cons (congrArg (PV.ow 3) g5)) (congr (congrArg List.cons (congrArg (PV.ow 1) g6)) (congr (congrArg List.cons (congrArg (PV.int .i64) rfl)) (congr (congrArg List.cons (congrArg PV.str j2)) (congr (congrArg List.cons (congrArg PV.str k1)) (congr (congrArg List.cons (congrArg (PV.int .i64) rfl)) (congr (congrArg List.cons (congrArg (PV.ow 1) g9)) (rfl)))))))))))))))))
   refine ⟨D9, hi1, fin_k u8.2 g0 hrce hkk cat, ?_⟩
   rw [w6, hrow, s2, hn5, mkSessionS_at k hyi, ← hkk]
   exact mark_set (hlen.symm.trans (Int.toNat_natCast i).symm)
 ·
  have ec1 : (A.rlen ro) ≤ n5 := lss_f hA c1
  refine go_exit ⟨fun _ => ?_, fun h => absurd rfl h⟩
  refine gs (gB (ra hA 2 (by cbv) (oz ?_)))
  refine go_ret ⟨⟨rfl, trivial⟩, Eq.trans (b := some [.ow 17 ro, .int .i64 k]) (by cbv) ?_, _, by cbv, ?_⟩
  ·
   rw [hro, List.take_of_length_le (by omega), List.drop_of_length_le (by omega), List.append_nil]
  ·
   show _ = (PV.int .i64 kk)
   refine congrArg (PV.int .i64) ?_
   rw [hkk, List.take_of_length_le (by omega)]
end Go.Av
