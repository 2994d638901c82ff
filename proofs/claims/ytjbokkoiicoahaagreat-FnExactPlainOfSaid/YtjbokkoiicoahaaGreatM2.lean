/- Walks: marks. -/
import Derived.Test.YtjbokkoiicoahaaGreatM1
namespace Go.Av
open Go Go.Proofs
set_option maxRecDepth 100000
set_option maxHeartbeats 4000000
set_option linter.unusedVariables false
set_option linter.unusedSimpArgs false
def S37_1 (hv : Nat → Value) (p0 : Int) (p1 : Int) (p2 : RR) : St := { sl := [.own 1000000000, .ii p0, .bad, .bad, .bad, .ii p1, .bad, .bad, .bad, .bad, .bad, .bad, .bad, .bad, .bad, .bad, .bad, .bad, .bad, .bad, .bad, .bad, .bad, .bad, .bad, .bad, .bad, .bad, .bad, .bad, .bad, .bad, .bad, .bad, .bad, .bad, .bad, .bad, .bad, .bad, .bad, .bad, .bad, .bad, .bad, .bad, .bad, .bad, .bad, .bad, .bad, .bad, .bad, .bad, .bad, .bad, .bad, .bad, .bad, .bad, .bad, .bad, .bad, .bad, .bad, .bad, .bad, .bad, .bad, .bad, .bad, .bad, .bad, .bad, .bad, .bad, .bad, .bad, .bad, .bad, .bad, .bad, .bad, .bad, .bad, .bad, .bad, .bad, .bad, .bad, .bad, .bad, .bad, .bad, .bad, .bad, .bad, .bad, .bad, .bad, .bad, .bad, .bad, .bad, .bad, .bad, .bad, .bad, .bad, .bad, .bad, .bad, .bad, .bad, .bad, .bad, .bad, .bad, .bad, .bad, .bad, .bad, .bad, .bad, .bad, .bad, .bad, .bad, .bad, .bad, .bad, .bad, .bad, .bad, .bad, .bad, .bad, .bad, .bad, .bad, .bad, .bad, .bad, .bad, .bad, .bad, .bad, .bad, .bad, .bad, .bad, .bad, .bad], bl := [(1000000000, ⟨.arr, 17, p2⟩)], hd := [(1000000000, hv 1000000000)] }
theorem m_laws_markSessionS (A : Alg) (hA : A = std) (x : List GSession) (k : Int) (h0 : 0 ≤ k) (h1 : k + cnSessionS x ≤ 1099511627776) : RealM Tryz.prog 37 [.ow 17 (List.map eoSession x), .ii k] [.ow 17 (List.map eoSession (mkSessionS k x)), .ii k] (.ii (k + cnSessionS x)) := by
 obtain ⟨x_r, k1⟩ := nm (x.map eoSession)
 have D2 := rlen_map hA k1
 refine realM_args (args1 := [.ow 17 x_r, .ii k]) (by subst k1; rfl) rfl ?_
 have h2 : (List.length x : Int) ≤ 1099511627776 := by have := cnSessionS_ge x; omega
 refine realM tyOk Tryz.func37 (by kernel_rfl) (afunM_of rfl (by cbv) (fun hv => ?_))
 refine gs (gB (rn hA 1 (oz ?_)))
 refine gs (gs (gB (rn hA 1 (oz ?_))))
 refine go_block ?_
 refine go_loopE (fun σ m => ∃ (i : Nat) (ro : RR) (n5 : Int) (kk : Int), σ = (S37_1 hv kk n5 ro) ∧ (n5 = (i : Int) ∧ i ≤ List.length x ∧ kk = k + cnSessionS (x.take i) ∧ ro = List.map eoSession (mkSessionS k (x.take i) ++ x.drop i)) ∧ m = List.length x - i) _ [] [0, 1, 5] [1000000000] (S37_1 hv k 0 x_r) rfl (by cbv) ⟨0, x_r, 0, k, rfl, ?_, rfl⟩ (fun σ m hI => ?_)
 ·
  exact ⟨rfl, Nat.zero_le _, by simp [cnSessionS], k1⟩
 obtain ⟨i, ro, n5, kk, rfl, ⟨hn5, hi, hkk, hro⟩, rfl⟩ := hI
 have hlro : (List.length ro : Int) = List.length x := by
  rw [hro]; simp only [List.length_map, List.length_append, mkSessionS_len, List.length_take, List.length_drop]; omega
 have lro : A.rlen ro = (List.length x : Int) := by
  rw [rlen_map hA hro]; simp only [List.length_append, mkSessionS_len, List.length_take, List.length_drop]; omega
 refine gs (gs (gB (rn hA 4 (oz ?_))))
 refine go_cond rfl (fun c1 => ?_) (fun c1 => ?_)
 ·
  have ec1 : n5 < (A.rlen ro) := lss_t hA c1
  refine gk (gs ?_)
  refine go_block ?_
  refine gs ?_
  have h05 : (0 : Int) ≤ n5 := by omega
  have hlt : Int.toNat n5 < List.length x := by omega
  obtain ⟨y, hy⟩ : ∃ y, x[Int.toNat n5]? = some y := ⟨_, List.getElem?_eq_getElem hlt⟩
  have hyi : x[i]? = some y := by have h := hy; rw [hn5] at h; exact h
  have cat := cnSessionS_at hyi
  have cle := cnSessionS_le x (i + 1)
  have cnn := cnSessionS_nn (x.take i)
  have cce : ceSession y = _ := rfl
  have p5 : ro = List.map eoSession (mkSessionS k (x.take i) ++ y :: x.drop (i + 1)) := by
   rw [hro, ← drop_at hyi]
  have t7 : ro[Int.toNat n5]? = some (eoSession y) := by
   rw [p5, hn5]; exact mark_get (by rw [mkSessionS_len, List.length_take]; omega)
  obtain ⟨g0, g1, d7, c9, ⟨b1, b0, c0, b8⟩, ⟨a8, a7, b6, b7⟩, ⟨a3, a5, a6, a1, b9⟩⟩ := y
  obtain ⟨b3, d5⟩ := nm (c0.map eString)
  have p3 := rlen_map hA d5
  obtain ⟨a9, d2⟩ := nm (b8.map eString)
  have m9 := rlen_map hA d2
  obtain ⟨a2, d1⟩ := nm (b6.map eoMail)
  have k2 := rlen_map hA d1
  obtain ⟨a4, d3⟩ := nm (b7.map eBool)
  have n7 := rlen_map hA d3
  obtain ⟨a0, d4⟩ := nm (b9.map eInt)
  have o9 := rlen_map hA d4
  have hzro : ro[Int.toNat n5]? = some [.ii g0, .str g1, .str d7, .bool c9, .ii b1, .str b0, .ow 1 b3, .ow 1 a9, .ii a8, .str a7, .ow 3 a2, .ow 1 a4, .ii a3, .str a5, .str a6, .ii a1, .ow 1 a0] := by subst d5 d2 d1 d3 d4; exact t7
  have f4 := cnStringS_nn c0
  have d9 := cnStringS_nn b8
  have d6 := cnMailS_nn b6
  have d8 := cnBoolS_nn b7
  have f0 := cnIntS_nn b9
  have cce : ceSession (⟨g0, g1, d7, c9, ⟨b1, b0, c0, b8⟩, ⟨a8, a7, b6, b7⟩, ⟨a3, a5, a6, a1, b9⟩⟩ : GSession) = 1 + 1 + 1 + 1 + 1 + 1 + cnStringS c0 + cnStringS b8 + 1 + 1 + cnMailS b6 + cnBoolS b7 + 1 + 1 + 1 + 1 + cnIntS b9 := rfl
  obtain ⟨r17, f7, e17⟩ : ∃ r : Int, r = 0 ∧ 0 ≤ r := ⟨0, rfl, by decide⟩
  obtain ⟨r16, f2, e16⟩ : ∃ r : Int, r = cnIntS b9 + r17 ∧ 0 ≤ r := ⟨_, rfl, nn_add f0 e17⟩
  obtain ⟨r15, f6, e15⟩ : ∃ r : Int, r = 1 + r16 ∧ 0 ≤ r := ⟨_, rfl, nn_add (by decide) e16⟩
  obtain ⟨r14, f8, e14⟩ : ∃ r : Int, r = 1 + r15 ∧ 0 ≤ r := ⟨_, rfl, nn_add (by decide) e15⟩
  obtain ⟨r13, f9, e13⟩ : ∃ r : Int, r = 1 + r14 ∧ 0 ≤ r := ⟨_, rfl, nn_add (by decide) e14⟩
  obtain ⟨r12, f5, e12⟩ : ∃ r : Int, r = 1 + r13 ∧ 0 ≤ r := ⟨_, rfl, nn_add (by decide) e13⟩
  obtain ⟨r11, f3, e11⟩ : ∃ r : Int, r = cnBoolS b7 + r12 ∧ 0 ≤ r := ⟨_, rfl, nn_add d8 e12⟩
  obtain ⟨r10, f1, e10⟩ : ∃ r : Int, r = cnMailS b6 + r11 ∧ 0 ≤ r := ⟨_, rfl, nn_add d6 e11⟩
  obtain ⟨r9, hr9, e9⟩ : ∃ r : Int, r = 1 + r10 ∧ 0 ≤ r := ⟨_, rfl, nn_add (by decide) e10⟩
  obtain ⟨r8, hr8, e8⟩ : ∃ r : Int, r = 1 + r9 ∧ 0 ≤ r := ⟨_, rfl, nn_add (by decide) e9⟩
  obtain ⟨r7, hr7, e7⟩ : ∃ r : Int, r = cnStringS b8 + r8 ∧ 0 ≤ r := ⟨_, rfl, nn_add d9 e8⟩
  obtain ⟨r6, hr6, e6⟩ : ∃ r : Int, r = cnStringS c0 + r7 ∧ 0 ≤ r := ⟨_, rfl, nn_add f4 e7⟩
  obtain ⟨r5, hr5, e5⟩ : ∃ r : Int, r = 1 + r6 ∧ 0 ≤ r := ⟨_, rfl, nn_add (by decide) e6⟩
  obtain ⟨r4, hr4, e4⟩ : ∃ r : Int, r = 1 + r5 ∧ 0 ≤ r := ⟨_, rfl, nn_add (by decide) e5⟩
  obtain ⟨r3, hr3, e3⟩ : ∃ r : Int, r = 1 + r4 ∧ 0 ≤ r := ⟨_, rfl, nn_add (by decide) e4⟩
  obtain ⟨r2, hr2, e2⟩ : ∃ r : Int, r = 1 + r3 ∧ 0 ≤ r := ⟨_, rfl, nn_add (by decide) e3⟩
  obtain ⟨r1, hr1, e1⟩ : ∃ r : Int, r = 1 + r2 ∧ 0 ≤ r := ⟨_, rfl, nn_add (by decide) e2⟩
  obtain ⟨r0, hr0, e0⟩ : ∃ r : Int, r = 1 + r1 ∧ 0 ≤ r := ⟨_, rfl, nn_add (by decide) e1⟩
  have p0 : 0 ≤ kk := by clear f7 e17 f2 e16 f6 e15 f8 e14 f9 e13 f5 e12 f3 e11 f1 e10 hr9 e9 hr8 e8 hr7 e7 hr6 e6 hr5 e5 hr4 e4 hr3 e3 hr2 e2 hr1 e1 hr0 e0; omega
  have hrce : r0 = ceSession (⟨g0, g1, d7, c9, ⟨b1, b0, c0, b8⟩, ⟨a8, a7, b6, b7⟩, ⟨a3, a5, a6, a1, b9⟩⟩ : GSession) := by subst f7 f2 f6 f8 f9 f5 f3 f1 hr9 hr8 hr7 hr6 hr5 hr4 hr3 hr2 hr1 hr0; rw [cce]; omega
  have q0 : kk + r0 ≤ 1099511627776 ∧ kk + r0 = kk + r0 := ⟨by clear f7 e17 f2 e16 f6 e15 f8 e14 f9 e13 f5 e12 f3 e11 f1 e10 hr9 e9 hr8 e8 hr7 e7 hr6 e6 hr5 e5 hr4 e4 hr3 e3 hr2 e2 hr1 e1 hr0 e0; omega, rfl⟩
  have c8 : n5 < (List.length x : Int) := by clear f7 e17 f2 e16 f6 e15 f8 e14 f9 e13 f5 e12 f3 e11 f1 e10 hr9 e9 hr8 e8 hr7 e7 hr6 e6 hr5 e5 hr4 e4 hr3 e3 hr2 e2 hr1 e1 hr0 e0; omega
  have hi1 : i + 1 ≤ List.length x := by clear f7 e17 f2 e16 f6 e15 f8 e14 f9 e13 f5 e12 f3 e11 f1 e10 hr9 e9 hr8 e8 hr7 e7 hr6 e6 hr5 e5 hr4 e4 hr3 e3 hr2 e2 hr1 e1 hr0 e0; omega
  have y7 : A.num .add .i64 n5 1 = ((i + 1 : Nat) : Int) := by
   clear f7 e17 f2 e16 f6 e15 f8 e14 f9 e13 f5 e12 f3 e11 f1 e10 hr9 e9 hr8 e8 hr7 e7 hr6 e6 hr5 e5 hr4 e4 hr3 e3 hr2 e2 hr1 e1 hr0 e0; rw [add_i64 hA (by omega) (by omega)]; omega
  have hlen : i = List.length (mkSessionS k (x.take i)) := by rw [mkSessionS_len, List.length_take]; clear f7 e17 f2 e16 f6 e15 f8 e14 f9 e13 f5 e12 f3 e11 f1 e10 hr9 e9 hr8 e8 hr7 e7 hr6 e6 hr5 e5 hr4 e4 hr3 e3 hr2 e2 hr1 e1 hr0 e0; omega
  have hdec : List.length x - (i + 1) < List.length x - i := by clear f7 e17 f2 e16 f6 e15 f8 e14 f9 e13 f5 e12 f3 e11 f1 e10 hr9 e9 hr8 e8 hr7 e7 hr6 e6 hr5 e5 hr4 e4 hr3 e3 hr2 e2 hr1 e1 hr0 e0; omega
  refine gB (rn hA 3 ?_)
  have y8 : n5 < (List.length ro : Int) := by rw [hlro]; exact c8
  refine ops_step rfl rfl (idx_own rfl rfl rfl rfl rfl rfl h05 y8 rfl) ?_
  refine rn hA 1 ?_
  obtain ⟨o3, ho3⟩ : ∃ r, r = ro.set (Int.toNat n5) [.ii kk, .str g1, .str d7, .bool c9, .ii b1, .str b0, .ow 1 b3, .ow 1 a9, .ii a8, .str a7, .ow 3 a2, .ow 1 a4, .ii a3, .str a5, .str a6, .ii a1, .ow 1 a0] := ⟨_, rfl⟩
  have q8 := so_l ho3 hlro
  have s8 := so_z ho3 hzro
  have B3 := ho3
  refine ops_step rfl rfl (sto_arr (r := [.ii g0, .str g1, .str d7, .bool c9, .ii b1, .str b0, .ow 1 b3, .ow 1 a9, .ii a8, .str a7, .ow 3 a2, .ow 1 a4, .ii a3, .str a5, .str a6, .ii a1, .ow 1 a0]) (cs := [.ii kk]) rfl rfl rfl rfl rfl ⟨_, _, rfl⟩ rfl rfl hzro rfl ho3) ?_
  refine oz ?_
  refine gs (gB (rn hA 1 ?_))
  obtain ⟨k4, wk4, z6, pk4, qk4⟩ := add_one hA p0 q0 hr0 e1
  refine ops_step rfl rfl (int_add hA rfl rfl rfl z6) ?_
  refine rn hA 1 (oz ?_)
  refine gs (gB (rn hA 3 ?_))
  obtain ⟨b4, s4, hc6⟩ : ∃ (b4 : ByteArray), b4 = (mt k4) ∧ Real Tryz.prog 71 [.ii k4] (.str b4) := ⟨_, rfl, by exact r_laws_markText A hA k4 pk4 (le_k qk4 e1)⟩
  refine ops_callV rfl rfl (by cbv) (by cbv) hc6 (.inr rfl) (by cbv) ?_
  have B7 : n5 < (List.length o3 : Int) := by rw [q8]; exact c8
  refine ops_step rfl rfl (idx_own rfl rfl rfl rfl rfl rfl h05 B7 rfl) ?_
  refine rn hA 1 ?_
  obtain ⟨o8, ho8⟩ : ∃ r, r = o3.set (Int.toNat n5) [.ii kk, .str b4, .str d7, .bool c9, .ii b1, .str b0, .ow 1 b3, .ow 1 a9, .ii a8, .str a7, .ow 3 a2, .ow 1 a4, .ii a3, .str a5, .str a6, .ii a1, .ow 1 a0] := ⟨_, rfl⟩
  have q6 := so_l ho8 q8
  have s0 := so_z ho8 s8
  have B2 := so_f ho8 B3
  refine ops_step rfl rfl (sto_arr (r := [.ii kk, .str g1, .str d7, .bool c9, .ii b1, .str b0, .ow 1 b3, .ow 1 a9, .ii a8, .str a7, .ow 3 a2, .ow 1 a4, .ii a3, .str a5, .str a6, .ii a1, .ow 1 a0]) (cs := [.str b4]) rfl rfl rfl rfl rfl ⟨_, _, rfl⟩ rfl rfl s8 rfl ho8) ?_
  refine oz ?_
  refine gs (gB (rn hA 1 ?_))
  obtain ⟨k9, wk9, C1, pk9, qk9⟩ := add_one hA pk4 qk4 hr1 e2
  refine ops_step rfl rfl (int_add hA rfl rfl rfl C1) ?_
  refine rn hA 1 (oz ?_)
  refine gs (gB (rn hA 3 ?_))
  obtain ⟨b2, o5, C0⟩ : ∃ (b2 : ByteArray), b2 = (mt k9) ∧ Real Tryz.prog 71 [.ii k9] (.str b2) := ⟨_, rfl, by exact r_laws_markText A hA k9 pk9 (le_k qk9 e2)⟩
  refine ops_callV rfl rfl (by cbv) (by cbv) C0 (.inr rfl) (by cbv) ?_
  have t6 : n5 < (List.length o8 : Int) := by rw [q6]; exact c8
  refine ops_step rfl rfl (idx_own rfl rfl rfl rfl rfl rfl h05 t6 rfl) ?_
  refine rn hA 1 ?_
  obtain ⟨o13, i5⟩ : ∃ r, r = o8.set (Int.toNat n5) [.ii kk, .str b4, .str b2, .bool c9, .ii b1, .str b0, .ow 1 b3, .ow 1 a9, .ii a8, .str a7, .ow 3 a2, .ow 1 a4, .ii a3, .str a5, .str a6, .ii a1, .ow 1 a0] := ⟨_, rfl⟩
  have l9 := so_l i5 q6
  have k8 := so_z i5 s0
  have v3 := so_f i5 B2
  refine ops_step rfl rfl (sto_arr (r := [.ii kk, .str b4, .str d7, .bool c9, .ii b1, .str b0, .ow 1 b3, .ow 1 a9, .ii a8, .str a7, .ow 3 a2, .ow 1 a4, .ii a3, .str a5, .str a6, .ii a1, .ow 1 a0]) (cs := [.str b2]) rfl rfl rfl rfl rfl ⟨_, _, rfl⟩ rfl rfl s0 rfl i5) ?_
  refine oz ?_
  refine gs (gB (rn hA 1 ?_))
  obtain ⟨k14, B8, y0, z9, C4⟩ := add_one hA pk9 qk9 hr2 e3
  refine ops_step rfl rfl (int_add hA rfl rfl rfl y0) ?_
  refine rn hA 1 (oz ?_)
  refine gs (gB (rn hA 5 ?_))
  have v7 : n5 < (List.length o13 : Int) := by rw [l9]; exact c8
  refine ops_step rfl rfl (idx_own rfl rfl rfl rfl rfl rfl h05 v7 rfl) ?_
  refine rn hA 1 ?_
  obtain ⟨o16, g5⟩ : ∃ r, r = o13.set (Int.toNat n5) [.ii kk, .str b4, .str b2, .bool (A.cmp .eql (A.num .rem .i64 k14 3) 0), .ii b1, .str b0, .ow 1 b3, .ow 1 a9, .ii a8, .str a7, .ow 3 a2, .ow 1 a4, .ii a3, .str a5, .str a6, .ii a1, .ow 1 a0] := ⟨_, rfl⟩
  have l3 := so_l g5 l9
  have o2 := so_z g5 k8
  have w6 := so_f g5 v3
  refine ops_step rfl rfl (sto_arr (r := [.ii kk, .str b4, .str b2, .bool c9, .ii b1, .str b0, .ow 1 b3, .ow 1 a9, .ii a8, .str a7, .ow 3 a2, .ow 1 a4, .ii a3, .str a5, .str a6, .ii a1, .ow 1 a0]) (cs := [.bool (A.cmp .eql (A.num .rem .i64 k14 3) 0)]) rfl rfl rfl rfl rfl ⟨_, _, rfl⟩ rfl rfl k8 rfl g5) ?_
  refine oz ?_
  refine gs (gB (rn hA 1 ?_))
  obtain ⟨k17, z5, x1, C2, z7⟩ := add_one hA z9 C4 hr3 e4
  refine ops_step rfl rfl (int_add hA rfl rfl rfl x1) ?_
  refine rn hA 1 (oz ?_)
  refine gs (gB (rn hA 3 ?_))
  have w5 : n5 < (List.length o16 : Int) := by rw [l3]; exact c8
  refine ops_step rfl rfl (idx_own rfl rfl rfl rfl rfl rfl h05 w5 rfl) ?_
  refine rn hA 2 ?_
  obtain ⟨o19, g9⟩ : ∃ r, r = o16.set (Int.toNat n5) [.ii kk, .str b4, .str b2, .bool (A.cmp .eql (A.num .rem .i64 k14 3) 0), .ii k17, .str b0, .ow 1 b3, .ow 1 a9, .ii a8, .str a7, .ow 3 a2, .ow 1 a4, .ii a3, .str a5, .str a6, .ii a1, .ow 1 a0] := ⟨_, rfl⟩
  have n2 := so_l g9 l3
  have m5 := so_z g9 o2
  have y1 := so_f g9 w6
  refine ops_step rfl rfl (sto_arr (r := [.ii kk, .str b4, .str b2, .bool (A.cmp .eql (A.num .rem .i64 k14 3) 0), .ii b1, .str b0, .ow 1 b3, .ow 1 a9, .ii a8, .str a7, .ow 3 a2, .ow 1 a4, .ii a3, .str a5, .str a6, .ii a1, .ow 1 a0]) (cs := [.ii k17]) rfl rfl rfl rfl rfl ⟨_, _, rfl⟩ rfl rfl o2 rfl g9) ?_
  refine oz ?_
  refine gs (gB (rn hA 1 ?_))
  obtain ⟨k20, z1, x8, s6, s3⟩ := add_one hA C2 z7 hr4 e5
  refine ops_step rfl rfl (int_add hA rfl rfl rfl x8) ?_
  refine rn hA 1 (oz ?_)
  refine gs (gB (rn hA 3 ?_))
  obtain ⟨b5, o7, z3⟩ : ∃ (b5 : ByteArray), b5 = (mt k20) ∧ Real Tryz.prog 71 [.ii k20] (.str b5) := ⟨_, rfl, by exact r_laws_markText A hA k20 s6 (le_k s3 e5)⟩
  refine ops_callV rfl rfl (by cbv) (by cbv) z3 (.inr rfl) (by cbv) ?_
  have t9 : n5 < (List.length o19 : Int) := by rw [n2]; exact c8
  refine ops_step rfl rfl (idx_own rfl rfl rfl rfl rfl rfl h05 t9 rfl) ?_
  refine rn hA 2 ?_
  obtain ⟨o24, i2⟩ : ∃ r, r = o19.set (Int.toNat n5) [.ii kk, .str b4, .str b2, .bool (A.cmp .eql (A.num .rem .i64 k14 3) 0), .ii k17, .str b5, .ow 1 b3, .ow 1 a9, .ii a8, .str a7, .ow 3 a2, .ow 1 a4, .ii a3, .str a5, .str a6, .ii a1, .ow 1 a0] := ⟨_, rfl⟩
  have m0 := so_l i2 n2
  have o0 := so_z i2 m5
  have v1 := so_f i2 y1
  refine ops_step rfl rfl (sto_arr (r := [.ii kk, .str b4, .str b2, .bool (A.cmp .eql (A.num .rem .i64 k14 3) 0), .ii k17, .str b0, .ow 1 b3, .ow 1 a9, .ii a8, .str a7, .ow 3 a2, .ow 1 a4, .ii a3, .str a5, .str a6, .ii a1, .ow 1 a0]) (cs := [.str b5]) rfl rfl rfl rfl rfl ⟨_, _, rfl⟩ rfl rfl m5 rfl i2) ?_
  refine oz ?_
  refine gs (gB (rn hA 1 ?_))
  obtain ⟨k25, B6, w0, q1, p6⟩ := add_one hA s6 s3 hr5 e6
  refine ops_step rfl rfl (int_add hA rfl rfl rfl w0) ?_
  refine rn hA 1 (oz ?_)
  refine gs (gB (rn hA 2 ?_))
  have v6 : n5 < (List.length o24 : Int) := by rw [m0]; exact c8
  refine ops_step rfl rfl (idx_own rfl rfl rfl rfl rfl rfl h05 v6 rfl) ?_
  refine rn hA 2 ?_
  refine ops_nestR rfl rfl rfl rfl rfl rfl rfl o0 rfl rfl (fun w28 o27 k3 => ?_)
  have v5 := so_l k3 m0
  have l8 := so_z k3 o0
  have x2 := so_f k3 v1
  refine rn hA 1 ?_
  obtain ⟨c2, m29, j3, p7, w2⟩ : ∃ (c2 : RR) (m29 : Int), c2 = List.map eString (mkStringS k25 c0) ∧ m29 = k25 + cnStringS c0 ∧ RealM Tryz.prog 72 [.ow 1 b3, .ii k25] [.ow 1 c2, .ii k25] (.ii m29) := ⟨_, _, rfl, rfl, by subst d5; exact m_laws_markStringS A hA c0 k25 q1 (le_cn p6 hr6 e7)⟩
  have C6 := rlen_map hA j3
  have g4 := add_cn p7 q1 p6 hr6 f4
  refine ops_callM rfl (by cbv) (by cbv) (by cbv) w2 rfl (by cbv) ?_
  refine rn hA 1 ?_
  obtain ⟨o30, i0⟩ : ∃ r, r = o27.set (Int.toNat n5) [.ii kk, .str b4, .str b2, .bool (A.cmp .eql (A.num .rem .i64 k14 3) 0), .ii k17, .str b5, .ow 1 c2, .ow 1 a9, .ii a8, .str a7, .ow 3 a2, .ow 1 a4, .ii a3, .str a5, .str a6, .ii a1, .ow 1 a0] := ⟨_, rfl⟩
  have n0 := so_l i0 v5
  have l0 := so_z i0 l8
  have y5 := so_f i0 x2
  refine ops_doneB (tweak_backR (D := 66) (d := 1000000000) (i := (Int.toNat n5)) (j := 6) rfl rfl rfl l8 rfl (by decide) i0 rfl) ?_
  refine gs (gB (rn hA 2 ?_))
  have u8 : n5 < (List.length o30 : Int) := by rw [n0]; exact c8
  refine ops_step rfl rfl (idx_own rfl rfl rfl rfl rfl rfl h05 u8 rfl) ?_
  refine rn hA 2 ?_
  refine ops_nestR rfl rfl rfl rfl rfl rfl rfl l0 rfl rfl (fun w33 o32 j8 => ?_)
  have u9 := so_l j8 n0
  have n3 := so_z j8 l0
  have u3 := so_f j8 y5
  refine rn hA 1 ?_
  obtain ⟨c4, m34, j4, s7, y6⟩ : ∃ (c4 : RR) (m34 : Int), c4 = List.map eString (mkStringS m29 b8) ∧ m34 = m29 + cnStringS b8 ∧ RealM Tryz.prog 72 [.ow 1 a9, .ii m29] [.ow 1 c4, .ii m29] (.ii m34) := ⟨_, _, rfl, rfl, by subst d2; exact m_laws_markStringS A hA b8 m29 g4.1 (le_cn g4.2 hr7 e8)⟩
  have C9 := rlen_map hA j4
  have l2 := add_cn s7 g4.1 g4.2 hr7 d9
  refine ops_callM rfl (by cbv) (by cbv) (by cbv) y6 rfl (by cbv) ?_
  refine rn hA 1 ?_
  obtain ⟨o35, i3⟩ : ∃ r, r = o32.set (Int.toNat n5) [.ii kk, .str b4, .str b2, .bool (A.cmp .eql (A.num .rem .i64 k14 3) 0), .ii k17, .str b5, .ow 1 c2, .ow 1 c4, .ii a8, .str a7, .ow 3 a2, .ow 1 a4, .ii a3, .str a5, .str a6, .ii a1, .ow 1 a0] := ⟨_, rfl⟩
  have l5 := so_l i3 u9
  have l1 := so_z i3 n3
  have w7 := so_f i3 u3
  refine ops_doneB (tweak_backR (D := 74) (d := 1000000000) (i := (Int.toNat n5)) (j := 7) rfl rfl rfl n3 rfl (by decide) i3 rfl) ?_
  refine gs (gB (rn hA 3 ?_))
  have v9 : n5 < (List.length o35 : Int) := by rw [l5]; exact c8
  refine ops_step rfl rfl (idx_own rfl rfl rfl rfl rfl rfl h05 v9 rfl) ?_
  refine rn hA 2 ?_
  obtain ⟨o37, i9⟩ : ∃ r, r = o35.set (Int.toNat n5) [.ii kk, .str b4, .str b2, .bool (A.cmp .eql (A.num .rem .i64 k14 3) 0), .ii k17, .str b5, .ow 1 c2, .ow 1 c4, .ii m34, .str a7, .ow 3 a2, .ow 1 a4, .ii a3, .str a5, .str a6, .ii a1, .ow 1 a0] := ⟨_, rfl⟩
  have n4 := so_l i9 l5
  have k7 := so_z i9 l1
  have w9 := so_f i9 w7
  refine ops_step rfl rfl (sto_arr (r := [.ii kk, .str b4, .str b2, .bool (A.cmp .eql (A.num .rem .i64 k14 3) 0), .ii k17, .str b5, .ow 1 c2, .ow 1 c4, .ii a8, .str a7, .ow 3 a2, .ow 1 a4, .ii a3, .str a5, .str a6, .ii a1, .ow 1 a0]) (cs := [.ii m34]) rfl rfl rfl rfl rfl ⟨_, _, rfl⟩ rfl rfl l1 rfl i9) ?_
  refine oz ?_
  refine gs (gB (rn hA 1 ?_))
  obtain ⟨k38, y9, w3, s5, q2⟩ := add_one hA l2.1 l2.2 hr8 e9
  refine ops_step rfl rfl (int_add hA rfl rfl rfl w3) ?_
  refine rn hA 1 (oz ?_)
  refine gs (gB (rn hA 3 ?_))
  obtain ⟨c3, o6, z4⟩ : ∃ (c3 : ByteArray), c3 = (mt k38) ∧ Real Tryz.prog 71 [.ii k38] (.str c3) := ⟨_, rfl, by exact r_laws_markText A hA k38 s5 (le_k q2 e9)⟩
  refine ops_callV rfl rfl (by cbv) (by cbv) z4 (.inr rfl) (by cbv) ?_
  have w1 : n5 < (List.length o37 : Int) := by rw [n4]; exact c8
  refine ops_step rfl rfl (idx_own rfl rfl rfl rfl rfl rfl h05 w1 rfl) ?_
  refine rn hA 2 ?_
  obtain ⟨o42, i4⟩ : ∃ r, r = o37.set (Int.toNat n5) [.ii kk, .str b4, .str b2, .bool (A.cmp .eql (A.num .rem .i64 k14 3) 0), .ii k17, .str b5, .ow 1 c2, .ow 1 c4, .ii m34, .str c3, .ow 3 a2, .ow 1 a4, .ii a3, .str a5, .str a6, .ii a1, .ow 1 a0] := ⟨_, rfl⟩
  have l7 := so_l i4 n4
  have o1 := so_z i4 k7
  have y3 := so_f i4 w9
  refine ops_step rfl rfl (sto_arr (r := [.ii kk, .str b4, .str b2, .bool (A.cmp .eql (A.num .rem .i64 k14 3) 0), .ii k17, .str b5, .ow 1 c2, .ow 1 c4, .ii m34, .str a7, .ow 3 a2, .ow 1 a4, .ii a3, .str a5, .str a6, .ii a1, .ow 1 a0]) (cs := [.str c3]) rfl rfl rfl rfl rfl ⟨_, _, rfl⟩ rfl rfl k7 rfl i4) ?_
  refine oz ?_
  refine gs (gB (rn hA 1 ?_))
  obtain ⟨k43, z2, u5, p9, p4⟩ := add_one hA s5 q2 hr9 e10
  refine ops_step rfl rfl (int_add hA rfl rfl rfl u5) ?_
  refine rn hA 1 (oz ?_)
  refine gs (gB (rn hA 2 ?_))
  have x6 : n5 < (List.length o42 : Int) := by rw [l7]; exact c8
  refine ops_step rfl rfl (idx_own rfl rfl rfl rfl rfl rfl h05 x6 rfl) ?_
  refine rn hA 2 ?_
  refine ops_nestR rfl rfl rfl rfl rfl rfl rfl o1 rfl rfl (fun w46 o45 j9 => ?_)
  have t0 := so_l j9 l7
  have m6 := so_z j9 o1
  have v8 := so_f j9 y3
  refine rn hA 1 ?_
  obtain ⟨c6, m47, j2, q5, w8⟩ : ∃ (c6 : RR) (m47 : Int), c6 = List.map eoMail (mkMailS k43 b6) ∧ m47 = k43 + cnMailS b6 ∧ RealM Tryz.prog 73 [.ow 3 a2, .ii k43] [.ow 3 c6, .ii k43] (.ii m47) := ⟨_, _, rfl, rfl, by subst d1; exact m_laws_markMailS A hA b6 k43 p9 (le_cn p4 f1 e11)⟩
  have C8 := rlen_map hA j2
  have g3 := add_cn q5 p9 p4 f1 d6
  refine ops_callM rfl (by cbv) (by cbv) (by cbv) w8 rfl (by cbv) ?_
  refine rn hA 1 ?_
  obtain ⟨o48, i1⟩ : ∃ r, r = o45.set (Int.toNat n5) [.ii kk, .str b4, .str b2, .bool (A.cmp .eql (A.num .rem .i64 k14 3) 0), .ii k17, .str b5, .ow 1 c2, .ow 1 c4, .ii m34, .str c3, .ow 3 c6, .ow 1 a4, .ii a3, .str a5, .str a6, .ii a1, .ow 1 a0] := ⟨_, rfl⟩
  have k6 := so_l i1 t0
  have n9 := so_z i1 m6
  have y4 := so_f i1 v8
  refine ops_doneB (tweak_backR (D := 99) (d := 1000000000) (i := (Int.toNat n5)) (j := 10) rfl rfl rfl m6 rfl (by decide) i1 rfl) ?_
  refine gs (gB (rn hA 2 ?_))
  have t3 : n5 < (List.length o48 : Int) := by rw [k6]; exact c8
  refine ops_step rfl rfl (idx_own rfl rfl rfl rfl rfl rfl h05 t3 rfl) ?_
  refine rn hA 2 ?_
  refine ops_nestR rfl rfl rfl rfl rfl rfl rfl n9 rfl rfl (fun w51 o50 j5 => ?_)
  have u6 := so_l j5 k6
  have n6 := so_z j5 n9
  have u1 := so_f j5 y4
  refine rn hA 1 ?_
  obtain ⟨c7, m52, j1, s1, w4⟩ : ∃ (c7 : RR) (m52 : Int), c7 = List.map eBool (mkBoolS m47 b7) ∧ m52 = m47 + cnBoolS b7 ∧ RealM Tryz.prog 74 [.ow 1 a4, .ii m47] [.ow 1 c7, .ii m47] (.ii m52) := ⟨_, _, rfl, rfl, by subst d3; exact m_laws_markBoolS A hA b7 m47 g3.1 (le_cn g3.2 f3 e12)⟩
  have C5 := rlen_map hA j1
  have m1 := add_cn s1 g3.1 g3.2 f3 d8
  refine ops_callM rfl (by cbv) (by cbv) (by cbv) w4 rfl (by cbv) ?_
  refine rn hA 1 ?_
  obtain ⟨o53, g7⟩ : ∃ r, r = o50.set (Int.toNat n5) [.ii kk, .str b4, .str b2, .bool (A.cmp .eql (A.num .rem .i64 k14 3) 0), .ii k17, .str b5, .ow 1 c2, .ow 1 c4, .ii m34, .str c3, .ow 3 c6, .ow 1 c7, .ii a3, .str a5, .str a6, .ii a1, .ow 1 a0] := ⟨_, rfl⟩
  have m3 := so_l g7 u6
  have m8 := so_z g7 n6
  have x5 := so_f g7 u1
  refine ops_doneB (tweak_backR (D := 107) (d := 1000000000) (i := (Int.toNat n5)) (j := 11) rfl rfl rfl n6 rfl (by decide) g7 rfl) ?_
  refine gs (gB (rn hA 3 ?_))
  have t2 : n5 < (List.length o53 : Int) := by rw [m3]; exact c8
  refine ops_step rfl rfl (idx_own rfl rfl rfl rfl rfl rfl h05 t2 rfl) ?_
  refine rn hA 2 ?_
  obtain ⟨o55, i7⟩ : ∃ r, r = o53.set (Int.toNat n5) [.ii kk, .str b4, .str b2, .bool (A.cmp .eql (A.num .rem .i64 k14 3) 0), .ii k17, .str b5, .ow 1 c2, .ow 1 c4, .ii m34, .str c3, .ow 3 c6, .ow 1 c7, .ii m52, .str a5, .str a6, .ii a1, .ow 1 a0] := ⟨_, rfl⟩
  have m4 := so_l i7 m3
  have n1 := so_z i7 m8
  have v2 := so_f i7 x5
  refine ops_step rfl rfl (sto_arr (r := [.ii kk, .str b4, .str b2, .bool (A.cmp .eql (A.num .rem .i64 k14 3) 0), .ii k17, .str b5, .ow 1 c2, .ow 1 c4, .ii m34, .str c3, .ow 3 c6, .ow 1 c7, .ii a3, .str a5, .str a6, .ii a1, .ow 1 a0]) (cs := [.ii m52]) rfl rfl rfl rfl rfl ⟨_, _, rfl⟩ rfl rfl m8 rfl i7) ?_
  refine oz ?_
  refine gs (gB (rn hA 1 ?_))
  obtain ⟨k56, B0, u2, q4, q3⟩ := add_one hA m1.1 m1.2 f5 e13
  refine ops_step rfl rfl (int_add hA rfl rfl rfl u2) ?_
  refine rn hA 1 (oz ?_)
  refine gs (gB (rn hA 3 ?_))
  obtain ⟨c5, j7, z0⟩ : ∃ (c5 : ByteArray), c5 = (mt k56) ∧ Real Tryz.prog 71 [.ii k56] (.str c5) := ⟨_, rfl, by exact r_laws_markText A hA k56 q4 (le_k q3 e13)⟩
  refine ops_callV rfl rfl (by cbv) (by cbv) z0 (.inr rfl) (by cbv) ?_
  have y2 : n5 < (List.length o55 : Int) := by rw [m4]; exact c8
  refine ops_step rfl rfl (idx_own rfl rfl rfl rfl rfl rfl h05 y2 rfl) ?_
  refine rn hA 2 ?_
  obtain ⟨o60, i8⟩ : ∃ r, r = o55.set (Int.toNat n5) [.ii kk, .str b4, .str b2, .bool (A.cmp .eql (A.num .rem .i64 k14 3) 0), .ii k17, .str b5, .ow 1 c2, .ow 1 c4, .ii m34, .str c3, .ow 3 c6, .ow 1 c7, .ii m52, .str c5, .str a6, .ii a1, .ow 1 a0] := ⟨_, rfl⟩
  have k5 := so_l i8 m4
  have o4 := so_z i8 n1
  have t5 := so_f i8 v2
  refine ops_step rfl rfl (sto_arr (r := [.ii kk, .str b4, .str b2, .bool (A.cmp .eql (A.num .rem .i64 k14 3) 0), .ii k17, .str b5, .ow 1 c2, .ow 1 c4, .ii m34, .str c3, .ow 3 c6, .ow 1 c7, .ii m52, .str a5, .str a6, .ii a1, .ow 1 a0]) (cs := [.str c5]) rfl rfl rfl rfl rfl ⟨_, _, rfl⟩ rfl rfl n1 rfl i8) ?_
  refine oz ?_
  refine gs (gB (rn hA 1 ?_))
  obtain ⟨k61, B5, u0, s2, q9⟩ := add_one hA q4 q3 f9 e14
  refine ops_step rfl rfl (int_add hA rfl rfl rfl u0) ?_
  refine rn hA 1 (oz ?_)
  refine gs (gB (rn hA 3 ?_))
  obtain ⟨d0, k0, C3⟩ : ∃ (d0 : ByteArray), d0 = (mt k61) ∧ Real Tryz.prog 71 [.ii k61] (.str d0) := ⟨_, rfl, by exact r_laws_markText A hA k61 s2 (le_k q9 e14)⟩
  refine ops_callV rfl rfl (by cbv) (by cbv) C3 (.inr rfl) (by cbv) ?_
  have t4 : n5 < (List.length o60 : Int) := by rw [k5]; exact c8
  refine ops_step rfl rfl (idx_own rfl rfl rfl rfl rfl rfl h05 t4 rfl) ?_
  refine rn hA 2 ?_
  obtain ⟨o65, i6⟩ : ∃ r, r = o60.set (Int.toNat n5) [.ii kk, .str b4, .str b2, .bool (A.cmp .eql (A.num .rem .i64 k14 3) 0), .ii k17, .str b5, .ow 1 c2, .ow 1 c4, .ii m34, .str c3, .ow 3 c6, .ow 1 c7, .ii m52, .str c5, .str d0, .ii a1, .ow 1 a0] := ⟨_, rfl⟩
  have m2 := so_l i6 k5
  have n8 := so_z i6 o4
  have u4 := so_f i6 t5
  refine ops_step rfl rfl (sto_arr (r := [.ii kk, .str b4, .str b2, .bool (A.cmp .eql (A.num .rem .i64 k14 3) 0), .ii k17, .str b5, .ow 1 c2, .ow 1 c4, .ii m34, .str c3, .ow 3 c6, .ow 1 c7, .ii m52, .str c5, .str a6, .ii a1, .ow 1 a0]) (cs := [.str d0]) rfl rfl rfl rfl rfl ⟨_, _, rfl⟩ rfl rfl o4 rfl i6) ?_
  refine oz ?_
  refine gs (gB (rn hA 1 ?_))
  obtain ⟨k66, B1, v0, B4, z8⟩ := add_one hA s2 q9 f8 e15
  refine ops_step rfl rfl (int_add hA rfl rfl rfl v0) ?_
  refine rn hA 1 (oz ?_)
  refine gs (gB (rn hA 3 ?_))
  have x3 : n5 < (List.length o65 : Int) := by rw [m2]; exact c8
  refine ops_step rfl rfl (idx_own rfl rfl rfl rfl rfl rfl h05 x3 rfl) ?_
  refine rn hA 2 ?_
  obtain ⟨o68, g8⟩ : ∃ r, r = o65.set (Int.toNat n5) [.ii kk, .str b4, .str b2, .bool (A.cmp .eql (A.num .rem .i64 k14 3) 0), .ii k17, .str b5, .ow 1 c2, .ow 1 c4, .ii m34, .str c3, .ow 3 c6, .ow 1 c7, .ii m52, .str c5, .str d0, .ii k66, .ow 1 a0] := ⟨_, rfl⟩
  have l4 := so_l g8 m2
  have l6 := so_z g8 n8
  have x7 := so_f g8 u4
  refine ops_step rfl rfl (sto_arr (r := [.ii kk, .str b4, .str b2, .bool (A.cmp .eql (A.num .rem .i64 k14 3) 0), .ii k17, .str b5, .ow 1 c2, .ow 1 c4, .ii m34, .str c3, .ow 3 c6, .ow 1 c7, .ii m52, .str c5, .str d0, .ii a1, .ow 1 a0]) (cs := [.ii k66]) rfl rfl rfl rfl rfl ⟨_, _, rfl⟩ rfl rfl n8 rfl g8) ?_
  refine oz ?_
  refine gs (gB (rn hA 1 ?_))
  obtain ⟨k69, B9, t8, q7, p8⟩ := add_one hA B4 z8 f6 e16
  refine ops_step rfl rfl (int_add hA rfl rfl rfl t8) ?_
  refine rn hA 1 (oz ?_)
  refine gB (rn hA 2 ?_)
  have t1 : n5 < (List.length o68 : Int) := by rw [l4]; exact c8
  refine ops_step rfl rfl (idx_own rfl rfl rfl rfl rfl rfl h05 t1 rfl) ?_
  refine rn hA 2 ?_
  refine ops_nestR rfl rfl rfl rfl rfl rfl rfl l6 rfl rfl (fun w72 o71 j6 => ?_)
  have x0 := so_l j6 l4
  have m7 := so_z j6 l6
  have x4 := so_f j6 x7
  refine rn hA 1 ?_
  obtain ⟨g2, m73, j0, s9, v4⟩ : ∃ (g2 : RR) (m73 : Int), g2 = List.map eInt (mkIntS k69 b9) ∧ m73 = k69 + cnIntS b9 ∧ RealM Tryz.prog 70 [.ow 1 a0, .ii k69] [.ow 1 g2, .ii k69] (.ii m73) := ⟨_, _, rfl, rfl, by subst d4; exact m_laws_markIntS A hA b9 k69 q7 (le_cn p8 f2 e17)⟩
  have C7 := rlen_map hA j0
  have u7 := add_cn s9 q7 p8 f2 f0
  refine ops_callM rfl (by cbv) (by cbv) (by cbv) v4 rfl (by cbv) ?_
  refine rn hA 1 ?_
  obtain ⟨o74, g6⟩ : ∃ r, r = o71.set (Int.toNat n5) [.ii kk, .str b4, .str b2, .bool (A.cmp .eql (A.num .rem .i64 k14 3) 0), .ii k17, .str b5, .ow 1 c2, .ow 1 c4, .ii m34, .str c3, .ow 3 c6, .ow 1 c7, .ii m52, .str c5, .str d0, .ii k66, .ow 1 g2] := ⟨_, rfl⟩
  have D0 := so_l g6 x0
  have D1 := so_z g6 m7
  have x9 := so_f g6 x4
  refine ops_doneB (tweak_backR (D := 149) (d := 1000000000) (i := (Int.toNat n5)) (j := 16) rfl rfl rfl m7 rfl (by decide) g6 rfl) ?_
  refine gB (rn hA 1 ?_)
  refine rn hA 1 ?_
  refine rn hA 1 (oz ?_)
  refine ⟨(S37_1 hv m73 (A.num .add .i64 n5 1) o74), List.length x - (i + 1), ?_, by cbv, i + 1, o74, (A.num .add .i64 n5 1), m73, rfl, ?_, rfl⟩
  ·
   exact hdec
  have hrow : ([.ii kk, .str b4, .str b2, .bool (A.cmp .eql (A.num .rem .i64 k14 3) 0), .ii k17, .str b5, .ow 1 c2, .ow 1 c4, .ii m34, .str c3, .ow 3 c6, .ow 1 c7, .ii m52, .str c5, .str d0, .ii k66, .ow 1 g2] : List PV) = eoSession (meSession kk (⟨g0, g1, d7, c9, ⟨b1, b0, c0, b8⟩, ⟨a8, a7, b6, b7⟩, ⟨a3, a5, a6, a1, b9⟩⟩ : GSession)) := by
   subst wk4 wk9 B8 z5 z1 B6 p7 s7 y9 z2 q5 s1 B0 B5 B1 B9 s9
   show _ = ([_, _, _, _, _, _, _, _, _, _, _, _, _, _, _, _, _] : List PV)
   exact congr (congrArg List.cons (congrArg (PV.int .i64) rfl)) (congr (congrArg List.cons (congrArg PV.str s4)) (congr (congrArg List.cons (congrArg PV.str o5)) (congr (congrArg List.cons (congrArg PV.bool (mb_eq hA rfl))) (congr (congrArg List.cons (congrArg (PV.int .i64) rfl)) (congr (congrArg List.cons (congrArg PV.str o7)) (congr (congrArg List.cons (congrArg (PV.ow 1) j3)) (congr (congrArg List.cons (congrArg (PV.ow 1) j4)) (congr (congrArg List.cons (congrArg (PV.int .i64) rfl)) (congr (congrArg List.cons (congrArg PV.str o6)) (congr (congrArg List.cons (congrArg (PV.ow 3) j2)) (congr (congrArg List.cons (congrArg (PV.ow 1) j1)) (congr (congrArg List.cons (congrArg (PV.int .i64) rfl)) (congr (congrArg List.cons (congrArg PV.str j7)) (congr (congrArg List.cons (congrArg PV.str k0)) (congr (congrArg List.cons (congrArg (PV.int .i64) rfl)) (congr (congrArg List.cons (congrArg (PV.ow 1) j0)) (rfl)))))))))))))))))
  refine ⟨y7, hi1, fin_k u7.2 f7 hrce hkk cat, ?_⟩
  rw [x9, hrow, p5, hn5, mkSessionS_at k hyi, ← hkk]
  exact mark_set (hlen.symm.trans (Int.toNat_natCast i).symm)
 have ec1 : (A.rlen ro) ≤ n5 := lss_f hA c1
 refine go_exit ⟨fun _ => ?_, fun h => absurd rfl h⟩
 refine gs (gB (rn hA 2 (oz ?_)))
 refine go_ret ⟨⟨rfl, trivial⟩, Eq.trans (b := some [.ow 17 ro, .ii k]) (by cbv) ?_, _, by cbv, ?_⟩
 ·
  rw [hro, List.take_of_length_le (by omega), List.drop_of_length_le (by omega), List.append_nil]
 show _ = (PV.int .i64 kk)
 refine congrArg (PV.int .i64) ?_
 rw [hkk, List.take_of_length_le (by omega)]
end Go.Av
