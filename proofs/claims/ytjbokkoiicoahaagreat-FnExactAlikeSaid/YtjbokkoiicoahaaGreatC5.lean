/- Walks: copies of sessions. -/
import Derived.Test.YtjbokkoiicoahaaGreatC1
namespace Go.Av
open Go Go.Proofs
set_option maxRecDepth 100000
set_option maxHeartbeats 4000000
set_option linter.unusedVariables false
set_option linter.unusedSimpArgs false
theorem r_Clip_Session (A : Alg) (hA : A = std) (x : List GSession)  : RealC Tryz.prog 96 [.ow 17 (List.map eoSession x)] (.ow 17 (List.map eoSession x)) := by
 obtain ⟨x_r, a0⟩ := nm (x.map eoSession)
 have a1 := rlen_map hA a0
 refine realC_args (args1 := [.ow 17 x_r]) (by subst a0; rfl) ?_
 refine realC tyOk Tryz.func96 (by kernel_rfl) (afunC_of rfl (by cbv) (fun hv => ?_))
 refine gx hA 1 ?_
 refine gs (gr (rn hA 5 ?_))
 have hrl : A.rlen x_r = (List.length x_r : Int) := by subst hA; rfl
 refine ops_step rfl rfl (slc3_own rfl rfl rfl rfl rfl rfl rfl rfl rfl hrl hrl) ?_
 refine rz hA 1 ?_
 refine go_ret ⟨_, by cbv, ?_⟩
 show _ = (PV.ow 17 x_r)
 rw [a0]
end Go.Av
namespace Go.Av
open Go Go.Proofs
set_option maxRecDepth 100000
set_option maxHeartbeats 4000000
set_option linter.unusedVariables false
set_option linter.unusedSimpArgs false
theorem r_impl_cloneSession (A : Alg) (hA : A = std) (x : GSession) (hz : ∀ k ∈ zsSession x, k ≤ 1048576) : Real Tryz.prog 95 [.agg (eSession x)] (.agg (eoSession x)) := by
 obtain ⟨i6, k2, j6, i4, ⟨b5, b8, e9, d4⟩, ⟨b4, c3, d0, d5⟩, ⟨c2, c4, c8, b7, e2⟩⟩ := x
 obtain ⟨g5, e4⟩ := nm (e9.map eString)
 have k1 := rlen_map hA e4
 obtain ⟨g0, d8⟩ := nm (d4.map eString)
 have j7 := rlen_map hA d8
 obtain ⟨f8, d2⟩ := nm (d0.map eMail)
 have j1 := rlen_map hA d2
 obtain ⟨g2, d7⟩ := nm (d5.map eBool)
 have j5 := rlen_map hA d7
 obtain ⟨g3, e0⟩ := nm (e2.map eInt)
 have j9 := rlen_map hA e0
 refine real_args (args' := [.agg [.ii i6, .str k2, .str j6, .bool i4, .ii b5, .str b8, .sl 1 g5, .sl 1 g0, .ii b4, .str c3, .sl 3 f8, .sl 1 g2, .ii c2, .str c4, .str c8, .ii b7, .sl 1 g3]]) (by subst e4 d8 d2 d7 e0; rfl) ?_
 have zBring : ∀ k ∈ zsBring (⟨b5, b8, e9, d4⟩ : GBring), k ≤ 1048576 := fun k hk => hz k (List.mem_append_right _ (List.mem_append_right _ (List.mem_append_left _ hk)))
 have zFetch : ∀ k ∈ zsFetch (⟨b4, c3, d0, d5⟩ : GFetch), k ≤ 1048576 := fun k hk => hz k (List.mem_append_right _ (List.mem_append_right _ (List.mem_append_right _ (List.mem_append_left _ hk))))
 have zLook : ∀ k ∈ zsLook (⟨c2, c4, c8, b7, e2⟩ : GLook), k ≤ 1048576 := fun k hk => hz k (List.mem_append_right _ (List.mem_append_right _ (List.mem_append_right _ (List.mem_append_right _ (List.mem_append_left _ hk)))))
 refine real tyOk Tryz.func95 (by kernel_rfl) (afun_of rfl ?_)
 refine gx hA 2 ?_
 refine gs (gr (rn hA 2 ?_))
 obtain ⟨g6, f5, i1, g9, hc2⟩ : ∃ (g6 : RR) (f5 : RR), g6 = List.map eString e9 ∧ f5 = List.map eString d4 ∧ Real Tryz.prog 136 [.agg [.ii b5, .str b8, .sl 1 g5, .sl 1 g0]] (.agg [.ii b5, .str b8, .ow 1 g6, .ow 1 f5]) := ⟨_, _, rfl, rfl, by subst e4 d8; exact r_impl_cloneBring A hA (⟨b5, b8, e9, d4⟩ : GBring) (by assumption)⟩
 have l2 := rlen_map hA i1
 have k6 := rlen_map hA g9
 refine ops_callV rfl rfl (by cbv) (by cbv) hc2 (.inr rfl) (by cbv) ?_
 refine rz hA 2 ?_
 refine gs (gr (rn hA 2 ?_))
 obtain ⟨f0, f4, g7, i0, hc4⟩ : ∃ (f0 : RR) (f4 : RR), f0 = List.map eoMail d0 ∧ f4 = List.map eBool d5 ∧ Real Tryz.prog 137 [.agg [.ii b4, .str c3, .sl 3 f8, .sl 1 g2]] (.agg [.ii b4, .str c3, .ow 3 f0, .ow 1 f4]) := ⟨_, _, rfl, rfl, by subst d2 d7; exact r_impl_cloneFetch A hA (⟨b4, c3, d0, d5⟩ : GFetch) (by assumption)⟩
 have k4 := rlen_map hA g7
 have k5 := rlen_map hA i0
 refine ops_callV rfl rfl (by cbv) (by cbv) hc4 (.inr rfl) (by cbv) ?_
 refine rz hA 2 ?_
 refine gs (gr (rn hA 2 ?_))
 obtain ⟨e7, g8, hc6⟩ : ∃ (e7 : RR), e7 = List.map eInt e2 ∧ Real Tryz.prog 138 [.agg [.ii c2, .str c4, .str c8, .ii b7, .sl 1 g3]] (.agg [.ii c2, .str c4, .str c8, .ii b7, .ow 1 e7]) := ⟨_, rfl, by subst e0; exact r_impl_cloneLook A hA (⟨c2, c4, c8, b7, e2⟩ : GLook) (by assumption)⟩
 have k3 := rlen_map hA g8
 refine ops_callV rfl rfl (by cbv) (by cbv) hc6 (.inr rfl) (by cbv) ?_
 refine rz hA 2 ?_
 refine gx hA 2 ?_
 refine go_ret ⟨_, by cbv, ?_⟩
 show _ = (PV.agg [.ii i6, .str k2, .str j6, .bool i4, .ii b5, .str b8, .ow 1 g6, .ow 1 f5, .ii b4, .str c3, .ow 3 f0, .ow 1 f4, .ii c2, .str c4, .str c8, .ii b7, .ow 1 e7])
 simp only [i1, g9, g7, i0, g8]
 rfl
def S52_1 (p0 : RR) (p1 : Int) (p2 : Int) (p3 : RR) : St := { sl := [.bad, .bad, .bad, .own 6, .bad, .bad, .bad, .sl 17 p0, .ii p1, .ii p2, .bad, .bad, .bad, .bad, .bad, .bad, .bad, .bad, .bad, .bad, .bad], bl := [(6, ⟨.arr, 17, p3⟩)] }
theorem r_impl_cloneSessions (A : Alg) (hA : A = std) (xs : List GSession) (hz : ∀ k ∈ zsSessionS xs, k ≤ 1048576) : Real Tryz.prog 52 [.sl 17 (List.map eSession xs)] (.ow 17 (List.map eoSession xs)) := by
 obtain ⟨f9, i3⟩ := nm (xs.map eSession)
 have l3 := rlen_map hA i3
 refine real_args (args' := [.sl 17 f9]) (by subst i3; rfl) ?_
 have hlen : List.length xs ≤ 1048576 := hz _ (List.mem_cons_self ..)
 refine real tyOk Tryz.func52 (by kernel_rfl) (afun_of rfl ?_)
 refine gx hA 1 ?_
 refine gx hA 2 ?_
 refine gs (gx hA 3 ?_)
 refine go_block ?_
 refine go_loopE (fun σ m => ∃ (i : Nat) (R : RR) (n : Int), σ = (S52_1 f9 (A.rlen f9) n R) ∧ (n = (i : Int) ∧ i ≤ List.length xs ∧ R = List.map eoSession (xs.take i)) ∧ m = List.length xs - i) _ [] [3, 7, 8, 9] [6] (S52_1 f9 (A.rlen f9) 0 ([])) rfl (by cbv) ⟨0, [], 0, rfl, ?_, rfl⟩ (fun σ m hI => ?_)
 ·
  exact ⟨rfl, Nat.zero_le _, rfl⟩
 obtain ⟨i, R, n, rfl, ⟨hn, hi, hR⟩, rfl⟩ := hI
 refine gx hA 1 ?_
 refine gs ?_
 refine go_cond rfl (fun c1 => ?_) (fun c1 => ?_)
 ·
  have ec1 : n < (A.rlen f9) := lss_t hA c1
  refine gk (gs ?_)
  refine go_block ?_
  refine gs (gr ?_)
  have k9 : (0 : Int) ≤ n := by
   omega
  have l0 : (Int.toNat n) < List.length xs := by
   omega
  obtain ⟨x2, hx2⟩ : ∃ x, (xs)[(Int.toNat n)]? = some x := ⟨_, List.getElem?_eq_getElem l0⟩
  have k8 := List.mem_of_getElem? hx2
  obtain ⟨c7, e8, d9, c6, ⟨a0, a2, c5, b3⟩, ⟨a1, a5, a9, b2⟩, ⟨a4, a6, a7, a3, b9⟩⟩ := x2
  obtain ⟨g4, e1⟩ := nm (c5.map eString)
  have k0 := rlen_map hA e1
  obtain ⟨f3, d3⟩ := nm (b3.map eString)
  have j0 := rlen_map hA d3
  obtain ⟨f1, c9⟩ := nm (a9.map eMail)
  have i7 := rlen_map hA c9
  obtain ⟨f6, d1⟩ := nm (b2.map eBool)
  have j3 := rlen_map hA d1
  obtain ⟨g1, d6⟩ := nm (b9.map eInt)
  have j4 := rlen_map hA d6
  have l1 : f9[(Int.toNat n)]? = some [.ii c7, .str e8, .str d9, .bool c6, .ii a0, .str a2, .sl 1 g4, .sl 1 f3, .ii a1, .str a5, .sl 3 f1, .sl 1 f6, .ii a4, .str a6, .str a7, .ii a3, .sl 1 g1] := by
   subst e1 d3 c9 d1 d6; exact map_at eSession i3 hx2
  have i2 := hx2
  rw [hn] at i2
  have i2 : (xs)[i]? = some (⟨c7, e8, d9, c6, ⟨a0, a2, c5, b3⟩, ⟨a1, a5, a9, b2⟩, ⟨a4, a6, a7, a3, b9⟩⟩ : GSession) := i2
  have zS : ∀ k ∈ zsSession (⟨c7, e8, d9, c6, ⟨a0, a2, c5, b3⟩, ⟨a1, a5, a9, b2⟩, ⟨a4, a6, a7, a3, b9⟩⟩ : GSession), k ≤ 1048576 := fun k hk => hz k (List.mem_cons_of_mem _ (List.mem_flatMap.2 ⟨_, k8, hk⟩))
  refine ops_step rfl rfl (idx_sl rfl rfl rfl rfl rfl k9 rfl l1) ?_
  refine rz hA 3 ?_
  refine gr (rn hA 2 ?_)
  obtain ⟨c0, b0, a8, b1, b6, f7, e6, e3, e5, f2, hc4⟩ : ∃ (c0 : RR) (b0 : RR) (a8 : RR) (b1 : RR) (b6 : RR), c0 = List.map eString c5 ∧ b0 = List.map eString b3 ∧ a8 = List.map eoMail a9 ∧ b1 = List.map eBool b2 ∧ b6 = List.map eInt b9 ∧ Real Tryz.prog 95 [.agg [.ii c7, .str e8, .str d9, .bool c6, .ii a0, .str a2, .sl 1 g4, .sl 1 f3, .ii a1, .str a5, .sl 3 f1, .sl 1 f6, .ii a4, .str a6, .str a7, .ii a3, .sl 1 g1]] (.agg [.ii c7, .str e8, .str d9, .bool c6, .ii a0, .str a2, .ow 1 c0, .ow 1 b0, .ii a1, .str a5, .ow 3 a8, .ow 1 b1, .ii a4, .str a6, .str a7, .ii a3, .ow 1 b6]) := ⟨_, _, _, _, _, rfl, rfl, rfl, rfl, rfl, by subst e1 d3 c9 d1 d6; exact r_impl_cloneSession A hA (⟨c7, e8, d9, c6, ⟨a0, a2, c5, b3⟩, ⟨a1, a5, a9, b2⟩, ⟨a4, a6, a7, a3, b9⟩⟩ : GSession) (by assumption)⟩
  have j8 := rlen_map hA f7
  have i9 := rlen_map hA e6
  have i5 := rlen_map hA e3
  have i8 := rlen_map hA e5
  have j2 := rlen_map hA f2
  refine ops_callV rfl rfl (by cbv) (by cbv) hc4 (.inr rfl) (by cbv) ?_
  refine rn hA 1 ?_
  obtain ⟨r5, hr5⟩ := nm (R ++ [[.ii c7, .str e8, .str d9, .bool c6, .ii a0, .str a2, .ow 1 c0, .ow 1 b0, .ii a1, .str a5, .ow 3 a8, .ow 1 b1, .ii a4, .str a6, .str a7, .ii a3, .ow 1 b6]] : RR)
  have er5 : r5 = List.map eoSession ((xs.take i) ++ ([(⟨c7, e8, d9, c6, ⟨a0, a2, c5, b3⟩, ⟨a1, a5, a9, b2⟩, ⟨a4, a6, a7, a3, b9⟩⟩ : GSession)])) := by rw [hr5]; exact app_eq hR (by simp only [f7, e6, e3, e5, f2]; rfl)
  have lr5 := rlen_map hA er5
  refine ops_step rfl rfl (app_own rfl rfl rfl rfl rfl rfl rfl rfl hr5 (by cbv) (by cbv) (by cbv) rfl (by
   show (List.length R + List.length ([[.ii c7, .str e8, .str d9, .bool c6, .ii a0, .str a2, .ow 1 c0, .ow 1 b0, .ii a1, .str a5, .ow 3 a8, .ow 1 b1, .ii a4, .str a6, .str a7, .ii a3, .ow 1 b6]])) * _ ≤ _
   show (List.length R + 1) * 264 ≤ _
   rw [hR, List.length_map, List.length_take]
   omega) (by decide) (by decide)) ?_
  refine rz hA 1 ?_
  refine gy hA 2 ?_
  refine ⟨(S52_1 f9 (A.rlen f9) (A.num .add .i64 n 1) r5), List.length xs - (i + 1), ?_, by cbv, i + 1, r5, (A.num .add .i64 n 1), rfl, ?_, rfl⟩
  ·
   omega
  refine ⟨by rw [add_i64 hA (by omega) (by omega)]; omega, by omega, ?_⟩
  rw [List.take_add_one, i2]
  exact er5
 have ec1 : (A.rlen f9) ≤ n := lss_f hA c1
 refine go_exit ⟨fun _ => ?_, fun h => absurd rfl h⟩
 refine gs (gr (rn hA 1 ?_))
 obtain ⟨z6, hz6, k7⟩ : ∃ r : RR, r = List.map eoSession (xs.take i) ∧ RealC Tryz.prog 96 [.ow 17 R] (.ow 17 r) := ⟨_, rfl, by subst hR; exact r_Clip_Session A hA (xs.take i) ⟩
 have lz6 := rlen_map hA hz6
 refine ops_callC rfl (by cbv) rfl (by cbv) (by cbv) k7 (by cbv) ?_
 refine rz hA 1 ?_
 refine go_ret ⟨_, by cbv, ?_⟩
 show _ = (PV.ow 17 z6)
 refine congrArg (PV.ow 17) ?_
 rw [hz6, List.take_of_length_le (by omega)]
end Go.Av
