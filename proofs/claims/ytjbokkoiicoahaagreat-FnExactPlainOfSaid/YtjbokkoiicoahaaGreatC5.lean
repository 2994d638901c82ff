/- Walks: copies of sessions. -/
import Derived.Test.YtjbokkoiicoahaaGreatC1
namespace Go.Av
open Go Go.Proofs
set_option maxRecDepth 100000
set_option maxHeartbeats 4000000
set_option linter.unusedVariables false
set_option linter.unusedSimpArgs false
theorem r_Clip_Session (A : Alg) (hA : A = std) (x : List GSession)  : RealC Tryz.prog 96 [.ow 17 (List.map eoSession x)] (.ow 17 (List.map eoSession x)) := by
 obtain ⟨x_r, a0⟩ := nm (x.map eoSession)
 have a1 := rlen_map hA a0
 refine realC_args (args1 := [.ow 17 x_r]) (by subst a0; rfl) ?_
 refine realC tyOk Tryz.func96 (by kernel_rfl) (afunC_of rfl (by cbv) (fun hv => ?_))
 refine gx hA 1 ?_
 refine gs (gr (rn hA 5 ?_))
 have hrl : A.rlen x_r = (List.length x_r : Int) := by subst hA; rfl
 refine ops_step rfl rfl (slc3_own rfl rfl rfl rfl rfl rfl rfl rfl rfl hrl hrl) ?_
 refine rz hA 1 ?_
 refine go_ret ⟨_, by cbv, ?_⟩
 show _ = (PV.ow 17 x_r)
 rw [a0]
end Go.Av
namespace Go.Av
open Go Go.Proofs
set_option maxRecDepth 100000
set_option maxHeartbeats 4000000
set_option linter.unusedVariables false
set_option linter.unusedSimpArgs false
theorem r_impl_cloneSession (A : Alg) (hA : A = std) (x : GSession) (hz : ∀ k ∈ zsSession x, k ≤ 1048576) : Real Tryz.prog 95 [.agg (eSession x)] (.agg (eoSession x)) := by
 obtain ⟨i4, k2, j7, i6, ⟨b3, c3, f0, d8⟩, ⟨b4, c0, d0, d5⟩, ⟨c2, c5, c8, b8, e2⟩⟩ := x
 obtain ⟨g5, e4⟩ := nm (f0.map eString)
 have k1 := rlen_map hA e4
 obtain ⟨g1, d6⟩ := nm (d8.map eString)
 have j8 := rlen_map hA d6
 obtain ⟨f5, d3⟩ := nm (d0.map eMail)
 have j2 := rlen_map hA d3
 obtain ⟨g2, d4⟩ := nm (d5.map eBool)
 have j4 := rlen_map hA d4
 obtain ⟨g3, e1⟩ := nm (e2.map eInt)
 have k0 := rlen_map hA e1
 refine real_args (args' := [.agg [.ii i4, .str k2, .str j7, .bool i6, .ii b3, .str c3, .sl 1 g5, .sl 1 g1, .ii b4, .str c0, .sl 3 f5, .sl 1 g2, .ii c2, .str c5, .str c8, .ii b8, .sl 1 g3]]) (by subst e4 d6 d3 d4 e1; rfl) ?_
 have zBring : ∀ k ∈ zsBring (⟨b3, c3, f0, d8⟩ : GBring), k ≤ 1048576 := fun k hk => hz k (List.mem_append_right _ (List.mem_append_right _ (List.mem_append_left _ hk)))
 have zFetch : ∀ k ∈ zsFetch (⟨b4, c0, d0, d5⟩ : GFetch), k ≤ 1048576 := fun k hk => hz k (List.mem_append_right _ (List.mem_append_right _ (List.mem_append_right _ (List.mem_append_left _ hk))))
 have zLook : ∀ k ∈ zsLook (⟨c2, c5, c8, b8, e2⟩ : GLook), k ≤ 1048576 := fun k hk => hz k (List.mem_append_right _ (List.mem_append_right _ (List.mem_append_right _ (List.mem_append_right _ (List.mem_append_left _ hk)))))
 refine real tyOk Tryz.func95 (by kernel_rfl) (afun_of rfl ?_)
 refine gx hA 2 ?_
 refine gs (gr (rn hA 2 ?_))
 obtain ⟨g6, f3, i1, g9, hc2⟩ : ∃ (g6 : RR) (f3 : RR), g6 = List.map eString f0 ∧ f3 = List.map eString d8 ∧ Real Tryz.prog 136 [.agg [.ii b3, .str c3, .sl 1 g5, .sl 1 g1]] (.agg [.ii b3, .str c3, .ow 1 g6, .ow 1 f3]) := ⟨_, _, rfl, rfl, by subst e4 d6; exact r_impl_cloneBring A hA (⟨b3, c3, f0, d8⟩ : GBring) (by assumption)⟩
 have k7 := rlen_map hA i1
 have k5 := rlen_map hA g9
 refine ops_callV rfl rfl (by cbv) (by cbv) hc2 (.inr rfl) (by cbv) ?_
 refine rz hA 2 ?_
 refine gs (gr (rn hA 2 ?_))
 obtain ⟨e8, f6, g7, i0, hc4⟩ : ∃ (e8 : RR) (f6 : RR), e8 = List.map eoMail d0 ∧ f6 = List.map eBool d5 ∧ Real Tryz.prog 137 [.agg [.ii b4, .str c0, .sl 3 f5, .sl 1 g2]] (.agg [.ii b4, .str c0, .ow 3 e8, .ow 1 f6]) := ⟨_, _, rfl, rfl, by subst d3 d4; exact r_impl_cloneFetch A hA (⟨b4, c0, d0, d5⟩ : GFetch) (by assumption)⟩
 have k3 := rlen_map hA g7
 have k6 := rlen_map hA i0
 refine ops_callV rfl rfl (by cbv) (by cbv) hc4 (.inr rfl) (by cbv) ?_
 refine rz hA 2 ?_
 refine gs (gr (rn hA 2 ?_))
 obtain ⟨e7, g8, hc6⟩ : ∃ (e7 : RR), e7 = List.map eInt e2 ∧ Real Tryz.prog 138 [.agg [.ii c2, .str c5, .str c8, .ii b8, .sl 1 g3]] (.agg [.ii c2, .str c5, .str c8, .ii b8, .ow 1 e7]) := ⟨_, rfl, by subst e1; exact r_impl_cloneLook A hA (⟨c2, c5, c8, b8, e2⟩ : GLook) (by assumption)⟩
 have k4 := rlen_map hA g8
 refine ops_callV rfl rfl (by cbv) (by cbv) hc6 (.inr rfl) (by cbv) ?_
 refine rz hA 2 ?_
 refine gx hA 2 ?_
 refine go_ret ⟨_, by cbv, ?_⟩
 show _ = (PV.agg [.ii i4, .str k2, .str j7, .bool i6, .ii b3, .str c3, .ow 1 g6, .ow 1 f3, .ii b4, .str c0, .ow 3 e8, .ow 1 f6, .ii c2, .str c5, .str c8, .ii b8, .ow 1 e7])
 simp only [i1, g9, g7, i0, g8]
 rfl
def S52_1 (p0 : RR) (p1 : Int) (p2 : Int) (p3 : RR) : St := { sl := [.bad, .bad, .bad, .own 6, .bad, .bad, .bad, .sl 17 p0, .ii p1, .ii p2, .bad, .bad, .bad, .bad, .bad, .bad, .bad, .bad, .bad, .bad, .bad], bl := [(6, ⟨.arr, 17, p3⟩)] }
theorem r_impl_cloneSessions (A : Alg) (hA : A = std) (xs : List GSession) (hz : ∀ k ∈ zsSessionS xs, k ≤ 1048576) : Real Tryz.prog 52 [.sl 17 (List.map eSession xs)] (.ow 17 (List.map eoSession xs)) := by
 obtain ⟨f9, i2⟩ := nm (xs.map eSession)
 have l3 := rlen_map hA i2
 refine real_args (args' := [.sl 17 f9]) (by subst i2; rfl) ?_
 have hlen : List.length xs ≤ 1048576 := hz _ (List.mem_cons_self ..)
 refine real tyOk Tryz.func52 (by kernel_rfl) (afun_of rfl ?_)
 refine gx hA 1 ?_
 refine gx hA 2 ?_
 refine gs (gx hA 3 ?_)
 refine go_block ?_
 refine go_loopE (fun σ m => ∃ (i : Nat) (R : RR) (n : Int), σ = (S52_1 f9 (A.rlen f9) n R) ∧ (n = (i : Int) ∧ i ≤ List.length xs ∧ R = List.map eoSession (xs.take i)) ∧ m = List.length xs - i) _ [] [3, 7, 8, 9] [6] (S52_1 f9 (A.rlen f9) 0 ([])) rfl (by cbv) ⟨0, [], 0, rfl, ?_, rfl⟩ (fun σ m hI => ?_)
 ·
  exact ⟨rfl, Nat.zero_le _, rfl⟩
 obtain ⟨i, R, n, rfl, ⟨hn, hi, hR⟩, rfl⟩ := hI
 refine gx hA 1 ?_
 refine gs ?_
 refine go_cond rfl (fun c1 => ?_) (fun c1 => ?_)
 ·
  have ec1 : n < (A.rlen f9) := lss_t hA c1
  refine gk (gs ?_)
  refine go_block ?_
  refine gs (gr ?_)
  have l2 : (0 : Int) ≤ n := by
   omega
  have k9 : (Int.toNat n) < List.length xs := by
   omega
  obtain ⟨x2, hx2⟩ : ∃ x, (xs)[(Int.toNat n)]? = some x := ⟨_, List.getElem?_eq_getElem k9⟩
  have l1 := List.mem_of_getElem? hx2
  obtain ⟨c6, e9, d7, c7, ⟨a0, a5, c4, b5⟩, ⟨a1, a3, a9, b2⟩, ⟨a2, a6, a7, a4, b9⟩⟩ := x2
  obtain ⟨g4, e0⟩ := nm (c4.map eString)
  have j9 := rlen_map hA e0
  obtain ⟨f4, d2⟩ := nm (b5.map eString)
  have j1 := rlen_map hA d2
  obtain ⟨f1, c9⟩ := nm (a9.map eMail)
  have i9 := rlen_map hA c9
  obtain ⟨f8, d1⟩ := nm (b2.map eBool)
  have j0 := rlen_map hA d1
  obtain ⟨g0, d9⟩ := nm (b9.map eInt)
  have j6 := rlen_map hA d9
  have k8 : f9[(Int.toNat n)]? = some [.ii c6, .str e9, .str d7, .bool c7, .ii a0, .str a5, .sl 1 g4, .sl 1 f4, .ii a1, .str a3, .sl 3 f1, .sl 1 f8, .ii a2, .str a6, .str a7, .ii a4, .sl 1 g0] := by
   subst e0 d2 c9 d1 d9; exact map_at eSession i2 hx2
  have i3 := hx2
  rw [hn] at i3
  have i3 : (xs)[i]? = some (⟨c6, e9, d7, c7, ⟨a0, a5, c4, b5⟩, ⟨a1, a3, a9, b2⟩, ⟨a2, a6, a7, a4, b9⟩⟩ : GSession) := i3
  have zS : ∀ k ∈ zsSession (⟨c6, e9, d7, c7, ⟨a0, a5, c4, b5⟩, ⟨a1, a3, a9, b2⟩, ⟨a2, a6, a7, a4, b9⟩⟩ : GSession), k ≤ 1048576 := fun k hk => hz k (List.mem_cons_of_mem _ (List.mem_flatMap.2 ⟨_, l1, hk⟩))
  refine ops_step rfl rfl (idx_sl rfl rfl rfl rfl rfl l2 rfl k8) ?_
  refine rz hA 3 ?_
  refine gr (rn hA 2 ?_)
  obtain ⟨b7, b0, a8, b1, b6, f7, e5, e3, e6, f2, hc4⟩ : ∃ (b7 : RR) (b0 : RR) (a8 : RR) (b1 : RR) (b6 : RR), b7 = List.map eString c4 ∧ b0 = List.map eString b5 ∧ a8 = List.map eoMail a9 ∧ b1 = List.map eBool b2 ∧ b6 = List.map eInt b9 ∧ Real Tryz.prog 95 [.agg [.ii c6, .str e9, .str d7, .bool c7, .ii a0, .str a5, .sl 1 g4, .sl 1 f4, .ii a1, .str a3, .sl 3 f1, .sl 1 f8, .ii a2, .str a6, .str a7, .ii a4, .sl 1 g0]] (.agg [.ii c6, .str e9, .str d7, .bool c7, .ii a0, .str a5, .ow 1 b7, .ow 1 b0, .ii a1, .str a3, .ow 3 a8, .ow 1 b1, .ii a2, .str a6, .str a7, .ii a4, .ow 1 b6]) := ⟨_, _, _, _, _, rfl, rfl, rfl, rfl, rfl, by subst e0 d2 c9 d1 d9; exact r_impl_cloneSession A hA (⟨c6, e9, d7, c7, ⟨a0, a5, c4, b5⟩, ⟨a1, a3, a9, b2⟩, ⟨a2, a6, a7, a4, b9⟩⟩ : GSession) (by assumption)⟩
  have j5 := rlen_map hA f7
  have i8 := rlen_map hA e5
  have i5 := rlen_map hA e3
  have i7 := rlen_map hA e6
  have j3 := rlen_map hA f2
  refine ops_callV rfl rfl (by cbv) (by cbv) hc4 (.inr rfl) (by cbv) ?_
  refine rn hA 1 ?_
  obtain ⟨r5, hr5⟩ := nm (R ++ [[.ii c6, .str e9, .str d7, .bool c7, .ii a0, .str a5, .ow 1 b7, .ow 1 b0, .ii a1, .str a3, .ow 3 a8, .ow 1 b1, .ii a2, .str a6, .str a7, .ii a4, .ow 1 b6]] : RR)
  have er5 : r5 = List.map eoSession ((xs.take i) ++ ([(⟨c6, e9, d7, c7, ⟨a0, a5, c4, b5⟩, ⟨a1, a3, a9, b2⟩, ⟨a2, a6, a7, a4, b9⟩⟩ : GSession)])) := by rw [hr5]; exact app_eq hR (by simp only [f7, e5, e3, e6, f2]; rfl)
  have lr5 := rlen_map hA er5
  refine ops_step rfl rfl (app_own rfl rfl rfl rfl rfl rfl rfl rfl hr5 (by cbv) (by cbv) (by cbv) rfl (by
   show (List.length R + List.length ([[.ii c6, .str e9, .str d7, .bool c7, .ii a0, .str a5, .ow 1 b7, .ow 1 b0, .ii a1, .str a3, .ow 3 a8, .ow 1 b1, .ii a2, .str a6, .str a7, .ii a4, .ow 1 b6]])) * _ ≤ _
   show (List.length R + 1) * 264 ≤ _
   rw [hR, List.length_map, List.length_take]
   omega) (by decide) (by decide)) ?_
  refine rz hA 1 ?_
  refine gy hA 2 ?_
  refine ⟨(S52_1 f9 (A.rlen f9) (A.num .add .i64 n 1) r5), List.length xs - (i + 1), ?_, by cbv, i + 1, r5, (A.num .add .i64 n 1), rfl, ?_, rfl⟩
  ·
   omega
  refine ⟨by rw [add_i64 hA (by omega) (by omega)]; omega, by omega, ?_⟩
  rw [List.take_add_one, i3]
  exact er5
 have ec1 : (A.rlen f9) ≤ n := lss_f hA c1
 refine go_exit ⟨fun _ => ?_, fun h => absurd rfl h⟩
 refine gs (gr (rn hA 1 ?_))
 obtain ⟨z6, hz6, l0⟩ : ∃ r : RR, r = List.map eoSession (xs.take i) ∧ RealC Tryz.prog 96 [.ow 17 R] (.ow 17 r) := ⟨_, rfl, by subst hR; exact r_Clip_Session A hA (xs.take i) ⟩
 have lz6 := rlen_map hA hz6
 refine ops_callC rfl (by cbv) rfl (by cbv) (by cbv) l0 (by cbv) ?_
 refine rz hA 1 ?_
 refine go_ret ⟨_, by cbv, ?_⟩
 show _ = (PV.ow 17 z6)
 refine congrArg (PV.ow 17) ?_
 rw [hz6, List.take_of_length_le (by omega)]
end Go.Av
