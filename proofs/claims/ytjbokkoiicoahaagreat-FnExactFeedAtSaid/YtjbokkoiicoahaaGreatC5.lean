/- Walks: copies of sessions. -/
import Derived.Test.YtjbokkoiicoahaaGreatC2
namespace Go.Av
open Go Go.Proofs
set_option maxRecDepth 100000
set_option maxHeartbeats 4000000
set_option linter.unusedVariables false
set_option linter.unusedSimpArgs false
theorem r_impl_cloneSession (A : Alg) (hA : A = std) (x : GSession) (hz : ∀ k ∈ zsSession x, k ≤ 1048576) : Real Tryz.prog 95 [.agg (eSession x)] (.agg (eoSession x)) := by
 obtain ⟨i5, k2, j4, i6, ⟨b3, b8, e9, d6⟩, ⟨b2, c3, d0, d8⟩, ⟨b7, c5, c8, c0, e2⟩⟩ := x
 obtain ⟨g5, e4⟩ := nm (e9.map eString)
 have k1 := rlen_map hA e4
 obtain ⟨g2, d4⟩ := nm (d6.map eString)
 have j8 := rlen_map hA d4
 obtain ⟨f3, d1⟩ := nm (d0.map eMail)
 have j2 := rlen_map hA d1
 obtain ⟨g0, d5⟩ := nm (d8.map eBool)
 have j5 := rlen_map hA d5
 obtain ⟨g4, e0⟩ := nm (e2.map eInt)
 have j9 := rlen_map hA e0
 refine real_args (args' := [.agg [.int .i64 i5, .str k2, .str j4, .bool i6, .int .i64 b3, .str b8, .sl 1 g5, .sl 1 g2, .int .i64 b2, .str c3, .sl 3 f3, .sl 1 g0, .int .i64 b7, .str c5, .str c8, .int .i64 c0, .sl 1 g4]]) (by subst e4 d4 d1 d5 e0; rfl) ?_
 have zBring : ∀ k ∈ zsBring (⟨b3, b8, e9, d6⟩ : GBring), k ≤ 1048576 := fun k hk => hz k (List.mem_append_right _ (List.mem_append_right _ (List.mem_append_left _ hk)))
 have zFetch : ∀ k ∈ zsFetch (⟨b2, c3, d0, d8⟩ : GFetch), k ≤ 1048576 := fun k hk => hz k (List.mem_append_right _ (List.mem_append_right _ (List.mem_append_right _ (List.mem_append_left _ hk))))
 have zLook : ∀ k ∈ zsLook (⟨b7, c5, c8, c0, e2⟩ : GLook), k ≤ 1048576 := fun k hk => hz k (List.mem_append_right _ (List.mem_append_right _ (List.mem_append_right _ (List.mem_append_right _ (List.mem_append_left _ hk)))))
 refine real tyOk Tryz.func95 (by kernel_rfl) (afun_of rfl ?_)
 refine gs (gr (ra hA 2 (by cbv) (od ?_)))
 refine gs (gr (ra hA 2 (by cbv) ?_))
 obtain ⟨g6, f4, i1, g9, hc2⟩ : ∃ (g6 : RR) (f4 : RR), g6 = List.map eString e9 ∧ f4 = List.map eString d6 ∧ Real Tryz.prog 136 [.agg [.int .i64 b3, .str b8, .sl 1 g5, .sl 1 g2]] (.agg [.int .i64 b3, .str b8, .ow 1 g6, .ow 1 f4]) := ⟨_, _, rfl, rfl, by subst e4 d4; exact r_impl_cloneBring A hA (⟨b3, b8, e9, d6⟩ : GBring) (by assumption)⟩
 have l2 := rlen_map hA i1
 have k6 := rlen_map hA g9
 refine ops_callV rfl rfl (by cbv) (by cbv) hc2 (.inr rfl) (by cbv) ?_
 refine ra hA 2 (by cbv) (od ?_)
 refine gs (gr (ra hA 2 (by cbv) ?_))
 obtain ⟨f0, f6, g7, i0, hc4⟩ : ∃ (f0 : RR) (f6 : RR), f0 = List.map eoMail d0 ∧ f6 = List.map eBool d8 ∧ Real Tryz.prog 137 [.agg [.int .i64 b2, .str c3, .sl 3 f3, .sl 1 g0]] (.agg [.int .i64 b2, .str c3, .ow 3 f0, .ow 1 f6]) := ⟨_, _, rfl, rfl, by subst d1 d5; exact r_impl_cloneFetch A hA (⟨b2, c3, d0, d8⟩ : GFetch) (by assumption)⟩
 have k3 := rlen_map hA g7
 have k5 := rlen_map hA i0
 refine ops_callV rfl rfl (by cbv) (by cbv) hc4 (.inr rfl) (by cbv) ?_
 refine ra hA 2 (by cbv) (od ?_)
 refine gs (gr (ra hA 2 (by cbv) ?_))
 obtain ⟨e8, g8, hc6⟩ : ∃ (e8 : RR), e8 = List.map eInt e2 ∧ Real Tryz.prog 138 [.agg [.int .i64 b7, .str c5, .str c8, .int .i64 c0, .sl 1 g4]] (.agg [.int .i64 b7, .str c5, .str c8, .int .i64 c0, .ow 1 e8]) := ⟨_, rfl, by subst e0; exact r_impl_cloneLook A hA (⟨b7, c5, c8, c0, e2⟩ : GLook) (by assumption)⟩
 have k4 := rlen_map hA g8
 refine ops_callV rfl rfl (by cbv) (by cbv) hc6 (.inr rfl) (by cbv) ?_
 refine ra hA 2 (by cbv) (od ?_)
 refine gs (gr (ra hA 2 (by cbv) (od ?_)))
 refine go_ret ⟨_, by cbv, ?_⟩
 show _ = (PV.agg [.int .i64 i5, .str k2, .str j4, .bool i6, .int .i64 b3, .str b8, .ow 1 g6, .ow 1 f4, .int .i64 b2, .str c3, .ow 3 f0, .ow 1 f6, .int .i64 b7, .str c5, .str c8, .int .i64 c0, .ow 1 e8])
 simp only [i1, g9, g7, i0, g8]
 rfl
def S52_1 (p0 : RR) (p1 : Int) (p2 : Int) (p3 : RR) : St := { sl := [.bad, .bad, .bad, .own 6, .bad, .bad, .bad, .sl 17 p0, .int .i64 p1, .int .i64 p2, .bad, .bad, .bad, .bad, .bad, .bad, .bad, .bad, .bad, .bad, .bad], bl := [(6, ⟨.arr, 17, p3⟩)] }
theorem r_impl_cloneSessions (A : Alg) (hA : A = std) (xs : List GSession) (hz : ∀ k ∈ zsSessionS xs, k ≤ 1048576) : Real Tryz.prog 52 [.sl 17 (List.map eSession xs)] (.ow 17 (List.map eoSession xs)) := by
 obtain ⟨f9, i3⟩ := nm (xs.map eSession)
 have l3 := rlen_map hA i3
 refine real_args (args' := [.sl 17 f9]) (by subst i3; rfl) ?_
 have hlen : List.length xs ≤ 1048576 := hz _ (List.mem_cons_self ..)
 refine real tyOk Tryz.func52 (by kernel_rfl) (afun_of rfl ?_)
 refine gs (gr (ra hA 1 (by cbv) (od ?_)))
 refine gs (gr (ra hA 2 (by cbv) (od ?_)))
 refine gs (gs (gr (ra hA 3 (by cbv) (od ?_))))
 refine go_block ?_
 refine go_loopE (fun σ m => ∃ (i : Nat) (R : RR) (n : Int), σ = (S52_1 f9 (A.rlen f9) n R) ∧ (n = (i : Int) ∧ i ≤ List.length xs ∧ R = List.map eoSession (xs.take i)) ∧ m = List.length xs - i) _ [] [3, 7, 8, 9] [6] (S52_1 f9 (A.rlen f9) 0 ([])) rfl (by cbv) ⟨0, [], 0, rfl, ?_, rfl⟩ (fun σ m hI => ?_)
 ·
  exact ⟨rfl, Nat.zero_le _, rfl⟩
 obtain ⟨i, R, n, rfl, ⟨hn, hi, hR⟩, rfl⟩ := hI
 refine gs (gr (ra hA 1 (by cbv) (od ?_)))
 refine gs ?_
 refine go_cond rfl (fun c1 => ?_) (fun c1 => ?_)
 ·
  have ec1 : n < (A.rlen f9) := lss_t hA c1
  refine gk (gs ?_)
  refine go_block ?_
  refine gs (gr ?_)
  have l0 : (0 : Int) ≤ n := by
   omega
  have k9 : (Int.toNat n) < List.length xs := by
   omega
  obtain ⟨x2, hx2⟩ : ∃ x, (xs)[(Int.toNat n)]? = some x := ⟨_, List.getElem?_eq_getElem k9⟩
  have k8 := List.mem_of_getElem? hx2
  obtain ⟨c7, e7, d7, c6, ⟨a1, a4, c4, b4⟩, ⟨a0, a3, a9, b5⟩, ⟨a5, a6, a7, a2, b9⟩⟩ := x2
  obtain ⟨g3, e1⟩ := nm (c4.map eString)
  have k0 := rlen_map hA e1
  obtain ⟨f8, d2⟩ := nm (b4.map eString)
  have j0 := rlen_map hA d2
  obtain ⟨f2, c9⟩ := nm (a9.map eMail)
  have i8 := rlen_map hA c9
  obtain ⟨f7, d3⟩ := nm (b5.map eBool)
  have j3 := rlen_map hA d3
  obtain ⟨g1, d9⟩ := nm (b9.map eInt)
  have j7 := rlen_map hA d9
  have k7 : f9[(Int.toNat n)]? = some [.int .i64 c7, .str e7, .str d7, .bool c6, .int .i64 a1, .str a4, .sl 1 g3, .sl 1 f8, .int .i64 a0, .str a3, .sl 3 f2, .sl 1 f7, .int .i64 a5, .str a6, .str a7, .int .i64 a2, .sl 1 g1] := by
   subst e1 d2 c9 d3 d9; exact map_at eSession i3 hx2
  have i2 := hx2
  rw [hn] at i2
  have i2 : (xs)[i]? = some (⟨c7, e7, d7, c6, ⟨a1, a4, c4, b4⟩, ⟨a0, a3, a9, b5⟩, ⟨a5, a6, a7, a2, b9⟩⟩ : GSession) := i2
  have zS : ∀ k ∈ zsSession (⟨c7, e7, d7, c6, ⟨a1, a4, c4, b4⟩, ⟨a0, a3, a9, b5⟩, ⟨a5, a6, a7, a2, b9⟩⟩ : GSession), k ≤ 1048576 := fun k hk => hz k (List.mem_cons_of_mem _ (List.mem_flatMap.2 ⟨_, k8, hk⟩))
  refine ops_step rfl rfl (idx_sl rfl rfl rfl rfl rfl l0 rfl k7) ?_
  refine ra hA 3 (by cbv) (od ?_)
  refine gr (ra hA 2 (by cbv) ?_)
  obtain ⟨c2, b1, a8, b0, b6, f5, e6, e3, e5, f1, hc4⟩ : ∃ (c2 : RR) (b1 : RR) (a8 : RR) (b0 : RR) (b6 : RR), c2 = List.map eString c4 ∧ b1 = List.map eString b4 ∧ a8 = List.map eoMail a9 ∧ b0 = List.map eBool b5 ∧ b6 = List.map eInt b9 ∧ Real Tryz.prog 95 [.agg [.int .i64 c7, .str e7, .str d7, .bool c6, .int .i64 a1, .str a4, .sl 1 g3, .sl 1 f8, .int .i64 a0, .str a3, .sl 3 f2, .sl 1 f7, .int .i64 a5, .str a6, .str a7, .int .i64 a2, .sl 1 g1]] (.agg [.int .i64 c7, .str e7, .str d7, .bool c6, .int .i64 a1, .str a4, .ow 1 c2, .ow 1 b1, .int .i64 a0, .str a3, .ow 3 a8, .ow 1 b0, .int .i64 a5, .str a6, .str a7, .int .i64 a2, .ow 1 b6]) := ⟨_, _, _, _, _, rfl, rfl, rfl, rfl, rfl, by subst e1 d2 c9 d3 d9; exact r_impl_cloneSession A hA (⟨c7, e7, d7, c6, ⟨a1, a4, c4, b4⟩, ⟨a0, a3, a9, b5⟩, ⟨a5, a6, a7, a2, b9⟩⟩ : GSession) zS⟩
  have j6 := rlen_map hA f5
  have i9 := rlen_map hA e6
  have i4 := rlen_map hA e3
  have i7 := rlen_map hA e5
  have j1 := rlen_map hA f1
  refine ops_callV rfl rfl (by cbv) (by cbv) hc4 (.inr rfl) (by cbv) ?_
  refine ra hA 1 (by cbv) ?_
  obtain ⟨r5, hr5⟩ := nm (R ++ [[.int .i64 c7, .str e7, .str d7, .bool c6, .int .i64 a1, .str a4, .ow 1 c2, .ow 1 b1, .int .i64 a0, .str a3, .ow 3 a8, .ow 1 b0, .int .i64 a5, .str a6, .str a7, .int .i64 a2, .ow 1 b6]] : RR)
  have er5 : r5 = List.map eoSession ((xs.take i) ++ ([(⟨c7, e7, d7, c6, ⟨a1, a4, c4, b4⟩, ⟨a0, a3, a9, b5⟩, ⟨a5, a6, a7, a2, b9⟩⟩ : GSession)])) := by rw [hr5]; exact app_eq hR (by simp only [f5, e6, e3, e5, f1]; rfl)
  have lr5 := rlen_map hA er5
  refine ops_step rfl rfl (app_own rfl rfl rfl rfl rfl rfl rfl rfl hr5 (by cbv) (by cbv) (by cbv) rfl (by
   show (List.length R + List.length ([[.int .i64 c7, .str e7, .str d7, .bool c6, .int .i64 a1, .str a4, .ow 1 c2, .ow 1 b1, .int .i64 a0, .str a3, .ow 3 a8, .ow 1 b0, .int .i64 a5, .str a6, .str a7, .int .i64 a2, .ow 1 b6]])) * _ ≤ _
   show (List.length R + 1) * 264 ≤ _
   rw [hR, List.length_map, List.length_take]
   omega) (by decide) (by decide)) ?_
  refine ra hA 1 (by cbv) (od ?_)
  refine gr (ra hA 2 (by cbv) (od ?_))
  refine ⟨(S52_1 f9 (A.rlen f9) (A.num .add .i64 n 1) r5), List.length xs - (i + 1), ?_, by cbv, i + 1, r5, (A.num .add .i64 n 1), rfl, ?_, rfl⟩
  ·
   omega
  ·
   refine ⟨by rw [add_i64 hA (by omega) (by omega)]; omega, by omega, ?_⟩
   rw [List.take_add_one, i2]
   exact er5
 ·
  have ec1 : (A.rlen f9) ≤ n := lss_f hA c1
  refine go_exit ⟨fun _ => ?_, fun h => absurd rfl h⟩
  refine gs (gr (ra hA 1 (by cbv) ?_))
  obtain ⟨z6, hz6, l1⟩ : ∃ r : RR, r = List.map eoSession (xs.take i) ∧ RealC Tryz.prog 96 [.ow 17 R] (.ow 17 r) := ⟨_, rfl, by subst hR; exact r_Clip_Session A hA (xs.take i) ⟩
  have lz6 := rlen_map hA hz6
  refine ops_callC rfl (by cbv) rfl (by cbv) (by cbv) l1 (by cbv) ?_
  refine ra hA 1 (by cbv) (od ?_)
  refine go_ret ⟨_, by cbv, ?_⟩
  show _ = (PV.ow 17 z6)
  refine congrArg (PV.ow 17) ?_
  rw [hz6, List.take_of_length_le (by omega)]
end Go.Av
