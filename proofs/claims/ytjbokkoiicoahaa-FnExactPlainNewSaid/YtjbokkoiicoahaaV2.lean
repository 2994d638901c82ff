/- Walks: to. -/
import Derived.Test.YtjbokkoiicoahaaTy
namespace Go.Av
open Go Go.Proofs
set_option maxRecDepth 100000
set_option maxHeartbeats 4000000
set_option linter.unusedVariables false
set_option linter.unusedSimpArgs false
def S32_1 (p0 : RR) (p1 : Int) (p2 : RR) : St := { sl := [.sl 1 p0, .bad, .bad, .own 7, .int .i64 p1, .bad, .bad, .bad, .bad, .bad, .bad, .bad, .bad, .bad, .bad, .bad, .bad, .bad, .bad, .bad, .bad, .bad], bl := [(7, ⟨.arr, 1, p2⟩)] }
theorem r_laws_toStringS (A : Alg) (hA : A = std) (xs : List ByteArray) (hk : ∀ k ∈ zsStringS xs, k ≤ 1048576) : Real Try.prog 32 [.sl 1 (List.map eString xs)] (.ow 1 (List.map eString xs)) := by
 obtain ⟨a0, a2⟩ := nm (xs.map eString)
 have a4 := rlen_map hA a2
 refine real_args (args' := [.sl 1 a0]) (by subst a2; rfl) ?_
 have hlen : List.length xs ≤ 1048576 := hk _ (by simp [zsStringS])
 refine real tyOk Try.func32 (by kernel_rfl) (afun_of rfl ?_)
 refine gs (gr (ra hA 1 (by cbv) (od ?_)))
 refine gs (gr (ra hA 2 (by cbv) ?_))
 obtain ⟨rm, hrm⟩ := nm (List.replicate (Int.toNat (A.rlen a0)) [.str ByteArray.empty] : RR)
 have hn0 : (0 : Int) ≤ A.rlen a0 := by omega
 have hmax : A.rlen a0 * 16 ≤ 140737488355328 := by omega
 refine ops_step rfl rfl (mk_arr rfl rfl rfl rfl rfl rfl hn0 hmax (by decide) (by decide) rfl hrm) ?_
 refine ra hA 1 (by cbv) (od ?_)
 refine gs (gs (gr (ra hA 1 (by cbv) (od ?_))))
 refine go_block ?_
 refine go_loopE (fun σ m => ∃ (i : Nat) (ro : RR) (n4 : Int), σ = (S32_1 a0 n4 ro) ∧ (n4 = (i : Int) ∧ i ≤ List.length xs ∧ ro = fill eString [.str ByteArray.empty] xs i) ∧ m = List.length xs - i) _ [] [0, 3, 4] [7] (S32_1 a0 0 rm) rfl (by cbv) ⟨0, rm, 0, rfl, ?_, rfl⟩ (fun σ m hI => ?_)
 ·
  exact ⟨rfl, Nat.zero_le _, by rw [hrm, fill_zero, a4]; rfl⟩
 obtain ⟨i, ro, n4, rfl, ⟨hn4, hi, hro⟩, rfl⟩ := hI
 refine gs (gs (gr (ra hA 4 (by cbv) (od ?_))))
 refine go_cond rfl (fun c1 => ?_) (fun c1 => ?_)
 ·
  have ec1 : n4 < (A.rlen a0) := lss_t hA c1
  refine gk (gs ?_)
  refine go_block ?_
  refine gr (ra hA 4 (by cbv) ?_)
  have a5 : (0 : Int) ≤ n4 := by
   omega
  have a7 : (Int.toNat n4) < List.length xs := by
   omega
  obtain ⟨x2, hx2⟩ : ∃ x, (xs)[(Int.toNat n4)]? = some x := ⟨_, List.getElem?_eq_getElem a7⟩
  have a8 := List.mem_of_getElem? hx2
  have a6 : a0[(Int.toNat n4)]? = some [.str x2] := by
   exact map_at eString a2 hx2
  refine ops_step rfl rfl (idx_sl rfl rfl rfl rfl rfl a5 rfl a6) ?_
  refine ra hA 1 (by cbv) ?_
  have hlo : n4 < (List.length ro : Int) := by
   rw [hro, fill_len _ _ _ hi]; omega
  refine ops_step rfl rfl (idx_own rfl rfl rfl rfl rfl rfl (by omega) hlo rfl) ?_
  have a1 := hx2
  rw [hn4] at a1
  have a1 : xs[i]? = some _ := a1
  have hz : ro[Int.toNat n4]? = some [.str ByteArray.empty] := by
   rw [hro, hn4]; exact fill_at _ _ _ (by omega)
  have hset : fill eString [.str ByteArray.empty] xs (i + 1) = ro.set (Int.toNat n4) [.str x2] := by
   rw [hro, hn4]; exact (fill_set eString _ xs a1).symm
  obtain ⟨ro2, a3⟩ : ∃ r, r = fill eString [.str ByteArray.empty] xs (i + 1) := ⟨_, rfl⟩
  rw [← a3] at hset
  refine ops_step rfl rfl (sto_arr (r := [.str ByteArray.empty]) (cs := [.str x2]) rfl rfl rfl rfl rfl ⟨_, _, rfl⟩ rfl rfl hz rfl hset) ?_
  refine od ?_
  refine gr (ra hA 3 (by cbv) (od ?_))
  refine ⟨(S32_1 a0 (A.num .add .i64 n4 1) ro2), List.length xs - (i + 1), ?_, by cbv, i + 1, ro2, (A.num .add .i64 n4 1), rfl, ?_, rfl⟩
  ·
   omega
  ·
   exact ⟨by rw [add_i64 hA (by omega) (by omega)]; omega, by omega, a3⟩
 ·
  have ec1 : (A.rlen a0) ≤ n4 := lss_f hA c1
  refine go_exit ⟨fun _ => ?_, fun h => absurd rfl h⟩
  refine gs (gr (ra hA 2 (by cbv) (od ?_)))
  refine go_ret ⟨_, by cbv, ?_⟩
  show _ = (PV.ow 1 ro)
  refine congrArg (PV.ow 1) ?_
  rw [hro, fill_all _ _ _ (by omega)]
end Go.Av
