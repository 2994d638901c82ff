/- Walks: sz. -/
import Derived.Test.YtjbokkoiicoahaaTy
namespace Go.Av
open Go Go.Proofs
set_option maxRecDepth 100000
set_option maxHeartbeats 4000000
set_option linter.unusedVariables false
set_option linter.unusedSimpArgs false
def S30_1 (p0 : RR) (p1 : Int) (p2 : Int) : St := { sl := [.sl 1 p0, .int .i64 p1, .bad, .bad, .bad, .int .i64 p2, .bad, .bad, .bad, .bad, .bad, .bad, .bad, .bad, .bad, .bad, .bad, .bad, .bad, .bad, .bad, .bad, .bad, .bad, .bad, .bad, .bad, .bad], bl := [] }
theorem r_laws_szStringS (A : Alg) (hA : A = std) (xs : List ByteArray) (n : Int) (h1 : 0 ≤ n) (h2 : n ≤ 1048576) (hk : ∀ k ∈ zsStringS xs, (k : Int) ≤ 9223372036854775807) : Real Try.prog 30 [.sl 1 (List.map eString xs), .int .i64 n] (.int .i64 (chain n (zsStringS xs))) := by
 obtain ⟨a0, a1⟩ := nm (xs.map eString)
 have a3 := rlen_map hA a1
 refine real_args (args' := [.sl 1 a0, .int .i64 n]) (by subst a1; rfl) ?_
 have hlen : (List.length xs : Int) ≤ 9223372036854775807 := hk _ (by simp [zsStringS])
 refine real tyOk Try.func30 (by kernel_rfl) (afun_of rfl ?_)
 refine gs (gr (ra hA 1 (by cbv) (od ?_)))
 refine gs (gr (ra hA 5 (by cbv) (od ?_)))
 refine gs (gs ?_)
 have w0 : A.num .sub .i64 n (A.rlen a0) = n - (List.length xs : Int) := by
  rw [a3]; exact sub_i64 hA (by omega) (by omega)
 refine gr (ra hA 2 (by cbv) (od ?_))
 refine go_cond rfl (fun c1 => ?_) (fun c1 => ?_)
 ·
  have ec1 : (A.num .sub .i64 n (A.rlen a0)) < 0 := lss_t hA c1
  refine gs (gr (ra hA 1 (by cbv) (od ?_)))
  refine go_ret ⟨_, by cbv, ?_⟩
  show _ = (PV.int .i64 (-1))
  refine congrArg (PV.int .i64) ?_
  rw [zsStringS, chain_cons, if_pos (by omega)]
 ·
  have ec1 : 0 ≤ (A.num .sub .i64 n (A.rlen a0)) := lss_f hA c1
  refine gk (gs (gs (gr (ra hA 1 (by cbv) (od ?_)))))
  refine go_block ?_
  refine go_loopE (fun σ m => ∃ (i : Nat) (L : Int) (n5 : Int), σ = (S30_1 a0 L n5) ∧ (n5 = (i : Int) ∧ i ≤ List.length xs ∧ 0 ≤ L ∧ L ≤ 1048576 ∧ L = chain (n - (List.length xs : Int)) ((xs.take i).flatMap zsString)) ∧ m = List.length xs - i) _ [] [0, 1, 5] [] (S30_1 a0 (A.num .sub .i64 n (A.rlen a0)) 0) rfl (by cbv) ⟨0, (A.num .sub .i64 n (A.rlen a0)), 0, rfl, ?_, rfl⟩ (fun σ m hI => ?_)
  ·
   exact ⟨rfl, Nat.zero_le _, by omega, by omega, w0⟩
  obtain ⟨i, L, n5, rfl, ⟨hn5, hi, hL0, hL1, hL⟩, rfl⟩ := hI
  refine gs (gs (gr (ra hA 4 (by cbv) (od ?_))))
  refine go_cond rfl (fun c2 => ?_) (fun c2 => ?_)
  ·
   have ec2 : n5 < (A.rlen a0) := lss_t hA c2
   refine gk (gs ?_)
   refine go_block ?_
   refine gs (gr (ra hA 3 (by cbv) ?_))
   have a7 : (0 : Int) ≤ n5 := by
    omega
   have a6 : (Int.toNat n5) < List.length xs := by
    omega
   obtain ⟨x3, hx3⟩ : ∃ x, (xs)[(Int.toNat n5)]? = some x := ⟨_, List.getElem?_eq_getElem a6⟩
   have a5 := List.mem_of_getElem? hx3
   have a4 : a0[(Int.toNat n5)]? = some [.str x3] := by
    exact map_at eString a1 hx3
   have a2 : xs[i]? = some x3 := by
    have h := hx3; rw [hn5] at h; exact h
   have hkx := fun (k : Nat) h => hk k (List.mem_cons_of_mem _ (List.mem_flatMap.2 ⟨_, a5, h⟩))
   refine ops_step rfl rfl (idx_sl rfl rfl rfl rfl rfl a7 rfl a4) ?_
   refine ra hA 4 (by cbv) (od ?_)
   refine gs ?_
   have hb1 : ((ByteArray.size x3 : Nat) : Int) ≤ 9223372036854775807 := hkx _ (by simp [zsString])
   have w1 : (A.num .sub .i64 L (A.slen x3)) = L - (ByteArray.size x3 : Int) := by
    rw [slen_eq hA x3]; exact sub_i64 hA (by omega) (by omega)
   refine gr (ra hA 2 (by cbv) (od ?_))
   refine go_cond rfl (fun c4 => ?_) (fun c4 => ?_)
   ·
    have ec4 : (A.num .sub .i64 L (A.slen x3)) < 0 := lss_t hA c4
    refine gs (gr (ra hA 1 (by cbv) (od ?_)))
    refine go_ret ⟨_, by cbv, ?_⟩
    show _ = (PV.int .i64 (-1))
    refine congrArg (PV.int .i64) ?_
    rw [zsStringS, chain_cons, if_neg (by omega), flat_split zsString xs (i + 1), take_flat zsString xs a2, List.append_assoc, chain_sub hL hL0]
    exact chain_strN w1 ec4
   ·
    have ec4 : 0 ≤ (A.num .sub .i64 L (A.slen x3)) := lss_f hA c4
    refine gk (gr (ra hA 3 (by cbv) (od ?_)))
    refine ⟨(S30_1 a0 (A.num .sub .i64 L (A.slen x3)) (A.num .add .i64 n5 1)), List.length xs - (i + 1), ?_, by cbv, i + 1, (A.num .sub .i64 L (A.slen x3)), (A.num .add .i64 n5 1), rfl, ?_, rfl⟩
    ·
     omega
    ·
     refine ⟨by rw [add_i64 hA (by omega) (by omega)]; omega, by omega, by omega, by omega, ?_⟩
     rw [take_flat zsString xs a2, chain_sub hL hL0]
     exact (chain_str (l := []) w1 ec4).symm
  ·
   have ec2 : (A.rlen a0) ≤ n5 := lss_f hA c2
   refine go_exit ⟨fun _ => ?_, fun h => absurd rfl h⟩
   refine gs (gr (ra hA 2 (by cbv) (od ?_)))
   refine go_ret ⟨_, by cbv, ?_⟩
   show _ = (PV.int .i64 L)
   refine congrArg (PV.int .i64) ?_
   rw [zsStringS, chain_cons, if_neg (by omega), hL, List.take_of_length_le (by omega)]
end Go.Av
