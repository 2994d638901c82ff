/- Walks: sz of plain servers. -/
import Derived.Test.YtjbokkoiicoahaaGreatV1
namespace Go.Av
open Go Go.Proofs
set_option maxRecDepth 100000
set_option maxHeartbeats 4000000
set_option linter.unusedVariables false
set_option linter.unusedSimpArgs false
theorem r_laws_szBox (A : Alg) (hA : A = std) (x : GBox) (n : Int) (h1 : 0 ≤ n) (h2 : n ≤ 1048576) (hk : ∀ k ∈ zsBox x, (k : Int) ≤ 9223372036854775807) : Real Tryz.prog 121 [.agg (eBox x), .ii n] (.ii (chain n (zsBox x))) := by
 obtain ⟨d8, a0, a1, e1, c8⟩ := x
 obtain ⟨d0, b8⟩ := nm (c8.map eMail)
 have e3 := rlen_map hA b8
 refine real_args (args' := [.agg [.ii d8, .str a0, .str a1, .ii e1, .sl 3 d0], .ii n]) (by subst b8; rfl) ?_
 have hk0 : (ByteArray.size a0 : Int) ≤ 9223372036854775807 := hk _ (by simp [zsBox])
 have hk1 : (ByteArray.size a1 : Int) ≤ 9223372036854775807 := hk _ (by simp [zsBox])
 refine real tyOk Tryz.func121 (by kernel_rfl) (afun_of rfl ?_)
 refine gx hA 2 ?_
 refine gx hA 6 ?_
 refine gs (gs ?_)
 have w0 : (A.num .sub .i64 n (A.slen a0)) = n - (ByteArray.size a0 : Int) := by
  rw [slen_eq hA a0]; exact sub_i64 hA (by omega) (by omega)
 refine gy hA 2 ?_
 refine go_cond rfl (fun c1 => ?_) (fun c1 => ?_)
 ·
  have ec1 : (A.num .sub .i64 n (A.slen a0)) < 0 := lss_t hA c1
  refine gx hA 1 ?_
  refine go_ret ⟨_, by cbv, ?_⟩
  show _ = (PV.int .i64 (-1))
  show PV.int _ _ = PV.int _ _
  refine congrArg (PV.int .i64) ?_
  simp only [zsBox]
  exact chain_strN w0 ec1
 have ec1 : 0 ≤ (A.num .sub .i64 n (A.slen a0)) := lss_f hA c1
 refine gk (gx hA 6 ?_)
 refine gs (gs ?_)
 have w1 : (A.num .sub .i64 (A.num .sub .i64 n (A.slen a0)) (A.slen a1)) = (A.num .sub .i64 n (A.slen a0)) - (ByteArray.size a1 : Int) := by
  rw [slen_eq hA a1]; exact sub_i64 hA (by omega) (by omega)
 refine gy hA 2 ?_
 refine go_cond rfl (fun c2 => ?_) (fun c2 => ?_)
 ·
  have ec2 : (A.num .sub .i64 (A.num .sub .i64 n (A.slen a0)) (A.slen a1)) < 0 := lss_t hA c2
  refine gx hA 1 ?_
  refine go_ret ⟨_, by cbv, ?_⟩
  show _ = (PV.int .i64 (-1))
  show PV.int _ _ = PV.int _ _
  refine congrArg (PV.int .i64) ?_
  simp only [zsBox]
  rw [chain_str w0 ec1]
  exact chain_strN w1 ec2
 have ec2 : 0 ≤ (A.num .sub .i64 (A.num .sub .i64 n (A.slen a0)) (A.slen a1)) := lss_f hA c2
 refine gk (gs (gr (rn hA 3 ?_)))
 obtain ⟨c4, d4, hc4⟩ : ∃ (c4 : Int), c4 = (chain (A.num .sub .i64 (A.num .sub .i64 n (A.slen a0)) (A.slen a1)) (zsMailS c8)) ∧ Real Tryz.prog 142 [.sl 3 d0, .ii (A.num .sub .i64 (A.num .sub .i64 n (A.slen a0)) (A.slen a1))] (.ii c4) := ⟨_, rfl, by subst b8; exact r_laws_szMailS A hA c8 (A.num .sub .i64 (A.num .sub .i64 n (A.slen a0)) (A.slen a1)) (by omega) (by omega) (fun k h => hk k (by simp only [zsBox, List.mem_append]; simp only [h, true_or, or_true]))⟩
 refine ops_callV rfl rfl (by cbv) (by cbv) hc4 (.inr rfl) (by cbv) ?_
 have f1 := chain_bd d4 (by omega)
 refine rz hA 1 ?_
 refine gs (gx hA 2 ?_)
 refine go_cond rfl (fun c5 => ?_) (fun c5 => ?_)
 ·
  have ec5 : c4 < 0 := lss_t hA c5
  refine gx hA 1 ?_
  refine go_ret ⟨_, by cbv, ?_⟩
  show _ = (PV.int .i64 (-1))
  show PV.int _ _ = PV.int _ _
  refine congrArg (PV.int .i64) ?_
  simp only [zsBox]
  rw [chain_str w0 ec1]
  rw [chain_str w1 ec2]
  exact chain_subN (by omega) d4 ec5
 have ec5 : 0 ≤ c4 := lss_f hA c5
 refine gk (gx hA 2 ?_)
 refine go_ret ⟨_, by cbv, ?_⟩
 show _ = (PV.int .i64 c4)
 show PV.int _ _ = PV.int _ _
 refine congrArg (PV.int .i64) ?_
 simp only [zsBox]
 rw [chain_str w0 ec1]
 rw [chain_str w1 ec2]
 rw [chain_sub d4 ec5]
 rfl
def S81_1 (p0 : RR) (p1 : Int) (p2 : Int) : St := { sl := [.sl 5 p0, .ii p1, .bad, .bad, .bad, .ii p2, .bad, .bad, .bad, .bad, .bad, .bad, .bad, .bad, .bad, .bad, .bad, .bad, .bad, .bad, .bad, .bad, .bad, .bad, .bad, .bad, .bad], bl := [] }
theorem r_laws_szBoxS (A : Alg) (hA : A = std) (xs : List GBox) (n : Int) (h1 : 0 ≤ n) (h2 : n ≤ 1048576) (hk : ∀ k ∈ zsBoxS xs, (k : Int) ≤ 9223372036854775807) : Real Tryz.prog 81 [.sl 5 (List.map eBox xs), .ii n] (.ii (chain n (zsBoxS xs))) := by
 obtain ⟨a4, d6⟩ := nm (xs.map eBox)
 have e4 := rlen_map hA d6
 refine real_args (args' := [.sl 5 a4, .ii n]) (by subst d6; rfl) ?_
 have hlen : (List.length xs : Int) ≤ 9223372036854775807 := hk _ (by simp [zsBoxS])
 refine real tyOk Tryz.func81 (by kernel_rfl) (afun_of rfl ?_)
 refine gx hA 1 ?_
 refine gx hA 5 ?_
 refine gs (gs ?_)
 have w0 : A.num .sub .i64 n (A.rlen a4) = n - (List.length xs : Int) := by
  rw [e4]; exact sub_i64 hA (by omega) (by omega)
 refine gy hA 2 ?_
 refine go_cond rfl (fun c1 => ?_) (fun c1 => ?_)
 ·
  have ec1 : (A.num .sub .i64 n (A.rlen a4)) < 0 := lss_t hA c1
  refine gx hA 1 ?_
  refine go_ret ⟨_, by cbv, ?_⟩
  show _ = (PV.int .i64 (-1))
  refine congrArg (PV.int .i64) ?_
  rw [zsBoxS, chain_cons, if_pos (by omega)]
 have ec1 : 0 ≤ (A.num .sub .i64 n (A.rlen a4)) := lss_f hA c1
 refine gk (gs (gx hA 1 ?_))
 refine go_block ?_
 refine go_loopE (fun σ m => ∃ (i : Nat) (L : Int) (n5 : Int), σ = (S81_1 a4 L n5) ∧ (n5 = (i : Int) ∧ i ≤ List.length xs ∧ 0 ≤ L ∧ L ≤ 1048576 ∧ L = chain (n - (List.length xs : Int)) ((xs.take i).flatMap zsBox)) ∧ m = List.length xs - i) _ [] [0, 1, 5] [] (S81_1 a4 (A.num .sub .i64 n (A.rlen a4)) 0) rfl (by cbv) ⟨0, (A.num .sub .i64 n (A.rlen a4)), 0, rfl, ?_, rfl⟩ (fun σ m hI => ?_)
 ·
  exact ⟨rfl, Nat.zero_le _, by omega, by omega, w0⟩
 obtain ⟨i, L, n5, rfl, ⟨hn5, hi, hL0, hL1, hL⟩, rfl⟩ := hI
 refine gs (gx hA 4 ?_)
 refine go_cond rfl (fun c2 => ?_) (fun c2 => ?_)
 ·
  have ec2 : n5 < (A.rlen a4) := lss_t hA c2
  refine gk (gs ?_)
  refine go_block ?_
  refine gs (gr (rn hA 2 ?_))
  have e9 : (0 : Int) ≤ n5 := by
   omega
  have f0 : (Int.toNat n5) < List.length xs := by
   omega
  obtain ⟨x3, hx3⟩ : ∃ x, (xs)[(Int.toNat n5)]? = some x := ⟨_, List.getElem?_eq_getElem f0⟩
  have e7 := List.mem_of_getElem? hx3
  obtain ⟨a7, b1, b3, b2, b6⟩ := x3
  obtain ⟨c7, b0⟩ := nm (b6.map eMail)
  have e2 := rlen_map hA b0
  have e8 : a4[(Int.toNat n5)]? = some [.ii a7, .str b1, .str b3, .ii b2, .sl 3 c7] := by
   subst b0; exact map_at eBox d6 hx3
  have e0 : xs[i]? = some (⟨a7, b1, b3, b2, b6⟩ : GBox) := by
   have h := hx3; rw [hn5] at h; exact h
  have hkx := fun (k : Nat) h => hk k (List.mem_cons_of_mem _ (List.mem_flatMap.2 ⟨_, e7, h⟩))
  refine ops_step rfl rfl (idx_sl rfl rfl rfl rfl rfl e9 rfl e8) ?_
  refine rn hA 2 ?_
  obtain ⟨b7, d2, hc5⟩ : ∃ (b7 : Int), b7 = (chain L (zsBox (⟨a7, b1, b3, b2, b6⟩ : GBox))) ∧ Real Tryz.prog 121 [.agg [.ii a7, .str b1, .str b3, .ii b2, .sl 3 c7], .ii L] (.ii b7) := ⟨_, rfl, by subst b0; exact r_laws_szBox A hA (⟨a7, b1, b3, b2, b6⟩ : GBox) L (by omega) (by omega) hkx⟩
  refine ops_callV rfl rfl (by cbv) (by cbv) hc5 (.inr rfl) (by cbv) ?_
  have f3 := chain_bd d2 (by omega)
  refine rz hA 1 ?_
  refine gs ?_
  skip
  refine gy hA 2 ?_
  refine go_cond rfl (fun c6 => ?_) (fun c6 => ?_)
  ·
   have ec6 : b7 < 0 := lss_t hA c6
   refine gx hA 1 ?_
   refine go_ret ⟨_, by cbv, ?_⟩
   show _ = (PV.int .i64 (-1))
   refine congrArg (PV.int .i64) ?_
   rw [zsBoxS, chain_cons, if_neg (by omega), flat_split zsBox xs (i + 1), take_flat zsBox xs e0, List.append_assoc, chain_sub hL hL0]
   exact chain_subN (by omega) d2 ec6
  have ec6 : 0 ≤ b7 := lss_f hA c6
  refine gk (gy hA 3 ?_)
  refine ⟨(S81_1 a4 b7 (A.num .add .i64 n5 1)), List.length xs - (i + 1), ?_, by cbv, i + 1, b7, (A.num .add .i64 n5 1), rfl, ?_, rfl⟩
  ·
   omega
  refine ⟨by rw [add_i64 hA (by omega) (by omega)]; omega, by omega, by omega, by omega, ?_⟩
  rw [take_flat zsBox xs e0, chain_sub hL hL0]
  exact d2
 have ec2 : (A.rlen a4) ≤ n5 := lss_f hA c2
 refine go_exit ⟨fun _ => ?_, fun h => absurd rfl h⟩
 refine gx hA 2 ?_
 refine go_ret ⟨_, by cbv, ?_⟩
 show _ = (PV.int .i64 L)
 refine congrArg (PV.int .i64) ?_
 rw [zsBoxS, chain_cons, if_neg (by omega), hL, List.take_of_length_le (by omega)]
theorem r_laws_szState (A : Alg) (hA : A = std) (x : GState) (n : Int) (h1 : 0 ≤ n) (h2 : n ≤ 1048576) (hk : ∀ k ∈ zsState x, (k : Int) ≤ 9223372036854775807) : Real Tryz.prog 42 [.agg (eState x), .ii n] (.ii (chain n (zsState x))) := by
 obtain ⟨c9⟩ := x
 obtain ⟨d1, b5⟩ := nm (c9.map eBox)
 have e6 := rlen_map hA b5
 refine real_args (args' := [.agg [.sl 5 d1], .ii n]) (by subst b5; rfl) ?_
 refine real tyOk Tryz.func42 (by kernel_rfl) (afun_of rfl ?_)
 refine gx hA 2 ?_
 refine gs (gr (rn hA 3 ?_))
 obtain ⟨a3, a8, hc2⟩ : ∃ (a3 : Int), a3 = (chain n (zsBoxS c9)) ∧ Real Tryz.prog 81 [.sl 5 d1, .ii n] (.ii a3) := ⟨_, rfl, by subst b5; exact r_laws_szBoxS A hA c9 n (by omega) (by omega) (fun k h => hk k (by simp only [zsState, List.mem_append]; simp only [h, true_or, or_true]))⟩
 refine ops_callV rfl rfl (by cbv) (by cbv) hc2 (.inr rfl) (by cbv) ?_
 have e5 := chain_bd a8 (by omega)
 refine rz hA 1 ?_
 refine gs (gx hA 2 ?_)
 refine go_cond rfl (fun c3 => ?_) (fun c3 => ?_)
 ·
  have ec3 : a3 < 0 := lss_t hA c3
  refine gx hA 1 ?_
  refine go_ret ⟨_, by cbv, ?_⟩
  show _ = (PV.int .i64 (-1))
  show PV.int _ _ = PV.int _ _
  refine congrArg (PV.int .i64) ?_
  simp only [zsState]
  exact chain_subN (by omega) a8 ec3
 have ec3 : 0 ≤ a3 := lss_f hA c3
 refine gk (gx hA 2 ?_)
 refine go_ret ⟨_, by cbv, ?_⟩
 show _ = (PV.int .i64 a3)
 show PV.int _ _ = PV.int _ _
 refine congrArg (PV.int .i64) ?_
 simp only [zsState]
 rw [chain_sub a8 ec3]
 rfl
theorem r_laws_szPlain (A : Alg) (hA : A = std) (x : GPlain) (n : Int) (h1 : 0 ≤ n) (h2 : n ≤ 1048576) (hk : ∀ k ∈ zsPlain x, (k : Int) ≤ 9223372036854775807) : Real Tryz.prog 16 [.agg (ePlain x), .ii n] (.ii (chain n (zsPlain x))) := by
 obtain ⟨⟨a5⟩, d5, b4⟩ := x
 obtain ⟨a9, a2⟩ := nm (a5.map eBox)
 have d7 := rlen_map hA a2
 obtain ⟨b9, a6⟩ := nm (b4.map eSession)
 have d9 := rlen_map hA a6
 refine real_args (args' := [.agg [.sl 5 a9, .ii d5, .sl 17 b9], .ii n]) (by subst a2 a6; rfl) ?_
 refine real tyOk Tryz.func16 (by kernel_rfl) (afun_of rfl ?_)
 refine gx hA 2 ?_
 refine gs (gr (rn hA 3 ?_))
 obtain ⟨a3, a8, hc2⟩ : ∃ (a3 : Int), a3 = (chain n (zsState (⟨a5⟩ : GState))) ∧ Real Tryz.prog 42 [.agg [.sl 5 a9], .ii n] (.ii a3) := ⟨_, rfl, by subst a2; exact r_laws_szState A hA (⟨a5⟩ : GState) n (by omega) (by omega) (fun k h => hk k (by simp only [zsPlain, List.mem_append]; simp only [h, true_or, or_true]))⟩
 refine ops_callV rfl rfl (by cbv) (by cbv) hc2 (.inr rfl) (by cbv) ?_
 have e5 := chain_bd a8 (by omega)
 refine rz hA 1 ?_
 refine gs (gx hA 2 ?_)
 refine go_cond rfl (fun c3 => ?_) (fun c3 => ?_)
 ·
  have ec3 : a3 < 0 := lss_t hA c3
  refine gx hA 1 ?_
  refine go_ret ⟨_, by cbv, ?_⟩
  show _ = (PV.int .i64 (-1))
  show PV.int _ _ = PV.int _ _
  refine congrArg (PV.int .i64) ?_
  simp only [zsPlain]
  exact chain_subN (by omega) a8 ec3
 have ec3 : 0 ≤ a3 := lss_f hA c3
 refine gk (gs (gr (rn hA 3 ?_)))
 obtain ⟨c0, d3, hc5⟩ : ∃ (c0 : Int), c0 = (chain a3 (zsSessionS b4)) ∧ Real Tryz.prog 26 [.sl 17 b9, .ii a3] (.ii c0) := ⟨_, rfl, by subst a6; exact r_laws_szSessionS A hA b4 a3 (by omega) (by omega) (fun k h => hk k (by simp only [zsPlain, List.mem_append]; simp only [h, true_or, or_true]))⟩
 refine ops_callV rfl rfl (by cbv) (by cbv) hc5 (.inr rfl) (by cbv) ?_
 have f2 := chain_bd d3 (by omega)
 refine rz hA 1 ?_
 refine gs (gx hA 2 ?_)
 refine go_cond rfl (fun c6 => ?_) (fun c6 => ?_)
 ·
  have ec6 : c0 < 0 := lss_t hA c6
  refine gx hA 1 ?_
  refine go_ret ⟨_, by cbv, ?_⟩
  show _ = (PV.int .i64 (-1))
  show PV.int _ _ = PV.int _ _
  refine congrArg (PV.int .i64) ?_
  simp only [zsPlain]
  rw [chain_sub a8 ec3]
  exact chain_subN (by omega) d3 ec6
 have ec6 : 0 ≤ c0 := lss_f hA c6
 refine gk (gx hA 2 ?_)
 refine go_ret ⟨_, by cbv, ?_⟩
 show _ = (PV.int .i64 c0)
 show PV.int _ _ = PV.int _ _
 refine congrArg (PV.int .i64) ?_
 simp only [zsPlain]
 rw [chain_sub a8 ec3]
 rw [chain_sub d3 ec6]
 rfl
end Go.Av
