/- Walks: sz of servers. -/
import Derived.Test.YtjbokkoiicoahaaGreatTy
namespace Go.Av
open Go Go.Proofs
set_option maxRecDepth 100000
set_option maxHeartbeats 4000000
set_option linter.unusedVariables false
set_option linter.unusedSimpArgs false
def S139_1 (p0 : RR) (p1 : Int) (p2 : Int) : St := { sl := [.sl 1 p0, .ii p1, .bad, .bad, .bad, .ii p2, .bad, .bad, .bad, .bad, .bad, .bad, .bad, .bad, .bad, .bad, .bad, .bad, .bad, .bad, .bad, .bad, .bad, .bad, .bad, .bad, .bad, .bad], bl := [] }
theorem r_laws_szStringS (A : Alg) (hA : A = std) (xs : List ByteArray) (n : Int) (h1 : 0 ≤ n) (h2 : n ≤ 1048576) (hk : ∀ k ∈ zsStringS xs, (k : Int) ≤ 9223372036854775807) : Real Tryz.prog 139 [.sl 1 (List.map eString xs), .ii n] (.ii (chain n (zsStringS xs))) := by
 obtain ⟨a0, a5⟩ := nm (xs.map eString)
 have d2 := rlen_map hA a5
 refine real_args (args' := [.sl 1 a0, .ii n]) (by subst a5; rfl) ?_
 have hlen : (List.length xs : Int) ≤ 9223372036854775807 := hk _ (by simp [zsStringS])
 refine real tyOk Tryz.func139 (by kernel_rfl) (afun_of rfl ?_)
 refine gx hA 1 ?_
 refine gx hA 5 ?_
 refine gs (gs ?_)
 have w0 : A.num .sub .i64 n (A.rlen a0) = n - (List.length xs : Int) := by
  rw [d2]; exact sub_i64 hA (by omega) (by omega)
 refine gy hA 2 ?_
 refine go_cond rfl (fun c1 => ?_) (fun c1 => ?_)
 ·
  have ec1 : (A.num .sub .i64 n (A.rlen a0)) < 0 := lss_t hA c1
  refine gx hA 1 ?_
  refine go_ret ⟨_, by cbv, ?_⟩
  show _ = (PV.int .i64 (-1))
  refine congrArg (PV.int .i64) ?_
  rw [zsStringS, chain_cons, if_pos (by omega)]
 have ec1 : 0 ≤ (A.num .sub .i64 n (A.rlen a0)) := lss_f hA c1
 refine gk (gs (gx hA 1 ?_))
 refine go_block ?_
 refine go_loopE (fun σ m => ∃ (i : Nat) (L : Int) (n5 : Int), σ = (S139_1 a0 L n5) ∧ (n5 = (i : Int) ∧ i ≤ List.length xs ∧ 0 ≤ L ∧ L ≤ 1048576 ∧ L = chain (n - (List.length xs : Int)) ((xs.take i).flatMap zsString)) ∧ m = List.length xs - i) _ [] [0, 1, 5] [] (S139_1 a0 (A.num .sub .i64 n (A.rlen a0)) 0) rfl (by cbv) ⟨0, (A.num .sub .i64 n (A.rlen a0)), 0, rfl, ?_, rfl⟩ (fun σ m hI => ?_)
 ·
  exact ⟨rfl, Nat.zero_le _, by omega, by omega, w0⟩
 obtain ⟨i, L, n5, rfl, ⟨hn5, hi, hL0, hL1, hL⟩, rfl⟩ := hI
 refine gs (gx hA 4 ?_)
 refine go_cond rfl (fun c2 => ?_) (fun c2 => ?_)
 ·
  have ec2 : n5 < (A.rlen a0) := lss_t hA c2
  refine gk (gs ?_)
  refine go_block ?_
  refine gs (gr (rn hA 3 ?_))
  have m2 : (0 : Int) ≤ n5 := by
   omega
  have m3 : (Int.toNat n5) < List.length xs := by
   omega
  obtain ⟨x3, hx3⟩ : ∃ x, (xs)[(Int.toNat n5)]? = some x := ⟨_, List.getElem?_eq_getElem m3⟩
  have m9 := List.mem_of_getElem? hx3
  have m1 : a0[(Int.toNat n5)]? = some [.str x3] := by
   exact map_at eString a5 hx3
  have e4 : xs[i]? = some x3 := by
   have h := hx3; rw [hn5] at h; exact h
  have hkx := fun (k : Nat) h => hk k (List.mem_cons_of_mem _ (List.mem_flatMap.2 ⟨_, m9, h⟩))
  refine ops_step rfl rfl (idx_sl rfl rfl rfl rfl rfl m2 rfl m1) ?_
  refine rz hA 4 ?_
  refine gs ?_
  have hb1 : ((ByteArray.size x3 : Nat) : Int) ≤ 9223372036854775807 := hkx _ (by simp [zsString])
  have w1 : (A.num .sub .i64 L (A.slen x3)) = L - (ByteArray.size x3 : Int) := by
   rw [slen_eq hA x3]; exact sub_i64 hA (by omega) (by omega)
  refine gy hA 2 ?_
  refine go_cond rfl (fun c4 => ?_) (fun c4 => ?_)
  ·
   have ec4 : (A.num .sub .i64 L (A.slen x3)) < 0 := lss_t hA c4
   refine gx hA 1 ?_
   refine go_ret ⟨_, by cbv, ?_⟩
   show _ = (PV.int .i64 (-1))
   refine congrArg (PV.int .i64) ?_
   rw [zsStringS, chain_cons, if_neg (by omega), flat_split zsString xs (i + 1), take_flat zsString xs e4, List.append_assoc, chain_sub hL hL0]
   exact chain_strN w1 ec4
  have ec4 : 0 ≤ (A.num .sub .i64 L (A.slen x3)) := lss_f hA c4
  refine gk (gy hA 3 ?_)
  refine ⟨(S139_1 a0 (A.num .sub .i64 L (A.slen x3)) (A.num .add .i64 n5 1)), List.length xs - (i + 1), ?_, by cbv, i + 1, (A.num .sub .i64 L (A.slen x3)), (A.num .add .i64 n5 1), rfl, ?_, rfl⟩
  ·
   omega
  refine ⟨by rw [add_i64 hA (by omega) (by omega)]; omega, by omega, by omega, by omega, ?_⟩
  rw [take_flat zsString xs e4, chain_sub hL hL0]
  exact (chain_str (l := []) w1 ec4).symm
 have ec2 : (A.rlen a0) ≤ n5 := lss_f hA c2
 refine go_exit ⟨fun _ => ?_, fun h => absurd rfl h⟩
 refine gx hA 2 ?_
 refine go_ret ⟨_, by cbv, ?_⟩
 show _ = (PV.int .i64 L)
 refine congrArg (PV.int .i64) ?_
 rw [zsStringS, chain_cons, if_neg (by omega), hL, List.take_of_length_le (by omega)]
theorem r_laws_szWrite (A : Alg) (hA : A = std) (x : GWrite) (n : Int) (h1 : 0 ≤ n) (h2 : n ≤ 1048576) (hk : ∀ k ∈ zsWrite x, (k : Int) ≤ 9223372036854775807) : Real Tryz.prog 178 [.agg (eWrite x), .ii n] (.ii (chain n (zsWrite x))) := by
 obtain ⟨z6, a4⟩ := x
 refine real_args (args' := [.agg [.ii z6, .str a4], .ii n]) (by rfl) ?_
 have hk0 : (ByteArray.size a4 : Int) ≤ 9223372036854775807 := hk _ (by simp [zsWrite])
 refine real tyOk Tryz.func178 (by kernel_rfl) (afun_of rfl ?_)
 refine gx hA 2 ?_
 refine gx hA 6 ?_
 refine gs (gs ?_)
 have w0 : (A.num .sub .i64 n (A.slen a4)) = n - (ByteArray.size a4 : Int) := by
  rw [slen_eq hA a4]; exact sub_i64 hA (by omega) (by omega)
 refine gy hA 2 ?_
 refine go_cond rfl (fun c1 => ?_) (fun c1 => ?_)
 ·
  have ec1 : (A.num .sub .i64 n (A.slen a4)) < 0 := lss_t hA c1
  refine gx hA 1 ?_
  refine go_ret ⟨_, by cbv, ?_⟩
  show _ = (PV.int .i64 (-1))
  show PV.int _ _ = PV.int _ _
  refine congrArg (PV.int .i64) ?_
  simp only [zsWrite]
  exact chain_strN w0 ec1
 have ec1 : 0 ≤ (A.num .sub .i64 n (A.slen a4)) := lss_f hA c1
 refine gk (gx hA 2 ?_)
 refine go_ret ⟨_, by cbv, ?_⟩
 show _ = (PV.int .i64 (A.num .sub .i64 n (A.slen a4)))
 show PV.int _ _ = PV.int _ _
 refine congrArg (PV.int .i64) ?_
 simp only [zsWrite]
 rw [chain_str w0 ec1]
 rfl
def S140_1 (p0 : RR) (p1 : Int) (p2 : Int) : St := { sl := [.sl 2 p0, .ii p1, .bad, .bad, .bad, .ii p2, .bad, .bad, .bad, .bad, .bad, .bad, .bad, .bad, .bad, .bad, .bad, .bad, .bad, .bad, .bad, .bad, .bad, .bad, .bad, .bad, .bad], bl := [] }
theorem r_laws_szWriteS (A : Alg) (hA : A = std) (xs : List GWrite) (n : Int) (h1 : 0 ≤ n) (h2 : n ≤ 1048576) (hk : ∀ k ∈ zsWriteS xs, (k : Int) ≤ 9223372036854775807) : Real Tryz.prog 140 [.sl 2 (List.map eWrite xs), .ii n] (.ii (chain n (zsWriteS xs))) := by
 obtain ⟨a0, a5⟩ := nm (xs.map eWrite)
 have d2 := rlen_map hA a5
 refine real_args (args' := [.sl 2 a0, .ii n]) (by subst a5; rfl) ?_
 have hlen : (List.length xs : Int) ≤ 9223372036854775807 := hk _ (by simp [zsWriteS])
 refine real tyOk Tryz.func140 (by kernel_rfl) (afun_of rfl ?_)
 refine gx hA 1 ?_
 refine gx hA 5 ?_
 refine gs (gs ?_)
 have w0 : A.num .sub .i64 n (A.rlen a0) = n - (List.length xs : Int) := by
  rw [d2]; exact sub_i64 hA (by omega) (by omega)
 refine gy hA 2 ?_
 refine go_cond rfl (fun c1 => ?_) (fun c1 => ?_)
 ·
  have ec1 : (A.num .sub .i64 n (A.rlen a0)) < 0 := lss_t hA c1
  refine gx hA 1 ?_
  refine go_ret ⟨_, by cbv, ?_⟩
  show _ = (PV.int .i64 (-1))
  refine congrArg (PV.int .i64) ?_
  rw [zsWriteS, chain_cons, if_pos (by omega)]
 have ec1 : 0 ≤ (A.num .sub .i64 n (A.rlen a0)) := lss_f hA c1
 refine gk (gs (gx hA 1 ?_))
 refine go_block ?_
 refine go_loopE (fun σ m => ∃ (i : Nat) (L : Int) (n5 : Int), σ = (S140_1 a0 L n5) ∧ (n5 = (i : Int) ∧ i ≤ List.length xs ∧ 0 ≤ L ∧ L ≤ 1048576 ∧ L = chain (n - (List.length xs : Int)) ((xs.take i).flatMap zsWrite)) ∧ m = List.length xs - i) _ [] [0, 1, 5] [] (S140_1 a0 (A.num .sub .i64 n (A.rlen a0)) 0) rfl (by cbv) ⟨0, (A.num .sub .i64 n (A.rlen a0)), 0, rfl, ?_, rfl⟩ (fun σ m hI => ?_)
 ·
  exact ⟨rfl, Nat.zero_le _, by omega, by omega, w0⟩
 obtain ⟨i, L, n5, rfl, ⟨hn5, hi, hL0, hL1, hL⟩, rfl⟩ := hI
 refine gs (gx hA 4 ?_)
 refine go_cond rfl (fun c2 => ?_) (fun c2 => ?_)
 ·
  have ec2 : n5 < (A.rlen a0) := lss_t hA c2
  refine gk (gs ?_)
  refine go_block ?_
  refine gs (gr (rn hA 2 ?_))
  have m2 : (0 : Int) ≤ n5 := by
   omega
  have m3 : (Int.toNat n5) < List.length xs := by
   omega
  obtain ⟨x3, hx3⟩ : ∃ x, (xs)[(Int.toNat n5)]? = some x := ⟨_, List.getElem?_eq_getElem m3⟩
  have m9 := List.mem_of_getElem? hx3
  obtain ⟨r8, d0⟩ := x3
  have m1 : a0[(Int.toNat n5)]? = some [.ii r8, .str d0] := by
   exact map_at eWrite a5 hx3
  have e4 : xs[i]? = some (⟨r8, d0⟩ : GWrite) := by
   have h := hx3; rw [hn5] at h; exact h
  have hkx := fun (k : Nat) h => hk k (List.mem_cons_of_mem _ (List.mem_flatMap.2 ⟨_, m9, h⟩))
  refine ops_step rfl rfl (idx_sl rfl rfl rfl rfl rfl m2 rfl m1) ?_
  refine rn hA 2 ?_
  obtain ⟨a3, a8, hc5⟩ : ∃ (a3 : Int), a3 = (chain L (zsWrite (⟨r8, d0⟩ : GWrite))) ∧ Real Tryz.prog 178 [.agg [.ii r8, .str d0], .ii L] (.ii a3) := ⟨_, rfl, by exact r_laws_szWrite A hA (⟨r8, d0⟩ : GWrite) L (by omega) (by omega) hkx⟩
  refine ops_callV rfl rfl (by cbv) (by cbv) hc5 (.inr rfl) (by cbv) ?_
  have s2 := chain_bd a8 (by omega)
  refine rz hA 1 ?_
  refine gs ?_
  skip
  refine gy hA 2 ?_
  refine go_cond rfl (fun c6 => ?_) (fun c6 => ?_)
  ·
   have ec6 : a3 < 0 := lss_t hA c6
   refine gx hA 1 ?_
   refine go_ret ⟨_, by cbv, ?_⟩
   show _ = (PV.int .i64 (-1))
   refine congrArg (PV.int .i64) ?_
   rw [zsWriteS, chain_cons, if_neg (by omega), flat_split zsWrite xs (i + 1), take_flat zsWrite xs e4, List.append_assoc, chain_sub hL hL0]
   exact chain_subN (by omega) a8 ec6
  have ec6 : 0 ≤ a3 := lss_f hA c6
  refine gk (gy hA 3 ?_)
  refine ⟨(S140_1 a0 a3 (A.num .add .i64 n5 1)), List.length xs - (i + 1), ?_, by cbv, i + 1, a3, (A.num .add .i64 n5 1), rfl, ?_, rfl⟩
  ·
   omega
  refine ⟨by rw [add_i64 hA (by omega) (by omega)]; omega, by omega, by omega, by omega, ?_⟩
  rw [take_flat zsWrite xs e4, chain_sub hL hL0]
  exact a8
 have ec2 : (A.rlen a0) ≤ n5 := lss_f hA c2
 refine go_exit ⟨fun _ => ?_, fun h => absurd rfl h⟩
 refine gx hA 2 ?_
 refine go_ret ⟨_, by cbv, ?_⟩
 show _ = (PV.int .i64 L)
 refine congrArg (PV.int .i64) ?_
 rw [zsWriteS, chain_cons, if_neg (by omega), hL, List.take_of_length_le (by omega)]
theorem r_laws_szDisk (A : Alg) (hA : A = std) (x : GDisk) (n : Int) (h1 : 0 ≤ n) (h2 : n ≤ 1048576) (hk : ∀ k ∈ zsDisk x, (k : Int) ≤ 9223372036854775807) : Real Tryz.prog 99 [.agg (eDisk x), .ii n] (.ii (chain n (zsDisk x))) := by
 obtain ⟨q1, s6⟩ := x
 obtain ⟨r5, m5⟩ := nm (q1.map eString)
 have x9 := rlen_map hA m5
 obtain ⟨t3, p6⟩ := nm (s6.map eWrite)
 have y5 := rlen_map hA p6
 refine real_args (args' := [.agg [.sl 1 r5, .sl 2 t3], .ii n]) (by subst m5 p6; rfl) ?_
 refine real tyOk Tryz.func99 (by kernel_rfl) (afun_of rfl ?_)
 refine gx hA 2 ?_
 refine gs (gr (rn hA 3 ?_))
 obtain ⟨a2, a7, hc2⟩ : ∃ (a2 : Int), a2 = (chain n (zsStringS q1)) ∧ Real Tryz.prog 139 [.sl 1 r5, .ii n] (.ii a2) := ⟨_, rfl, by subst m5; exact r_laws_szStringS A hA q1 n (by omega) (by omega) (fun k h => hk k (by simp only [zsDisk, List.mem_append]; simp only [h, true_or, or_true]))⟩
 refine ops_callV rfl rfl (by cbv) (by cbv) hc2 (.inr rfl) (by cbv) ?_
 have s0 := chain_bd a7 (by omega)
 refine rz hA 1 ?_
 refine gs (gx hA 2 ?_)
 refine go_cond rfl (fun c3 => ?_) (fun c3 => ?_)
 ·
  have ec3 : a2 < 0 := lss_t hA c3
  refine gx hA 1 ?_
  refine go_ret ⟨_, by cbv, ?_⟩
  show _ = (PV.int .i64 (-1))
  show PV.int _ _ = PV.int _ _
  refine congrArg (PV.int .i64) ?_
  simp only [zsDisk]
  exact chain_subN (by omega) a7 ec3
 have ec3 : 0 ≤ a2 := lss_f hA c3
 refine gk (gs (gr (rn hA 3 ?_)))
 obtain ⟨a6, b2, hc5⟩ : ∃ (a6 : Int), a6 = (chain a2 (zsWriteS s6)) ∧ Real Tryz.prog 140 [.sl 2 t3, .ii a2] (.ii a6) := ⟨_, rfl, by subst p6; exact r_laws_szWriteS A hA s6 a2 (by omega) (by omega) (fun k h => hk k (by simp only [zsDisk, List.mem_append]; simp only [h, true_or, or_true]))⟩
 refine ops_callV rfl rfl (by cbv) (by cbv) hc5 (.inr rfl) (by cbv) ?_
 have u3 := chain_bd b2 (by omega)
 refine rz hA 1 ?_
 refine gs (gx hA 2 ?_)
 refine go_cond rfl (fun c6 => ?_) (fun c6 => ?_)
 ·
  have ec6 : a6 < 0 := lss_t hA c6
  refine gx hA 1 ?_
  refine go_ret ⟨_, by cbv, ?_⟩
  show _ = (PV.int .i64 (-1))
  show PV.int _ _ = PV.int _ _
  refine congrArg (PV.int .i64) ?_
  simp only [zsDisk]
  rw [chain_sub a7 ec3]
  exact chain_subN (by omega) b2 ec6
 have ec6 : 0 ≤ a6 := lss_f hA c6
 refine gk (gx hA 2 ?_)
 refine go_ret ⟨_, by cbv, ?_⟩
 show _ = (PV.int .i64 a6)
 show PV.int _ _ = PV.int _ _
 refine congrArg (PV.int .i64) ?_
 simp only [zsDisk]
 rw [chain_sub a7 ec3]
 rw [chain_sub b2 ec6]
 rfl
theorem r_laws_szRec (A : Alg) (hA : A = std) (x : GRec) (n : Int) (h1 : 0 ≤ n) (h2 : n ≤ 1048576) (hk : ∀ k ∈ zsRec x, (k : Int) ≤ 9223372036854775807) : Real Tryz.prog 207 [.agg (eRec x), .ii n] (.ii (chain n (zsRec x))) := by
 obtain ⟨u0, s3, u9, y3, s9, a1, d4, a4⟩ := x
 refine real_args (args' := [.agg [.ii u0, .ii s3, .ii u9, .ii y3, .ii s9, .str a1, .str d4, .str a4], .ii n]) (by rfl) ?_
 have hk0 : (ByteArray.size a1 : Int) ≤ 9223372036854775807 := hk _ (by simp [zsRec])
 have hk1 : (ByteArray.size d4 : Int) ≤ 9223372036854775807 := hk _ (by simp [zsRec])
 have hk2 : (ByteArray.size a4 : Int) ≤ 9223372036854775807 := hk _ (by simp [zsRec])
 refine real tyOk Tryz.func207 (by kernel_rfl) (afun_of rfl ?_)
 refine gx hA 2 ?_
 refine gx hA 6 ?_
 refine gs (gs ?_)
 have w0 : (A.num .sub .i64 n (A.slen a1)) = n - (ByteArray.size a1 : Int) := by
  rw [slen_eq hA a1]; exact sub_i64 hA (by omega) (by omega)
 refine gy hA 2 ?_
 refine go_cond rfl (fun c1 => ?_) (fun c1 => ?_)
 ·
  have ec1 : (A.num .sub .i64 n (A.slen a1)) < 0 := lss_t hA c1
  refine gx hA 1 ?_
  refine go_ret ⟨_, by cbv, ?_⟩
  show _ = (PV.int .i64 (-1))
  show PV.int _ _ = PV.int _ _
  refine congrArg (PV.int .i64) ?_
  simp only [zsRec]
  exact chain_strN w0 ec1
 have ec1 : 0 ≤ (A.num .sub .i64 n (A.slen a1)) := lss_f hA c1
 refine gk (gx hA 6 ?_)
 refine gs (gs ?_)
 have w1 : (A.num .sub .i64 (A.num .sub .i64 n (A.slen a1)) (A.slen d4)) = (A.num .sub .i64 n (A.slen a1)) - (ByteArray.size d4 : Int) := by
  rw [slen_eq hA d4]; exact sub_i64 hA (by omega) (by omega)
 refine gy hA 2 ?_
 refine go_cond rfl (fun c2 => ?_) (fun c2 => ?_)
 ·
  have ec2 : (A.num .sub .i64 (A.num .sub .i64 n (A.slen a1)) (A.slen d4)) < 0 := lss_t hA c2
  refine gx hA 1 ?_
  refine go_ret ⟨_, by cbv, ?_⟩
  show _ = (PV.int .i64 (-1))
  show PV.int _ _ = PV.int _ _
  refine congrArg (PV.int .i64) ?_
  simp only [zsRec]
  rw [chain_str w0 ec1]
  exact chain_strN w1 ec2
 have ec2 : 0 ≤ (A.num .sub .i64 (A.num .sub .i64 n (A.slen a1)) (A.slen d4)) := lss_f hA c2
 refine gk (gx hA 6 ?_)
 refine gs (gs ?_)
 have w2 : (A.num .sub .i64 (A.num .sub .i64 (A.num .sub .i64 n (A.slen a1)) (A.slen d4)) (A.slen a4)) = (A.num .sub .i64 (A.num .sub .i64 n (A.slen a1)) (A.slen d4)) - (ByteArray.size a4 : Int) := by
  rw [slen_eq hA a4]; exact sub_i64 hA (by omega) (by omega)
 refine gy hA 2 ?_
 refine go_cond rfl (fun c3 => ?_) (fun c3 => ?_)
 ·
  have ec3 : (A.num .sub .i64 (A.num .sub .i64 (A.num .sub .i64 n (A.slen a1)) (A.slen d4)) (A.slen a4)) < 0 := lss_t hA c3
  refine gx hA 1 ?_
  refine go_ret ⟨_, by cbv, ?_⟩
  show _ = (PV.int .i64 (-1))
  show PV.int _ _ = PV.int _ _
  refine congrArg (PV.int .i64) ?_
  simp only [zsRec]
  rw [chain_str w0 ec1]
  rw [chain_str w1 ec2]
  exact chain_strN w2 ec3
 have ec3 : 0 ≤ (A.num .sub .i64 (A.num .sub .i64 (A.num .sub .i64 n (A.slen a1)) (A.slen d4)) (A.slen a4)) := lss_f hA c3
 refine gk (gx hA 2 ?_)
 refine go_ret ⟨_, by cbv, ?_⟩
 show _ = (PV.int .i64 (A.num .sub .i64 (A.num .sub .i64 (A.num .sub .i64 n (A.slen a1)) (A.slen d4)) (A.slen a4)))
 show PV.int _ _ = PV.int _ _
 refine congrArg (PV.int .i64) ?_
 simp only [zsRec]
 rw [chain_str w0 ec1]
 rw [chain_str w1 ec2]
 rw [chain_str w2 ec3]
 rfl
theorem r_laws_szItem (A : Alg) (hA : A = std) (x : GItem) (n : Int) (h1 : 0 ≤ n) (h2 : n ≤ 1048576) (hk : ∀ k ∈ zsItem x, (k : Int) ≤ 9223372036854775807) : Real Tryz.prog 193 [.agg (eItem x), .ii n] (.ii (chain n (zsItem x))) := by
 obtain ⟨y8, ⟨l6, k2, n2, l8, k4, l5, l9, l7⟩⟩ := x
 refine real_args (args' := [.agg [.ii y8, .ii l6, .ii k2, .ii n2, .ii l8, .ii k4, .str l5, .str l9, .str l7], .ii n]) (by rfl) ?_
 refine real tyOk Tryz.func193 (by kernel_rfl) (afun_of rfl ?_)
 refine gx hA 2 ?_
 refine gs (gr (rn hA 3 ?_))
 obtain ⟨a2, a7, hc2⟩ : ∃ (a2 : Int), a2 = (chain n (zsRec (⟨l6, k2, n2, l8, k4, l5, l9, l7⟩ : GRec))) ∧ Real Tryz.prog 207 [.agg [.ii l6, .ii k2, .ii n2, .ii l8, .ii k4, .str l5, .str l9, .str l7], .ii n] (.ii a2) := ⟨_, rfl, by exact r_laws_szRec A hA (⟨l6, k2, n2, l8, k4, l5, l9, l7⟩ : GRec) n (by omega) (by omega) (fun k h => hk k (by simp only [zsItem, List.mem_append]; simp only [h, true_or, or_true]))⟩
 refine ops_callV rfl rfl (by cbv) (by cbv) hc2 (.inr rfl) (by cbv) ?_
 have s0 := chain_bd a7 (by omega)
 refine rz hA 1 ?_
 refine gs (gx hA 2 ?_)
 refine go_cond rfl (fun c3 => ?_) (fun c3 => ?_)
 ·
  have ec3 : a2 < 0 := lss_t hA c3
  refine gx hA 1 ?_
  refine go_ret ⟨_, by cbv, ?_⟩
  show _ = (PV.int .i64 (-1))
  show PV.int _ _ = PV.int _ _
  refine congrArg (PV.int .i64) ?_
  simp only [zsItem]
  exact chain_subN (by omega) a7 ec3
 have ec3 : 0 ≤ a2 := lss_f hA c3
 refine gk (gx hA 2 ?_)
 refine go_ret ⟨_, by cbv, ?_⟩
 show _ = (PV.int .i64 a2)
 show PV.int _ _ = PV.int _ _
 refine congrArg (PV.int .i64) ?_
 simp only [zsItem]
 rw [chain_sub a7 ec3]
 rfl
def S179_1 (p0 : RR) (p1 : Int) (p2 : Int) : St := { sl := [.sl 9 p0, .ii p1, .bad, .bad, .bad, .ii p2, .bad, .bad, .bad, .bad, .bad, .bad, .bad, .bad, .bad, .bad, .bad, .bad, .bad, .bad, .bad, .bad, .bad, .bad, .bad, .bad, .bad], bl := [] }
theorem r_laws_szItemS (A : Alg) (hA : A = std) (xs : List GItem) (n : Int) (h1 : 0 ≤ n) (h2 : n ≤ 1048576) (hk : ∀ k ∈ zsItemS xs, (k : Int) ≤ 9223372036854775807) : Real Tryz.prog 179 [.sl 9 (List.map eItem xs), .ii n] (.ii (chain n (zsItemS xs))) := by
 obtain ⟨a0, a5⟩ := nm (xs.map eItem)
 have d2 := rlen_map hA a5
 refine real_args (args' := [.sl 9 a0, .ii n]) (by subst a5; rfl) ?_
 have hlen : (List.length xs : Int) ≤ 9223372036854775807 := hk _ (by simp [zsItemS])
 refine real tyOk Tryz.func179 (by kernel_rfl) (afun_of rfl ?_)
 refine gx hA 1 ?_
 refine gx hA 5 ?_
 refine gs (gs ?_)
 have w0 : A.num .sub .i64 n (A.rlen a0) = n - (List.length xs : Int) := by
  rw [d2]; exact sub_i64 hA (by omega) (by omega)
 refine gy hA 2 ?_
 refine go_cond rfl (fun c1 => ?_) (fun c1 => ?_)
 ·
  have ec1 : (A.num .sub .i64 n (A.rlen a0)) < 0 := lss_t hA c1
  refine gx hA 1 ?_
  refine go_ret ⟨_, by cbv, ?_⟩
  show _ = (PV.int .i64 (-1))
  refine congrArg (PV.int .i64) ?_
  rw [zsItemS, chain_cons, if_pos (by omega)]
 have ec1 : 0 ≤ (A.num .sub .i64 n (A.rlen a0)) := lss_f hA c1
 refine gk (gs (gx hA 1 ?_))
 refine go_block ?_
 refine go_loopE (fun σ m => ∃ (i : Nat) (L : Int) (n5 : Int), σ = (S179_1 a0 L n5) ∧ (n5 = (i : Int) ∧ i ≤ List.length xs ∧ 0 ≤ L ∧ L ≤ 1048576 ∧ L = chain (n - (List.length xs : Int)) ((xs.take i).flatMap zsItem)) ∧ m = List.length xs - i) _ [] [0, 1, 5] [] (S179_1 a0 (A.num .sub .i64 n (A.rlen a0)) 0) rfl (by cbv) ⟨0, (A.num .sub .i64 n (A.rlen a0)), 0, rfl, ?_, rfl⟩ (fun σ m hI => ?_)
 ·
  exact ⟨rfl, Nat.zero_le _, by omega, by omega, w0⟩
 obtain ⟨i, L, n5, rfl, ⟨hn5, hi, hL0, hL1, hL⟩, rfl⟩ := hI
 refine gs (gx hA 4 ?_)
 refine go_cond rfl (fun c2 => ?_) (fun c2 => ?_)
 ·
  have ec2 : n5 < (A.rlen a0) := lss_t hA c2
  refine gk (gs ?_)
  refine go_block ?_
  refine gs (gr (rn hA 2 ?_))
  have m2 : (0 : Int) ≤ n5 := by
   omega
  have m3 : (Int.toNat n5) < List.length xs := by
   omega
  obtain ⟨x3, hx3⟩ : ∃ x, (xs)[(Int.toNat n5)]? = some x := ⟨_, List.getElem?_eq_getElem m3⟩
  have m9 := List.mem_of_getElem? hx3
  obtain ⟨q7, ⟨f7, e8, j2, f8, e5, f3, f4, f6⟩⟩ := x3
  have m1 : a0[(Int.toNat n5)]? = some [.ii q7, .ii f7, .ii e8, .ii j2, .ii f8, .ii e5, .str f3, .str f4, .str f6] := by
   exact map_at eItem a5 hx3
  have e4 : xs[i]? = some (⟨q7, ⟨f7, e8, j2, f8, e5, f3, f4, f6⟩⟩ : GItem) := by
   have h := hx3; rw [hn5] at h; exact h
  have hkx := fun (k : Nat) h => hk k (List.mem_cons_of_mem _ (List.mem_flatMap.2 ⟨_, m9, h⟩))
  refine ops_step rfl rfl (idx_sl rfl rfl rfl rfl rfl m2 rfl m1) ?_
  refine rn hA 2 ?_
  obtain ⟨a3, a8, hc5⟩ : ∃ (a3 : Int), a3 = (chain L (zsItem (⟨q7, ⟨f7, e8, j2, f8, e5, f3, f4, f6⟩⟩ : GItem))) ∧ Real Tryz.prog 193 [.agg [.ii q7, .ii f7, .ii e8, .ii j2, .ii f8, .ii e5, .str f3, .str f4, .str f6], .ii L] (.ii a3) := ⟨_, rfl, by exact r_laws_szItem A hA (⟨q7, ⟨f7, e8, j2, f8, e5, f3, f4, f6⟩⟩ : GItem) L (by omega) (by omega) hkx⟩
  refine ops_callV rfl rfl (by cbv) (by cbv) hc5 (.inr rfl) (by cbv) ?_
  have s2 := chain_bd a8 (by omega)
  refine rz hA 1 ?_
  refine gs ?_
  skip
  refine gy hA 2 ?_
  refine go_cond rfl (fun c6 => ?_) (fun c6 => ?_)
  ·
   have ec6 : a3 < 0 := lss_t hA c6
   refine gx hA 1 ?_
   refine go_ret ⟨_, by cbv, ?_⟩
   show _ = (PV.int .i64 (-1))
   refine congrArg (PV.int .i64) ?_
   rw [zsItemS, chain_cons, if_neg (by omega), flat_split zsItem xs (i + 1), take_flat zsItem xs e4, List.append_assoc, chain_sub hL hL0]
   exact chain_subN (by omega) a8 ec6
  have ec6 : 0 ≤ a3 := lss_f hA c6
  refine gk (gy hA 3 ?_)
  refine ⟨(S179_1 a0 a3 (A.num .add .i64 n5 1)), List.length xs - (i + 1), ?_, by cbv, i + 1, a3, (A.num .add .i64 n5 1), rfl, ?_, rfl⟩
  ·
   omega
  refine ⟨by rw [add_i64 hA (by omega) (by omega)]; omega, by omega, by omega, by omega, ?_⟩
  rw [take_flat zsItem xs e4, chain_sub hL hL0]
  exact a8
 have ec2 : (A.rlen a0) ≤ n5 := lss_f hA c2
 refine go_exit ⟨fun _ => ?_, fun h => absurd rfl h⟩
 refine gx hA 2 ?_
 refine go_ret ⟨_, by cbv, ?_⟩
 show _ = (PV.int .i64 L)
 refine congrArg (PV.int .i64) ?_
 rw [zsItemS, chain_cons, if_neg (by omega), hL, List.take_of_length_le (by omega)]
theorem r_laws_szSeg (A : Alg) (hA : A = std) (x : GSeg) (n : Int) (h1 : 0 ≤ n) (h2 : n ≤ 1048576) (hk : ∀ k ∈ zsSeg x, (k : Int) ≤ 9223372036854775807) : Real Tryz.prog 141 [.agg (eSeg x), .ii n] (.ii (chain n (zsSeg x))) := by
 obtain ⟨z7, y9, z1, s8⟩ := x
 obtain ⟨t1, o8⟩ := nm (s8.map eItem)
 have y6 := rlen_map hA o8
 refine real_args (args' := [.agg [.ii z7, .ii y9, .ii z1, .sl 9 t1], .ii n]) (by subst o8; rfl) ?_
 refine real tyOk Tryz.func141 (by kernel_rfl) (afun_of rfl ?_)
 refine gx hA 2 ?_
 refine gs (gr (rn hA 3 ?_))
 obtain ⟨a2, a7, hc2⟩ : ∃ (a2 : Int), a2 = (chain n (zsItemS s8)) ∧ Real Tryz.prog 179 [.sl 9 t1, .ii n] (.ii a2) := ⟨_, rfl, by subst o8; exact r_laws_szItemS A hA s8 n (by omega) (by omega) (fun k h => hk k (by simp only [zsSeg, List.mem_append]; simp only [h, true_or, or_true]))⟩
 refine ops_callV rfl rfl (by cbv) (by cbv) hc2 (.inr rfl) (by cbv) ?_
 have s0 := chain_bd a7 (by omega)
 refine rz hA 1 ?_
 refine gs (gx hA 2 ?_)
 refine go_cond rfl (fun c3 => ?_) (fun c3 => ?_)
 ·
  have ec3 : a2 < 0 := lss_t hA c3
  refine gx hA 1 ?_
  refine go_ret ⟨_, by cbv, ?_⟩
  show _ = (PV.int .i64 (-1))
  show PV.int _ _ = PV.int _ _
  refine congrArg (PV.int .i64) ?_
  simp only [zsSeg]
  exact chain_subN (by omega) a7 ec3
 have ec3 : 0 ≤ a2 := lss_f hA c3
 refine gk (gx hA 2 ?_)
 refine go_ret ⟨_, by cbv, ?_⟩
 show _ = (PV.int .i64 a2)
 show PV.int _ _ = PV.int _ _
 refine congrArg (PV.int .i64) ?_
 simp only [zsSeg]
 rw [chain_sub a7 ec3]
 rfl
def S100_1 (p0 : RR) (p1 : Int) (p2 : Int) : St := { sl := [.sl 4 p0, .ii p1, .bad, .bad, .bad, .ii p2, .bad, .bad, .bad, .bad, .bad, .bad, .bad, .bad, .bad, .bad, .bad, .bad, .bad, .bad, .bad, .bad, .bad, .bad, .bad, .bad, .bad], bl := [] }
theorem r_laws_szSegS (A : Alg) (hA : A = std) (xs : List GSeg) (n : Int) (h1 : 0 ≤ n) (h2 : n ≤ 1048576) (hk : ∀ k ∈ zsSegS xs, (k : Int) ≤ 9223372036854775807) : Real Tryz.prog 100 [.sl 4 (List.map eSeg xs), .ii n] (.ii (chain n (zsSegS xs))) := by
 obtain ⟨a0, a5⟩ := nm (xs.map eSeg)
 have d2 := rlen_map hA a5
 refine real_args (args' := [.sl 4 a0, .ii n]) (by subst a5; rfl) ?_
 have hlen : (List.length xs : Int) ≤ 9223372036854775807 := hk _ (by simp [zsSegS])
 refine real tyOk Tryz.func100 (by kernel_rfl) (afun_of rfl ?_)
 refine gx hA 1 ?_
 refine gx hA 5 ?_
 refine gs (gs ?_)
 have w0 : A.num .sub .i64 n (A.rlen a0) = n - (List.length xs : Int) := by
  rw [d2]; exact sub_i64 hA (by omega) (by omega)
 refine gy hA 2 ?_
 refine go_cond rfl (fun c1 => ?_) (fun c1 => ?_)
 ·
  have ec1 : (A.num .sub .i64 n (A.rlen a0)) < 0 := lss_t hA c1
  refine gx hA 1 ?_
  refine go_ret ⟨_, by cbv, ?_⟩
  show _ = (PV.int .i64 (-1))
  refine congrArg (PV.int .i64) ?_
  rw [zsSegS, chain_cons, if_pos (by omega)]
 have ec1 : 0 ≤ (A.num .sub .i64 n (A.rlen a0)) := lss_f hA c1
 refine gk (gs (gx hA 1 ?_))
 refine go_block ?_
 refine go_loopE (fun σ m => ∃ (i : Nat) (L : Int) (n5 : Int), σ = (S100_1 a0 L n5) ∧ (n5 = (i : Int) ∧ i ≤ List.length xs ∧ 0 ≤ L ∧ L ≤ 1048576 ∧ L = chain (n - (List.length xs : Int)) ((xs.take i).flatMap zsSeg)) ∧ m = List.length xs - i) _ [] [0, 1, 5] [] (S100_1 a0 (A.num .sub .i64 n (A.rlen a0)) 0) rfl (by cbv) ⟨0, (A.num .sub .i64 n (A.rlen a0)), 0, rfl, ?_, rfl⟩ (fun σ m hI => ?_)
 ·
  exact ⟨rfl, Nat.zero_le _, by omega, by omega, w0⟩
 obtain ⟨i, L, n5, rfl, ⟨hn5, hi, hL0, hL1, hL⟩, rfl⟩ := hI
 refine gs (gx hA 4 ?_)
 refine go_cond rfl (fun c2 => ?_) (fun c2 => ?_)
 ·
  have ec2 : n5 < (A.rlen a0) := lss_t hA c2
  refine gk (gs ?_)
  refine go_block ?_
  refine gs (gr (rn hA 2 ?_))
  have m2 : (0 : Int) ≤ n5 := by
   omega
  have m3 : (Int.toNat n5) < List.length xs := by
   omega
  obtain ⟨x3, hx3⟩ : ∃ x, (xs)[(Int.toNat n5)]? = some x := ⟨_, List.getElem?_eq_getElem m3⟩
  have m9 := List.mem_of_getElem? hx3
  obtain ⟨r7, q4, q8, p8⟩ := x3
  obtain ⟨r6, n9⟩ := nm (p8.map eItem)
  have y4 := rlen_map hA n9
  have m1 : a0[(Int.toNat n5)]? = some [.ii r7, .ii q4, .ii q8, .sl 9 r6] := by
   subst n9; exact map_at eSeg a5 hx3
  have e4 : xs[i]? = some (⟨r7, q4, q8, p8⟩ : GSeg) := by
   have h := hx3; rw [hn5] at h; exact h
  have hkx := fun (k : Nat) h => hk k (List.mem_cons_of_mem _ (List.mem_flatMap.2 ⟨_, m9, h⟩))
  refine ops_step rfl rfl (idx_sl rfl rfl rfl rfl rfl m2 rfl m1) ?_
  refine rn hA 2 ?_
  obtain ⟨a3, a8, hc5⟩ : ∃ (a3 : Int), a3 = (chain L (zsSeg (⟨r7, q4, q8, p8⟩ : GSeg))) ∧ Real Tryz.prog 141 [.agg [.ii r7, .ii q4, .ii q8, .sl 9 r6], .ii L] (.ii a3) := ⟨_, rfl, by subst n9; exact r_laws_szSeg A hA (⟨r7, q4, q8, p8⟩ : GSeg) L (by omega) (by omega) hkx⟩
  refine ops_callV rfl rfl (by cbv) (by cbv) hc5 (.inr rfl) (by cbv) ?_
  have s2 := chain_bd a8 (by omega)
  refine rz hA 1 ?_
  refine gs ?_
  skip
  refine gy hA 2 ?_
  refine go_cond rfl (fun c6 => ?_) (fun c6 => ?_)
  ·
   have ec6 : a3 < 0 := lss_t hA c6
   refine gx hA 1 ?_
   refine go_ret ⟨_, by cbv, ?_⟩
   show _ = (PV.int .i64 (-1))
   refine congrArg (PV.int .i64) ?_
   rw [zsSegS, chain_cons, if_neg (by omega), flat_split zsSeg xs (i + 1), take_flat zsSeg xs e4, List.append_assoc, chain_sub hL hL0]
   exact chain_subN (by omega) a8 ec6
  have ec6 : 0 ≤ a3 := lss_f hA c6
  refine gk (gy hA 3 ?_)
  refine ⟨(S100_1 a0 a3 (A.num .add .i64 n5 1)), List.length xs - (i + 1), ?_, by cbv, i + 1, a3, (A.num .add .i64 n5 1), rfl, ?_, rfl⟩
  ·
   omega
  refine ⟨by rw [add_i64 hA (by omega) (by omega)]; omega, by omega, by omega, by omega, ?_⟩
  rw [take_flat zsSeg xs e4, chain_sub hL hL0]
  exact a8
 have ec2 : (A.rlen a0) ≤ n5 := lss_f hA c2
 refine go_exit ⟨fun _ => ?_, fun h => absurd rfl h⟩
 refine gx hA 2 ?_
 refine go_ret ⟨_, by cbv, ?_⟩
 show _ = (PV.int .i64 L)
 refine congrArg (PV.int .i64) ?_
 rw [zsSegS, chain_cons, if_neg (by omega), hL, List.take_of_length_le (by omega)]
theorem r_laws_szLog (A : Alg) (hA : A = std) (x : GLog) (n : Int) (h1 : 0 ≤ n) (h2 : n ≤ 1048576) (hk : ∀ k ∈ zsLog x, (k : Int) ≤ 9223372036854775807) : Real Tryz.prog 55 [.agg (eLog x), .ii n] (.ii (chain n (zsLog x))) := by
 obtain ⟨⟨j7, n0⟩, y1, u1, v2, v3, x2, u7⟩ := x
 obtain ⟨m7, f1⟩ := nm (j7.map eString)
 have v5 := rlen_map hA f1
 obtain ⟨o7, i5⟩ := nm (n0.map eWrite)
 have w9 := rlen_map hA i5
 obtain ⟨t8, q2⟩ := nm (u1.map eSeg)
 have z4 := rlen_map hA q2
 refine real_args (args' := [.agg [.sl 1 m7, .sl 2 o7, .ii y1, .sl 4 t8, .ii v2, .ii v3, .ii x2, .ii u7], .ii n]) (by subst f1 i5 q2; rfl) ?_
 refine real tyOk Tryz.func55 (by kernel_rfl) (afun_of rfl ?_)
 refine gx hA 2 ?_
 refine gs (gr (rn hA 3 ?_))
 obtain ⟨a2, a7, hc2⟩ : ∃ (a2 : Int), a2 = (chain n (zsDisk (⟨j7, n0⟩ : GDisk))) ∧ Real Tryz.prog 99 [.agg [.sl 1 m7, .sl 2 o7], .ii n] (.ii a2) := ⟨_, rfl, by subst f1 i5; exact r_laws_szDisk A hA (⟨j7, n0⟩ : GDisk) n (by omega) (by omega) (fun k h => hk k (by simp only [zsLog, List.mem_append]; simp only [h, true_or, or_true]))⟩
 refine ops_callV rfl rfl (by cbv) (by cbv) hc2 (.inr rfl) (by cbv) ?_
 have s0 := chain_bd a7 (by omega)
 refine rz hA 1 ?_
 refine gs (gx hA 2 ?_)
 refine go_cond rfl (fun c3 => ?_) (fun c3 => ?_)
 ·
  have ec3 : a2 < 0 := lss_t hA c3
  refine gx hA 1 ?_
  refine go_ret ⟨_, by cbv, ?_⟩
  show _ = (PV.int .i64 (-1))
  show PV.int _ _ = PV.int _ _
  refine congrArg (PV.int .i64) ?_
  simp only [zsLog]
  exact chain_subN (by omega) a7 ec3
 have ec3 : 0 ≤ a2 := lss_f hA c3
 refine gk (gs (gr (rn hA 3 ?_)))
 obtain ⟨a6, b2, hc5⟩ : ∃ (a6 : Int), a6 = (chain a2 (zsSegS u1)) ∧ Real Tryz.prog 100 [.sl 4 t8, .ii a2] (.ii a6) := ⟨_, rfl, by subst q2; exact r_laws_szSegS A hA u1 a2 (by omega) (by omega) (fun k h => hk k (by simp only [zsLog, List.mem_append]; simp only [h, true_or, or_true]))⟩
 refine ops_callV rfl rfl (by cbv) (by cbv) hc5 (.inr rfl) (by cbv) ?_
 have u3 := chain_bd b2 (by omega)
 refine rz hA 1 ?_
 refine gs (gx hA 2 ?_)
 refine go_cond rfl (fun c6 => ?_) (fun c6 => ?_)
 ·
  have ec6 : a6 < 0 := lss_t hA c6
  refine gx hA 1 ?_
  refine go_ret ⟨_, by cbv, ?_⟩
  show _ = (PV.int .i64 (-1))
  show PV.int _ _ = PV.int _ _
  refine congrArg (PV.int .i64) ?_
  simp only [zsLog]
  rw [chain_sub a7 ec3]
  exact chain_subN (by omega) b2 ec6
 have ec6 : 0 ≤ a6 := lss_f hA c6
 refine gk (gx hA 2 ?_)
 refine go_ret ⟨_, by cbv, ?_⟩
 show _ = (PV.int .i64 a6)
 show PV.int _ _ = PV.int _ _
 refine congrArg (PV.int .i64) ?_
 simp only [zsLog]
 rw [chain_sub a7 ec3]
 rw [chain_sub b2 ec6]
 rfl
theorem r_laws_szIntS (A : Alg) (hA : A = std) (xs : List Int) (n : Int) (h1 : 0 ≤ n) (h2 : n ≤ 1048576) (hk : ∀ k ∈ zsIntS xs, (k : Int) ≤ 9223372036854775807) : Real Tryz.prog 56 [.sl 1 (List.map eInt xs), .ii n] (.ii (chain n (zsIntS xs))) := by
 obtain ⟨a0, a5⟩ := nm (xs.map eInt)
 have d2 := rlen_map hA a5
 refine real_args (args' := [.sl 1 a0, .ii n]) (by subst a5; rfl) ?_
 have hlen : (List.length xs : Int) ≤ 9223372036854775807 := hk _ (by simp [zsIntS])
 refine real tyOk Tryz.func56 (by kernel_rfl) (afun_of rfl ?_)
 refine gx hA 1 ?_
 refine gx hA 5 ?_
 refine gs (gs ?_)
 have w0 : A.num .sub .i64 n (A.rlen a0) = n - (List.length xs : Int) := by
  rw [d2]; exact sub_i64 hA (by omega) (by omega)
 refine gy hA 2 ?_
 refine go_cond rfl (fun c1 => ?_) (fun c1 => ?_)
 ·
  have ec1 : (A.num .sub .i64 n (A.rlen a0)) < 0 := lss_t hA c1
  refine gx hA 1 ?_
  refine go_ret ⟨_, by cbv, ?_⟩
  show _ = (PV.int .i64 (-1))
  refine congrArg (PV.int .i64) ?_
  rw [zsIntS, chain_cons, if_pos (by omega)]
 have ec1 : 0 ≤ (A.num .sub .i64 n (A.rlen a0)) := lss_f hA c1
 refine gk (gx hA 2 ?_)
 refine go_ret ⟨_, by cbv, ?_⟩
 show _ = (PV.int .i64 (A.num .sub .i64 n (A.rlen a0)))
 refine congrArg (PV.int .i64) ?_
 rw [zsIntS, chain_cons, if_neg (by omega), w0]; rfl
theorem r_laws_szStore (A : Alg) (hA : A = std) (x : GStore) (n : Int) (h1 : 0 ≤ n) (h2 : n ≤ 1048576) (hk : ∀ k ∈ zsStore x, (k : Int) ≤ 9223372036854775807) : Real Tryz.prog 25 [.agg (eStore x), .ii n] (.ii (chain n (zsStore x))) := by
 obtain ⟨⟨⟨e7, g6⟩, l3, p7, g4, g1, j9, e2⟩, s5⟩ := x
 obtain ⟨i8, c0⟩ := nm (e7.map eString)
 have u8 := rlen_map hA c0
 obtain ⟨k6, e0⟩ := nm (g6.map eWrite)
 have v1 := rlen_map hA e0
 obtain ⟨r1, l0⟩ := nm (p7.map eSeg)
 have x4 := rlen_map hA l0
 obtain ⟨t0, p5⟩ := nm (s5.map eInt)
 have z0 := rlen_map hA p5
 refine real_args (args' := [.agg [.sl 1 i8, .sl 2 k6, .ii l3, .sl 4 r1, .ii g4, .ii g1, .ii j9, .ii e2, .sl 1 t0], .ii n]) (by subst c0 e0 l0 p5; rfl) ?_
 refine real tyOk Tryz.func25 (by kernel_rfl) (afun_of rfl ?_)
 refine gx hA 2 ?_
 refine gs (gr (rn hA 3 ?_))
 obtain ⟨a2, a7, hc2⟩ : ∃ (a2 : Int), a2 = (chain n (zsLog (⟨⟨e7, g6⟩, l3, p7, g4, g1, j9, e2⟩ : GLog))) ∧ Real Tryz.prog 55 [.agg [.sl 1 i8, .sl 2 k6, .ii l3, .sl 4 r1, .ii g4, .ii g1, .ii j9, .ii e2], .ii n] (.ii a2) := ⟨_, rfl, by subst c0 e0 l0; exact r_laws_szLog A hA (⟨⟨e7, g6⟩, l3, p7, g4, g1, j9, e2⟩ : GLog) n (by omega) (by omega) (fun k h => hk k (by simp only [zsStore, List.mem_append]; simp only [h, true_or, or_true]))⟩
 refine ops_callV rfl rfl (by cbv) (by cbv) hc2 (.inr rfl) (by cbv) ?_
 have s0 := chain_bd a7 (by omega)
 refine rz hA 1 ?_
 refine gs (gx hA 2 ?_)
 refine go_cond rfl (fun c3 => ?_) (fun c3 => ?_)
 ·
  have ec3 : a2 < 0 := lss_t hA c3
  refine gx hA 1 ?_
  refine go_ret ⟨_, by cbv, ?_⟩
  show _ = (PV.int .i64 (-1))
  show PV.int _ _ = PV.int _ _
  refine congrArg (PV.int .i64) ?_
  simp only [zsStore]
  exact chain_subN (by omega) a7 ec3
 have ec3 : 0 ≤ a2 := lss_f hA c3
 refine gk (gs (gr (rn hA 3 ?_)))
 obtain ⟨a6, b2, hc5⟩ : ∃ (a6 : Int), a6 = (chain a2 (zsIntS s5)) ∧ Real Tryz.prog 56 [.sl 1 t0, .ii a2] (.ii a6) := ⟨_, rfl, by subst p5; exact r_laws_szIntS A hA s5 a2 (by omega) (by omega) (fun k h => hk k (by simp only [zsStore, List.mem_append]; simp only [h, true_or, or_true]))⟩
 refine ops_callV rfl rfl (by cbv) (by cbv) hc5 (.inr rfl) (by cbv) ?_
 have u3 := chain_bd b2 (by omega)
 refine rz hA 1 ?_
 refine gs (gx hA 2 ?_)
 refine go_cond rfl (fun c6 => ?_) (fun c6 => ?_)
 ·
  have ec6 : a6 < 0 := lss_t hA c6
  refine gx hA 1 ?_
  refine go_ret ⟨_, by cbv, ?_⟩
  show _ = (PV.int .i64 (-1))
  show PV.int _ _ = PV.int _ _
  refine congrArg (PV.int .i64) ?_
  simp only [zsStore]
  rw [chain_sub a7 ec3]
  exact chain_subN (by omega) b2 ec6
 have ec6 : 0 ≤ a6 := lss_f hA c6
 refine gk (gx hA 2 ?_)
 refine go_ret ⟨_, by cbv, ?_⟩
 show _ = (PV.int .i64 a6)
 show PV.int _ _ = PV.int _ _
 refine congrArg (PV.int .i64) ?_
 simp only [zsStore]
 rw [chain_sub a7 ec3]
 rw [chain_sub b2 ec6]
 rfl
theorem r_laws_szBring (A : Alg) (hA : A = std) (x : GBring) (n : Int) (h1 : 0 ≤ n) (h2 : n ≤ 1048576) (hk : ∀ k ∈ zsBring x, (k : Int) ≤ 9223372036854775807) : Real Tryz.prog 101 [.agg (eBring x), .ii n] (.ii (chain n (zsBring x))) := by
 obtain ⟨o1, f9, v8, t7⟩ := x
 obtain ⟨v4, s4⟩ := nm (v8.map eString)
 have z9 := rlen_map hA s4
 obtain ⟨u5, r3⟩ := nm (t7.map eString)
 have z3 := rlen_map hA r3
 refine real_args (args' := [.agg [.ii o1, .str f9, .sl 1 v4, .sl 1 u5], .ii n]) (by subst s4 r3; rfl) ?_
 have hk0 : (ByteArray.size f9 : Int) ≤ 9223372036854775807 := hk _ (by simp [zsBring])
 refine real tyOk Tryz.func101 (by kernel_rfl) (afun_of rfl ?_)
 refine gx hA 2 ?_
 refine gx hA 6 ?_
 refine gs (gs ?_)
 have w0 : (A.num .sub .i64 n (A.slen f9)) = n - (ByteArray.size f9 : Int) := by
  rw [slen_eq hA f9]; exact sub_i64 hA (by omega) (by omega)
 refine gy hA 2 ?_
 refine go_cond rfl (fun c1 => ?_) (fun c1 => ?_)
 ·
  have ec1 : (A.num .sub .i64 n (A.slen f9)) < 0 := lss_t hA c1
  refine gx hA 1 ?_
  refine go_ret ⟨_, by cbv, ?_⟩
  show _ = (PV.int .i64 (-1))
  show PV.int _ _ = PV.int _ _
  refine congrArg (PV.int .i64) ?_
  simp only [zsBring]
  exact chain_strN w0 ec1
 have ec1 : 0 ≤ (A.num .sub .i64 n (A.slen f9)) := lss_f hA c1
 refine gk (gs (gr (rn hA 3 ?_)))
 obtain ⟨b6, i7, hc3⟩ : ∃ (b6 : Int), b6 = (chain (A.num .sub .i64 n (A.slen f9)) (zsStringS v8)) ∧ Real Tryz.prog 139 [.sl 1 v4, .ii (A.num .sub .i64 n (A.slen f9))] (.ii b6) := ⟨_, rfl, by subst s4; exact r_laws_szStringS A hA v8 (A.num .sub .i64 n (A.slen f9)) (by omega) (by omega) (fun k h => hk k (by simp only [zsBring, List.mem_append]; simp only [h, true_or, or_true]))⟩
 refine ops_callV rfl rfl (by cbv) (by cbv) hc3 (.inr rfl) (by cbv) ?_
 have y2 := chain_bd i7 (by omega)
 refine rz hA 1 ?_
 refine gs (gx hA 2 ?_)
 refine go_cond rfl (fun c4 => ?_) (fun c4 => ?_)
 ·
  have ec4 : b6 < 0 := lss_t hA c4
  refine gx hA 1 ?_
  refine go_ret ⟨_, by cbv, ?_⟩
  show _ = (PV.int .i64 (-1))
  show PV.int _ _ = PV.int _ _
  refine congrArg (PV.int .i64) ?_
  simp only [zsBring]
  rw [chain_str w0 ec1]
  exact chain_subN (by omega) i7 ec4
 have ec4 : 0 ≤ b6 := lss_f hA c4
 refine gk (gs (gr (rn hA 3 ?_)))
 obtain ⟨e9, m6, hc6⟩ : ∃ (e9 : Int), e9 = (chain b6 (zsStringS t7)) ∧ Real Tryz.prog 139 [.sl 1 u5, .ii b6] (.ii e9) := ⟨_, rfl, by subst r3; exact r_laws_szStringS A hA t7 b6 (by omega) (by omega) (fun k h => hk k (by simp only [zsBring, List.mem_append]; simp only [h, true_or, or_true]))⟩
 refine ops_callV rfl rfl (by cbv) (by cbv) hc6 (.inr rfl) (by cbv) ?_
 have x8 := chain_bd m6 (by omega)
 refine rz hA 1 ?_
 refine gs (gx hA 2 ?_)
 refine go_cond rfl (fun c7 => ?_) (fun c7 => ?_)
 ·
  have ec7 : e9 < 0 := lss_t hA c7
  refine gx hA 1 ?_
  refine go_ret ⟨_, by cbv, ?_⟩
  show _ = (PV.int .i64 (-1))
  show PV.int _ _ = PV.int _ _
  refine congrArg (PV.int .i64) ?_
  simp only [zsBring]
  rw [chain_str w0 ec1]
  rw [chain_sub i7 ec4]
  exact chain_subN (by omega) m6 ec7
 have ec7 : 0 ≤ e9 := lss_f hA c7
 refine gk (gx hA 2 ?_)
 refine go_ret ⟨_, by cbv, ?_⟩
 show _ = (PV.int .i64 e9)
 show PV.int _ _ = PV.int _ _
 refine congrArg (PV.int .i64) ?_
 simp only [zsBring]
 rw [chain_str w0 ec1]
 rw [chain_sub i7 ec4]
 rw [chain_sub m6 ec7]
 rfl
theorem r_laws_szMail (A : Alg) (hA : A = std) (x : GMail) (n : Int) (h1 : 0 ≤ n) (h2 : n ≤ 1048576) (hk : ∀ k ∈ zsMail x, (k : Int) ≤ 9223372036854775807) : Real Tryz.prog 180 [.agg (eMail x), .ii n] (.ii (chain n (zsMail x))) := by
 obtain ⟨u9, s9, a4⟩ := x
 refine real_args (args' := [.agg [.ii u9, .ii s9, .str a4], .ii n]) (by rfl) ?_
 have hk0 : (ByteArray.size a4 : Int) ≤ 9223372036854775807 := hk _ (by simp [zsMail])
 refine real tyOk Tryz.func180 (by kernel_rfl) (afun_of rfl ?_)
 refine gx hA 2 ?_
 refine gx hA 6 ?_
 refine gs (gs ?_)
 have w0 : (A.num .sub .i64 n (A.slen a4)) = n - (ByteArray.size a4 : Int) := by
  rw [slen_eq hA a4]; exact sub_i64 hA (by omega) (by omega)
 refine gy hA 2 ?_
 refine go_cond rfl (fun c1 => ?_) (fun c1 => ?_)
 ·
  have ec1 : (A.num .sub .i64 n (A.slen a4)) < 0 := lss_t hA c1
  refine gx hA 1 ?_
  refine go_ret ⟨_, by cbv, ?_⟩
  show _ = (PV.int .i64 (-1))
  show PV.int _ _ = PV.int _ _
  refine congrArg (PV.int .i64) ?_
  simp only [zsMail]
  exact chain_strN w0 ec1
 have ec1 : 0 ≤ (A.num .sub .i64 n (A.slen a4)) := lss_f hA c1
 refine gk (gx hA 2 ?_)
 refine go_ret ⟨_, by cbv, ?_⟩
 show _ = (PV.int .i64 (A.num .sub .i64 n (A.slen a4)))
 show PV.int _ _ = PV.int _ _
 refine congrArg (PV.int .i64) ?_
 simp only [zsMail]
 rw [chain_str w0 ec1]
 rfl
def S142_1 (p0 : RR) (p1 : Int) (p2 : Int) : St := { sl := [.sl 3 p0, .ii p1, .bad, .bad, .bad, .ii p2, .bad, .bad, .bad, .bad, .bad, .bad, .bad, .bad, .bad, .bad, .bad, .bad, .bad, .bad, .bad, .bad, .bad, .bad, .bad, .bad, .bad], bl := [] }
theorem r_laws_szMailS (A : Alg) (hA : A = std) (xs : List GMail) (n : Int) (h1 : 0 ≤ n) (h2 : n ≤ 1048576) (hk : ∀ k ∈ zsMailS xs, (k : Int) ≤ 9223372036854775807) : Real Tryz.prog 142 [.sl 3 (List.map eMail xs), .ii n] (.ii (chain n (zsMailS xs))) := by
 obtain ⟨a0, a5⟩ := nm (xs.map eMail)
 have d2 := rlen_map hA a5
 refine real_args (args' := [.sl 3 a0, .ii n]) (by subst a5; rfl) ?_
 have hlen : (List.length xs : Int) ≤ 9223372036854775807 := hk _ (by simp [zsMailS])
 refine real tyOk Tryz.func142 (by kernel_rfl) (afun_of rfl ?_)
 refine gx hA 1 ?_
 refine gx hA 5 ?_
 refine gs (gs ?_)
 have w0 : A.num .sub .i64 n (A.rlen a0) = n - (List.length xs : Int) := by
  rw [d2]; exact sub_i64 hA (by omega) (by omega)
 refine gy hA 2 ?_
 refine go_cond rfl (fun c1 => ?_) (fun c1 => ?_)
 ·
  have ec1 : (A.num .sub .i64 n (A.rlen a0)) < 0 := lss_t hA c1
  refine gx hA 1 ?_
  refine go_ret ⟨_, by cbv, ?_⟩
  show _ = (PV.int .i64 (-1))
  refine congrArg (PV.int .i64) ?_
  rw [zsMailS, chain_cons, if_pos (by omega)]
 have ec1 : 0 ≤ (A.num .sub .i64 n (A.rlen a0)) := lss_f hA c1
 refine gk (gs (gx hA 1 ?_))
 refine go_block ?_
 refine go_loopE (fun σ m => ∃ (i : Nat) (L : Int) (n5 : Int), σ = (S142_1 a0 L n5) ∧ (n5 = (i : Int) ∧ i ≤ List.length xs ∧ 0 ≤ L ∧ L ≤ 1048576 ∧ L = chain (n - (List.length xs : Int)) ((xs.take i).flatMap zsMail)) ∧ m = List.length xs - i) _ [] [0, 1, 5] [] (S142_1 a0 (A.num .sub .i64 n (A.rlen a0)) 0) rfl (by cbv) ⟨0, (A.num .sub .i64 n (A.rlen a0)), 0, rfl, ?_, rfl⟩ (fun σ m hI => ?_)
 ·
  exact ⟨rfl, Nat.zero_le _, by omega, by omega, w0⟩
 obtain ⟨i, L, n5, rfl, ⟨hn5, hi, hL0, hL1, hL⟩, rfl⟩ := hI
 refine gs (gx hA 4 ?_)
 refine go_cond rfl (fun c2 => ?_) (fun c2 => ?_)
 ·
  have ec2 : n5 < (A.rlen a0) := lss_t hA c2
  refine gk (gs ?_)
  refine go_block ?_
  refine gs (gr (rn hA 2 ?_))
  have m2 : (0 : Int) ≤ n5 := by
   omega
  have m3 : (Int.toNat n5) < List.length xs := by
   omega
  obtain ⟨x3, hx3⟩ : ∃ x, (xs)[(Int.toNat n5)]? = some x := ⟨_, List.getElem?_eq_getElem m3⟩
  have m9 := List.mem_of_getElem? hx3
  obtain ⟨q3, m8, d0⟩ := x3
  have m1 : a0[(Int.toNat n5)]? = some [.ii q3, .ii m8, .str d0] := by
   exact map_at eMail a5 hx3
  have e4 : xs[i]? = some (⟨q3, m8, d0⟩ : GMail) := by
   have h := hx3; rw [hn5] at h; exact h
  have hkx := fun (k : Nat) h => hk k (List.mem_cons_of_mem _ (List.mem_flatMap.2 ⟨_, m9, h⟩))
  refine ops_step rfl rfl (idx_sl rfl rfl rfl rfl rfl m2 rfl m1) ?_
  refine rn hA 2 ?_
  obtain ⟨a3, a8, hc5⟩ : ∃ (a3 : Int), a3 = (chain L (zsMail (⟨q3, m8, d0⟩ : GMail))) ∧ Real Tryz.prog 180 [.agg [.ii q3, .ii m8, .str d0], .ii L] (.ii a3) := ⟨_, rfl, by exact r_laws_szMail A hA (⟨q3, m8, d0⟩ : GMail) L (by omega) (by omega) hkx⟩
  refine ops_callV rfl rfl (by cbv) (by cbv) hc5 (.inr rfl) (by cbv) ?_
  have s2 := chain_bd a8 (by omega)
  refine rz hA 1 ?_
  refine gs ?_
  skip
  refine gy hA 2 ?_
  refine go_cond rfl (fun c6 => ?_) (fun c6 => ?_)
  ·
   have ec6 : a3 < 0 := lss_t hA c6
   refine gx hA 1 ?_
   refine go_ret ⟨_, by cbv, ?_⟩
   show _ = (PV.int .i64 (-1))
   refine congrArg (PV.int .i64) ?_
   rw [zsMailS, chain_cons, if_neg (by omega), flat_split zsMail xs (i + 1), take_flat zsMail xs e4, List.append_assoc, chain_sub hL hL0]
   exact chain_subN (by omega) a8 ec6
  have ec6 : 0 ≤ a3 := lss_f hA c6
  refine gk (gy hA 3 ?_)
  refine ⟨(S142_1 a0 a3 (A.num .add .i64 n5 1)), List.length xs - (i + 1), ?_, by cbv, i + 1, a3, (A.num .add .i64 n5 1), rfl, ?_, rfl⟩
  ·
   omega
  refine ⟨by rw [add_i64 hA (by omega) (by omega)]; omega, by omega, by omega, by omega, ?_⟩
  rw [take_flat zsMail xs e4, chain_sub hL hL0]
  exact a8
 have ec2 : (A.rlen a0) ≤ n5 := lss_f hA c2
 refine go_exit ⟨fun _ => ?_, fun h => absurd rfl h⟩
 refine gx hA 2 ?_
 refine go_ret ⟨_, by cbv, ?_⟩
 show _ = (PV.int .i64 L)
 refine congrArg (PV.int .i64) ?_
 rw [zsMailS, chain_cons, if_neg (by omega), hL, List.take_of_length_le (by omega)]
theorem r_laws_szBoolS (A : Alg) (hA : A = std) (xs : List Bool) (n : Int) (h1 : 0 ≤ n) (h2 : n ≤ 1048576) (hk : ∀ k ∈ zsBoolS xs, (k : Int) ≤ 9223372036854775807) : Real Tryz.prog 143 [.sl 1 (List.map eBool xs), .ii n] (.ii (chain n (zsBoolS xs))) := by
 obtain ⟨a0, a5⟩ := nm (xs.map eBool)
 have d2 := rlen_map hA a5
 refine real_args (args' := [.sl 1 a0, .ii n]) (by subst a5; rfl) ?_
 have hlen : (List.length xs : Int) ≤ 9223372036854775807 := hk _ (by simp [zsBoolS])
 refine real tyOk Tryz.func143 (by kernel_rfl) (afun_of rfl ?_)
 refine gx hA 1 ?_
 refine gx hA 5 ?_
 refine gs (gs ?_)
 have w0 : A.num .sub .i64 n (A.rlen a0) = n - (List.length xs : Int) := by
  rw [d2]; exact sub_i64 hA (by omega) (by omega)
 refine gy hA 2 ?_
 refine go_cond rfl (fun c1 => ?_) (fun c1 => ?_)
 ·
  have ec1 : (A.num .sub .i64 n (A.rlen a0)) < 0 := lss_t hA c1
  refine gx hA 1 ?_
  refine go_ret ⟨_, by cbv, ?_⟩
  show _ = (PV.int .i64 (-1))
  refine congrArg (PV.int .i64) ?_
  rw [zsBoolS, chain_cons, if_pos (by omega)]
 have ec1 : 0 ≤ (A.num .sub .i64 n (A.rlen a0)) := lss_f hA c1
 refine gk (gx hA 2 ?_)
 refine go_ret ⟨_, by cbv, ?_⟩
 show _ = (PV.int .i64 (A.num .sub .i64 n (A.rlen a0)))
 refine congrArg (PV.int .i64) ?_
 rw [zsBoolS, chain_cons, if_neg (by omega), w0]; rfl
theorem r_laws_szFetch (A : Alg) (hA : A = std) (x : GFetch) (n : Int) (h1 : 0 ≤ n) (h2 : n ≤ 1048576) (hk : ∀ k ∈ zsFetch x, (k : Int) ≤ 9223372036854775807) : Real Tryz.prog 102 [.agg (eFetch x), .ii n] (.ii (chain n (zsFetch x))) := by
 obtain ⟨o1, a1, s7, u4⟩ := x
 obtain ⟨t4, p3⟩ := nm (s7.map eMail)
 have y7 := rlen_map hA p3
 obtain ⟨u2, r0⟩ := nm (u4.map eBool)
 have z2 := rlen_map hA r0
 refine real_args (args' := [.agg [.ii o1, .str a1, .sl 3 t4, .sl 1 u2], .ii n]) (by subst p3 r0; rfl) ?_
 have hk0 : (ByteArray.size a1 : Int) ≤ 9223372036854775807 := hk _ (by simp [zsFetch])
 refine real tyOk Tryz.func102 (by kernel_rfl) (afun_of rfl ?_)
 refine gx hA 2 ?_
 refine gx hA 6 ?_
 refine gs (gs ?_)
 have w0 : (A.num .sub .i64 n (A.slen a1)) = n - (ByteArray.size a1 : Int) := by
  rw [slen_eq hA a1]; exact sub_i64 hA (by omega) (by omega)
 refine gy hA 2 ?_
 refine go_cond rfl (fun c1 => ?_) (fun c1 => ?_)
 ·
  have ec1 : (A.num .sub .i64 n (A.slen a1)) < 0 := lss_t hA c1
  refine gx hA 1 ?_
  refine go_ret ⟨_, by cbv, ?_⟩
  show _ = (PV.int .i64 (-1))
  show PV.int _ _ = PV.int _ _
  refine congrArg (PV.int .i64) ?_
  simp only [zsFetch]
  exact chain_strN w0 ec1
 have ec1 : 0 ≤ (A.num .sub .i64 n (A.slen a1)) := lss_f hA c1
 refine gk (gs (gr (rn hA 3 ?_)))
 obtain ⟨b6, i7, hc3⟩ : ∃ (b6 : Int), b6 = (chain (A.num .sub .i64 n (A.slen a1)) (zsMailS s7)) ∧ Real Tryz.prog 142 [.sl 3 t4, .ii (A.num .sub .i64 n (A.slen a1))] (.ii b6) := ⟨_, rfl, by subst p3; exact r_laws_szMailS A hA s7 (A.num .sub .i64 n (A.slen a1)) (by omega) (by omega) (fun k h => hk k (by simp only [zsFetch, List.mem_append]; simp only [h, true_or, or_true]))⟩
 refine ops_callV rfl rfl (by cbv) (by cbv) hc3 (.inr rfl) (by cbv) ?_
 have y2 := chain_bd i7 (by omega)
 refine rz hA 1 ?_
 refine gs (gx hA 2 ?_)
 refine go_cond rfl (fun c4 => ?_) (fun c4 => ?_)
 ·
  have ec4 : b6 < 0 := lss_t hA c4
  refine gx hA 1 ?_
  refine go_ret ⟨_, by cbv, ?_⟩
  show _ = (PV.int .i64 (-1))
  show PV.int _ _ = PV.int _ _
  refine congrArg (PV.int .i64) ?_
  simp only [zsFetch]
  rw [chain_str w0 ec1]
  exact chain_subN (by omega) i7 ec4
 have ec4 : 0 ≤ b6 := lss_f hA c4
 refine gk (gs (gr (rn hA 3 ?_)))
 obtain ⟨e9, m6, hc6⟩ : ∃ (e9 : Int), e9 = (chain b6 (zsBoolS u4)) ∧ Real Tryz.prog 143 [.sl 1 u2, .ii b6] (.ii e9) := ⟨_, rfl, by subst r0; exact r_laws_szBoolS A hA u4 b6 (by omega) (by omega) (fun k h => hk k (by simp only [zsFetch, List.mem_append]; simp only [h, true_or, or_true]))⟩
 refine ops_callV rfl rfl (by cbv) (by cbv) hc6 (.inr rfl) (by cbv) ?_
 have x8 := chain_bd m6 (by omega)
 refine rz hA 1 ?_
 refine gs (gx hA 2 ?_)
 refine go_cond rfl (fun c7 => ?_) (fun c7 => ?_)
 ·
  have ec7 : e9 < 0 := lss_t hA c7
  refine gx hA 1 ?_
  refine go_ret ⟨_, by cbv, ?_⟩
  show _ = (PV.int .i64 (-1))
  show PV.int _ _ = PV.int _ _
  refine congrArg (PV.int .i64) ?_
  simp only [zsFetch]
  rw [chain_str w0 ec1]
  rw [chain_sub i7 ec4]
  exact chain_subN (by omega) m6 ec7
 have ec7 : 0 ≤ e9 := lss_f hA c7
 refine gk (gx hA 2 ?_)
 refine go_ret ⟨_, by cbv, ?_⟩
 show _ = (PV.int .i64 e9)
 show PV.int _ _ = PV.int _ _
 refine congrArg (PV.int .i64) ?_
 simp only [zsFetch]
 rw [chain_str w0 ec1]
 rw [chain_sub i7 ec4]
 rw [chain_sub m6 ec7]
 rfl
theorem r_laws_szLook (A : Alg) (hA : A = std) (x : GLook) (n : Int) (h1 : 0 ≤ n) (h2 : n ≤ 1048576) (hk : ∀ k ∈ zsLook x, (k : Int) ≤ 9223372036854775807) : Real Tryz.prog 103 [.agg (eLook x), .ii n] (.ii (chain n (zsLook x))) := by
 obtain ⟨o1, a1, k1, s3, t6⟩ := x
 obtain ⟨t9, q6⟩ := nm (t6.map eInt)
 have z5 := rlen_map hA q6
 refine real_args (args' := [.agg [.ii o1, .str a1, .str k1, .ii s3, .sl 1 t9], .ii n]) (by subst q6; rfl) ?_
 have hk0 : (ByteArray.size a1 : Int) ≤ 9223372036854775807 := hk _ (by simp [zsLook])
 have hk1 : (ByteArray.size k1 : Int) ≤ 9223372036854775807 := hk _ (by simp [zsLook])
 refine real tyOk Tryz.func103 (by kernel_rfl) (afun_of rfl ?_)
 refine gx hA 2 ?_
 refine gx hA 6 ?_
 refine gs (gs ?_)
 have w0 : (A.num .sub .i64 n (A.slen a1)) = n - (ByteArray.size a1 : Int) := by
  rw [slen_eq hA a1]; exact sub_i64 hA (by omega) (by omega)
 refine gy hA 2 ?_
 refine go_cond rfl (fun c1 => ?_) (fun c1 => ?_)
 ·
  have ec1 : (A.num .sub .i64 n (A.slen a1)) < 0 := lss_t hA c1
  refine gx hA 1 ?_
  refine go_ret ⟨_, by cbv, ?_⟩
  show _ = (PV.int .i64 (-1))
  show PV.int _ _ = PV.int _ _
  refine congrArg (PV.int .i64) ?_
  simp only [zsLook]
  exact chain_strN w0 ec1
 have ec1 : 0 ≤ (A.num .sub .i64 n (A.slen a1)) := lss_f hA c1
 refine gk (gx hA 6 ?_)
 refine gs (gs ?_)
 have w1 : (A.num .sub .i64 (A.num .sub .i64 n (A.slen a1)) (A.slen k1)) = (A.num .sub .i64 n (A.slen a1)) - (ByteArray.size k1 : Int) := by
  rw [slen_eq hA k1]; exact sub_i64 hA (by omega) (by omega)
 refine gy hA 2 ?_
 refine go_cond rfl (fun c2 => ?_) (fun c2 => ?_)
 ·
  have ec2 : (A.num .sub .i64 (A.num .sub .i64 n (A.slen a1)) (A.slen k1)) < 0 := lss_t hA c2
  refine gx hA 1 ?_
  refine go_ret ⟨_, by cbv, ?_⟩
  show _ = (PV.int .i64 (-1))
  show PV.int _ _ = PV.int _ _
  refine congrArg (PV.int .i64) ?_
  simp only [zsLook]
  rw [chain_str w0 ec1]
  exact chain_strN w1 ec2
 have ec2 : 0 ≤ (A.num .sub .i64 (A.num .sub .i64 n (A.slen a1)) (A.slen k1)) := lss_f hA c2
 refine gk (gs (gr (rn hA 3 ?_)))
 obtain ⟨d1, j4, hc4⟩ : ∃ (d1 : Int), d1 = (chain (A.num .sub .i64 (A.num .sub .i64 n (A.slen a1)) (A.slen k1)) (zsIntS t6)) ∧ Real Tryz.prog 56 [.sl 1 t9, .ii (A.num .sub .i64 (A.num .sub .i64 n (A.slen a1)) (A.slen k1))] (.ii d1) := ⟨_, rfl, by subst q6; exact r_laws_szIntS A hA t6 (A.num .sub .i64 (A.num .sub .i64 n (A.slen a1)) (A.slen k1)) (by omega) (by omega) (fun k h => hk k (by simp only [zsLook, List.mem_append]; simp only [h, true_or, or_true]))⟩
 refine ops_callV rfl rfl (by cbv) (by cbv) hc4 (.inr rfl) (by cbv) ?_
 have x7 := chain_bd j4 (by omega)
 refine rz hA 1 ?_
 refine gs (gx hA 2 ?_)
 refine go_cond rfl (fun c5 => ?_) (fun c5 => ?_)
 ·
  have ec5 : d1 < 0 := lss_t hA c5
  refine gx hA 1 ?_
  refine go_ret ⟨_, by cbv, ?_⟩
  show _ = (PV.int .i64 (-1))
  show PV.int _ _ = PV.int _ _
  refine congrArg (PV.int .i64) ?_
  simp only [zsLook]
  rw [chain_str w0 ec1]
  rw [chain_str w1 ec2]
  exact chain_subN (by omega) j4 ec5
 have ec5 : 0 ≤ d1 := lss_f hA c5
 refine gk (gx hA 2 ?_)
 refine go_ret ⟨_, by cbv, ?_⟩
 show _ = (PV.int .i64 d1)
 show PV.int _ _ = PV.int _ _
 refine congrArg (PV.int .i64) ?_
 simp only [zsLook]
 rw [chain_str w0 ec1]
 rw [chain_str w1 ec2]
 rw [chain_sub j4 ec5]
 rfl
theorem r_laws_szSession (A : Alg) (hA : A = std) (x : GSession) (n : Int) (h1 : 0 ≤ n) (h2 : n ≤ 1048576) (hk : ∀ k ∈ zsSession x, (k : Int) ≤ 9223372036854775807) : Real Tryz.prog 57 [.agg (eSession x), .ii n] (.ii (chain n (zsSession x))) := by
 obtain ⟨u0, i2, k5, y0, ⟨g3, i4, o9, m0⟩, ⟨g2, j1, l2, m4⟩, ⟨i6, k0, l4, i3, o0⟩⟩ := x
 obtain ⟨q5, k9⟩ := nm (o9.map eString)
 have x6 := rlen_map hA k9
 obtain ⟨o5, j5⟩ := nm (m0.map eString)
 have w8 := rlen_map hA j5
 obtain ⟨n8, g8⟩ := nm (l2.map eMail)
 have w3 := rlen_map hA g8
 obtain ⟨o3, j3⟩ := nm (m4.map eBool)
 have w6 := rlen_map hA j3
 obtain ⟨q0, j6⟩ := nm (o0.map eInt)
 have x0 := rlen_map hA j6
 refine real_args (args' := [.agg [.ii u0, .str i2, .str k5, .bool y0, .ii g3, .str i4, .sl 1 q5, .sl 1 o5, .ii g2, .str j1, .sl 3 n8, .sl 1 o3, .ii i6, .str k0, .str l4, .ii i3, .sl 1 q0], .ii n]) (by subst k9 j5 g8 j3 j6; rfl) ?_
 have hk0 : (ByteArray.size i2 : Int) ≤ 9223372036854775807 := hk _ (by simp [zsSession])
 have hk1 : (ByteArray.size k5 : Int) ≤ 9223372036854775807 := hk _ (by simp [zsSession])
 refine real tyOk Tryz.func57 (by kernel_rfl) (afun_of rfl ?_)
 refine gx hA 2 ?_
 refine gx hA 6 ?_
 refine gs (gs ?_)
 have w0 : (A.num .sub .i64 n (A.slen i2)) = n - (ByteArray.size i2 : Int) := by
  rw [slen_eq hA i2]; exact sub_i64 hA (by omega) (by omega)
 refine gy hA 2 ?_
 refine go_cond rfl (fun c1 => ?_) (fun c1 => ?_)
 ·
  have ec1 : (A.num .sub .i64 n (A.slen i2)) < 0 := lss_t hA c1
  refine gx hA 1 ?_
  refine go_ret ⟨_, by cbv, ?_⟩
  show _ = (PV.int .i64 (-1))
  show PV.int _ _ = PV.int _ _
  refine congrArg (PV.int .i64) ?_
  simp only [zsSession]
  exact chain_strN w0 ec1
 have ec1 : 0 ≤ (A.num .sub .i64 n (A.slen i2)) := lss_f hA c1
 refine gk (gx hA 6 ?_)
 refine gs (gs ?_)
 have w1 : (A.num .sub .i64 (A.num .sub .i64 n (A.slen i2)) (A.slen k5)) = (A.num .sub .i64 n (A.slen i2)) - (ByteArray.size k5 : Int) := by
  rw [slen_eq hA k5]; exact sub_i64 hA (by omega) (by omega)
 refine gy hA 2 ?_
 refine go_cond rfl (fun c2 => ?_) (fun c2 => ?_)
 ·
  have ec2 : (A.num .sub .i64 (A.num .sub .i64 n (A.slen i2)) (A.slen k5)) < 0 := lss_t hA c2
  refine gx hA 1 ?_
  refine go_ret ⟨_, by cbv, ?_⟩
  show _ = (PV.int .i64 (-1))
  show PV.int _ _ = PV.int _ _
  refine congrArg (PV.int .i64) ?_
  simp only [zsSession]
  rw [chain_str w0 ec1]
  exact chain_strN w1 ec2
 have ec2 : 0 ≤ (A.num .sub .i64 (A.num .sub .i64 n (A.slen i2)) (A.slen k5)) := lss_f hA c2
 refine gk (gs (gr (rn hA 3 ?_)))
 obtain ⟨d1, j4, hc4⟩ : ∃ (d1 : Int), d1 = (chain (A.num .sub .i64 (A.num .sub .i64 n (A.slen i2)) (A.slen k5)) (zsBring (⟨g3, i4, o9, m0⟩ : GBring))) ∧ Real Tryz.prog 101 [.agg [.ii g3, .str i4, .sl 1 q5, .sl 1 o5], .ii (A.num .sub .i64 (A.num .sub .i64 n (A.slen i2)) (A.slen k5))] (.ii d1) := ⟨_, rfl, by subst k9 j5; exact r_laws_szBring A hA (⟨g3, i4, o9, m0⟩ : GBring) (A.num .sub .i64 (A.num .sub .i64 n (A.slen i2)) (A.slen k5)) (by omega) (by omega) (fun k h => hk k (by simp only [zsSession, List.mem_append]; simp only [h, true_or, or_true]))⟩
 refine ops_callV rfl rfl (by cbv) (by cbv) hc4 (.inr rfl) (by cbv) ?_
 have x7 := chain_bd j4 (by omega)
 refine rz hA 1 ?_
 refine gs (gx hA 2 ?_)
 refine go_cond rfl (fun c5 => ?_) (fun c5 => ?_)
 ·
  have ec5 : d1 < 0 := lss_t hA c5
  refine gx hA 1 ?_
  refine go_ret ⟨_, by cbv, ?_⟩
  show _ = (PV.int .i64 (-1))
  show PV.int _ _ = PV.int _ _
  refine congrArg (PV.int .i64) ?_
  simp only [zsSession]
  rw [chain_str w0 ec1]
  rw [chain_str w1 ec2]
  exact chain_subN (by omega) j4 ec5
 have ec5 : 0 ≤ d1 := lss_f hA c5
 refine gk (gs (gr (rn hA 3 ?_)))
 obtain ⟨n4, s1, hc7⟩ : ∃ (n4 : Int), n4 = (chain d1 (zsFetch (⟨g2, j1, l2, m4⟩ : GFetch))) ∧ Real Tryz.prog 102 [.agg [.ii g2, .str j1, .sl 3 n8, .sl 1 o3], .ii d1] (.ii n4) := ⟨_, rfl, by subst g8 j3; exact r_laws_szFetch A hA (⟨g2, j1, l2, m4⟩ : GFetch) d1 (by omega) (by omega) (fun k h => hk k (by simp only [zsSession, List.mem_append]; simp only [h, true_or, or_true]))⟩
 refine ops_callV rfl rfl (by cbv) (by cbv) hc7 (.inr rfl) (by cbv) ?_
 have B0 := chain_bd s1 (by omega)
 refine rz hA 1 ?_
 refine gs (gx hA 2 ?_)
 refine go_cond rfl (fun c8 => ?_) (fun c8 => ?_)
 ·
  have ec8 : n4 < 0 := lss_t hA c8
  refine gx hA 1 ?_
  refine go_ret ⟨_, by cbv, ?_⟩
  show _ = (PV.int .i64 (-1))
  show PV.int _ _ = PV.int _ _
  refine congrArg (PV.int .i64) ?_
  simp only [zsSession]
  rw [chain_str w0 ec1]
  rw [chain_str w1 ec2]
  rw [chain_sub j4 ec5]
  exact chain_subN (by omega) s1 ec8
 have ec8 : 0 ≤ n4 := lss_f hA c8
 refine gk (gs (gr (rn hA 3 ?_)))
 obtain ⟨r4, u6, z8⟩ : ∃ (r4 : Int), r4 = (chain n4 (zsLook (⟨i6, k0, l4, i3, o0⟩ : GLook))) ∧ Real Tryz.prog 103 [.agg [.ii i6, .str k0, .str l4, .ii i3, .sl 1 q0], .ii n4] (.ii r4) := ⟨_, rfl, by subst j6; exact r_laws_szLook A hA (⟨i6, k0, l4, i3, o0⟩ : GLook) n4 (by omega) (by omega) (fun k h => hk k (by simp only [zsSession, List.mem_append]; simp only [h, true_or, or_true]))⟩
 refine ops_callV rfl rfl (by cbv) (by cbv) z8 (.inr rfl) (by cbv) ?_
 have B1 := chain_bd u6 (by omega)
 refine rz hA 1 ?_
 refine gs (gx hA 2 ?_)
 refine go_cond rfl (fun c11 => ?_) (fun c11 => ?_)
 ·
  have v7 : r4 < 0 := lss_t hA c11
  refine gx hA 1 ?_
  refine go_ret ⟨_, by cbv, ?_⟩
  show _ = (PV.int .i64 (-1))
  show PV.int _ _ = PV.int _ _
  refine congrArg (PV.int .i64) ?_
  simp only [zsSession]
  rw [chain_str w0 ec1]
  rw [chain_str w1 ec2]
  rw [chain_sub j4 ec5]
  rw [chain_sub s1 ec8]
  exact chain_subN (by omega) u6 v7
 have v7 : 0 ≤ r4 := lss_f hA c11
 refine gk (gx hA 2 ?_)
 refine go_ret ⟨_, by cbv, ?_⟩
 show _ = (PV.int .i64 r4)
 show PV.int _ _ = PV.int _ _
 refine congrArg (PV.int .i64) ?_
 simp only [zsSession]
 rw [chain_str w0 ec1]
 rw [chain_str w1 ec2]
 rw [chain_sub j4 ec5]
 rw [chain_sub s1 ec8]
 rw [chain_sub u6 v7]
 rfl
def S26_1 (p0 : RR) (p1 : Int) (p2 : Int) : St := { sl := [.sl 17 p0, .ii p1, .bad, .bad, .bad, .ii p2, .bad, .bad, .bad, .bad, .bad, .bad, .bad, .bad, .bad, .bad, .bad, .bad, .bad, .bad, .bad, .bad, .bad, .bad, .bad, .bad, .bad], bl := [] }
theorem r_laws_szSessionS (A : Alg) (hA : A = std) (xs : List GSession) (n : Int) (h1 : 0 ≤ n) (h2 : n ≤ 1048576) (hk : ∀ k ∈ zsSessionS xs, (k : Int) ≤ 9223372036854775807) : Real Tryz.prog 26 [.sl 17 (List.map eSession xs), .ii n] (.ii (chain n (zsSessionS xs))) := by
 obtain ⟨a0, a5⟩ := nm (xs.map eSession)
 have d2 := rlen_map hA a5
 refine real_args (args' := [.sl 17 a0, .ii n]) (by subst a5; rfl) ?_
 have hlen : (List.length xs : Int) ≤ 9223372036854775807 := hk _ (by simp [zsSessionS])
 refine real tyOk Tryz.func26 (by kernel_rfl) (afun_of rfl ?_)
 refine gx hA 1 ?_
 refine gx hA 5 ?_
 refine gs (gs ?_)
 have w0 : A.num .sub .i64 n (A.rlen a0) = n - (List.length xs : Int) := by
  rw [d2]; exact sub_i64 hA (by omega) (by omega)
 refine gy hA 2 ?_
 refine go_cond rfl (fun c1 => ?_) (fun c1 => ?_)
 ·
  have ec1 : (A.num .sub .i64 n (A.rlen a0)) < 0 := lss_t hA c1
  refine gx hA 1 ?_
  refine go_ret ⟨_, by cbv, ?_⟩
  show _ = (PV.int .i64 (-1))
  refine congrArg (PV.int .i64) ?_
  rw [zsSessionS, chain_cons, if_pos (by omega)]
 have ec1 : 0 ≤ (A.num .sub .i64 n (A.rlen a0)) := lss_f hA c1
 refine gk (gs (gx hA 1 ?_))
 refine go_block ?_
 refine go_loopE (fun σ m => ∃ (i : Nat) (L : Int) (n5 : Int), σ = (S26_1 a0 L n5) ∧ (n5 = (i : Int) ∧ i ≤ List.length xs ∧ 0 ≤ L ∧ L ≤ 1048576 ∧ L = chain (n - (List.length xs : Int)) ((xs.take i).flatMap zsSession)) ∧ m = List.length xs - i) _ [] [0, 1, 5] [] (S26_1 a0 (A.num .sub .i64 n (A.rlen a0)) 0) rfl (by cbv) ⟨0, (A.num .sub .i64 n (A.rlen a0)), 0, rfl, ?_, rfl⟩ (fun σ m hI => ?_)
 ·
  exact ⟨rfl, Nat.zero_le _, by omega, by omega, w0⟩
 obtain ⟨i, L, n5, rfl, ⟨hn5, hi, hL0, hL1, hL⟩, rfl⟩ := hI
 refine gs (gx hA 4 ?_)
 refine go_cond rfl (fun c2 => ?_) (fun c2 => ?_)
 ·
  have ec2 : n5 < (A.rlen a0) := lss_t hA c2
  refine gk (gs ?_)
  refine go_block ?_
  refine gs (gr (rn hA 2 ?_))
  have m2 : (0 : Int) ≤ n5 := by
   omega
  have m3 : (Int.toNat n5) < List.length xs := by
   omega
  obtain ⟨x3, hx3⟩ : ∃ x, (xs)[(Int.toNat n5)]? = some x := ⟨_, List.getElem?_eq_getElem m3⟩
  have m9 := List.mem_of_getElem? hx3
  obtain ⟨o6, r9, q9, o2, ⟨c9, d8, k3, g5⟩, ⟨b9, d9, f0, g0⟩, ⟨d6, e6, f5, d5, i9⟩⟩ := x3
  obtain ⟨p9, j8⟩ := nm (k3.map eString)
  have x1 := rlen_map hA j8
  obtain ⟨n3, g9⟩ := nm (g5.map eString)
  have w4 := rlen_map hA g9
  obtain ⟨n1, f2⟩ := nm (f0.map eMail)
  have v6 := rlen_map hA f2
  obtain ⟨n7, i1⟩ := nm (g0.map eBool)
  have w5 := rlen_map hA i1
  obtain ⟨o4, j0⟩ := nm (i9.map eInt)
  have w7 := rlen_map hA j0
  have m1 : a0[(Int.toNat n5)]? = some [.ii o6, .str r9, .str q9, .bool o2, .ii c9, .str d8, .sl 1 p9, .sl 1 n3, .ii b9, .str d9, .sl 3 n1, .sl 1 n7, .ii d6, .str e6, .str f5, .ii d5, .sl 1 o4] := by
   subst j8 g9 f2 i1 j0; exact map_at eSession a5 hx3
  have e4 : xs[i]? = some (⟨o6, r9, q9, o2, ⟨c9, d8, k3, g5⟩, ⟨b9, d9, f0, g0⟩, ⟨d6, e6, f5, d5, i9⟩⟩ : GSession) := by
   have h := hx3; rw [hn5] at h; exact h
  have hkx := fun (k : Nat) h => hk k (List.mem_cons_of_mem _ (List.mem_flatMap.2 ⟨_, m9, h⟩))
  refine ops_step rfl rfl (idx_sl rfl rfl rfl rfl rfl m2 rfl m1) ?_
  refine rn hA 2 ?_
  obtain ⟨a3, a8, hc5⟩ : ∃ (a3 : Int), a3 = (chain L (zsSession (⟨o6, r9, q9, o2, ⟨c9, d8, k3, g5⟩, ⟨b9, d9, f0, g0⟩, ⟨d6, e6, f5, d5, i9⟩⟩ : GSession))) ∧ Real Tryz.prog 57 [.agg [.ii o6, .str r9, .str q9, .bool o2, .ii c9, .str d8, .sl 1 p9, .sl 1 n3, .ii b9, .str d9, .sl 3 n1, .sl 1 n7, .ii d6, .str e6, .str f5, .ii d5, .sl 1 o4], .ii L] (.ii a3) := ⟨_, rfl, by subst j8 g9 f2 i1 j0; exact r_laws_szSession A hA (⟨o6, r9, q9, o2, ⟨c9, d8, k3, g5⟩, ⟨b9, d9, f0, g0⟩, ⟨d6, e6, f5, d5, i9⟩⟩ : GSession) L (by omega) (by omega) hkx⟩
  refine ops_callV rfl rfl (by cbv) (by cbv) hc5 (.inr rfl) (by cbv) ?_
  have s2 := chain_bd a8 (by omega)
  refine rz hA 1 ?_
  refine gs ?_
  skip
  refine gy hA 2 ?_
  refine go_cond rfl (fun c6 => ?_) (fun c6 => ?_)
  ·
   have ec6 : a3 < 0 := lss_t hA c6
   refine gx hA 1 ?_
   refine go_ret ⟨_, by cbv, ?_⟩
   show _ = (PV.int .i64 (-1))
   refine congrArg (PV.int .i64) ?_
   rw [zsSessionS, chain_cons, if_neg (by omega), flat_split zsSession xs (i + 1), take_flat zsSession xs e4, List.append_assoc, chain_sub hL hL0]
   exact chain_subN (by omega) a8 ec6
  have ec6 : 0 ≤ a3 := lss_f hA c6
  refine gk (gy hA 3 ?_)
  refine ⟨(S26_1 a0 a3 (A.num .add .i64 n5 1)), List.length xs - (i + 1), ?_, by cbv, i + 1, a3, (A.num .add .i64 n5 1), rfl, ?_, rfl⟩
  ·
   omega
  refine ⟨by rw [add_i64 hA (by omega) (by omega)]; omega, by omega, by omega, by omega, ?_⟩
  rw [take_flat zsSession xs e4, chain_sub hL hL0]
  exact a8
 have ec2 : (A.rlen a0) ≤ n5 := lss_f hA c2
 refine go_exit ⟨fun _ => ?_, fun h => absurd rfl h⟩
 refine gx hA 2 ?_
 refine go_ret ⟨_, by cbv, ?_⟩
 show _ = (PV.int .i64 L)
 refine congrArg (PV.int .i64) ?_
 rw [zsSessionS, chain_cons, if_neg (by omega), hL, List.take_of_length_le (by omega)]
theorem r_laws_szServer (A : Alg) (hA : A = std) (x : GServer) (n : Int) (h1 : 0 ≤ n) (h2 : n ≤ 1048576) (hk : ∀ k ∈ zsServer x, (k : Int) ≤ 9223372036854775807) : Real Tryz.prog 7 [.agg (eServer x), .ii n] (.ii (chain n (zsServer x))) := by
 obtain ⟨⟨⟨⟨b3, b7⟩, d3, g7, b4, b5, b8, b0⟩, k8⟩, p4⟩ := x
 obtain ⟨d7, a9⟩ := nm (b3.map eString)
 have t2 := rlen_map hA a9
 obtain ⟨e3, b1⟩ := nm (b7.map eWrite)
 have t5 := rlen_map hA b1
 obtain ⟨k7, e1⟩ := nm (g7.map eSeg)
 have v0 := rlen_map hA e1
 obtain ⟨n6, i0⟩ := nm (k8.map eInt)
 have v9 := rlen_map hA i0
 obtain ⟨r2, l1⟩ := nm (p4.map eSession)
 have x5 := rlen_map hA l1
 refine real_args (args' := [.agg [.sl 1 d7, .sl 2 e3, .ii d3, .sl 4 k7, .ii b4, .ii b5, .ii b8, .ii b0, .sl 1 n6, .sl 17 r2], .ii n]) (by subst a9 b1 e1 i0 l1; rfl) ?_
 refine real tyOk Tryz.func7 (by kernel_rfl) (afun_of rfl ?_)
 refine gx hA 2 ?_
 refine gs (gr (rn hA 3 ?_))
 obtain ⟨a2, a7, hc2⟩ : ∃ (a2 : Int), a2 = (chain n (zsStore (⟨⟨⟨b3, b7⟩, d3, g7, b4, b5, b8, b0⟩, k8⟩ : GStore))) ∧ Real Tryz.prog 25 [.agg [.sl 1 d7, .sl 2 e3, .ii d3, .sl 4 k7, .ii b4, .ii b5, .ii b8, .ii b0, .sl 1 n6], .ii n] (.ii a2) := ⟨_, rfl, by subst a9 b1 e1 i0; exact r_laws_szStore A hA (⟨⟨⟨b3, b7⟩, d3, g7, b4, b5, b8, b0⟩, k8⟩ : GStore) n (by omega) (by omega) (fun k h => hk k (by simp only [zsServer, List.mem_append]; simp only [h, true_or, or_true]))⟩
 refine ops_callV rfl rfl (by cbv) (by cbv) hc2 (.inr rfl) (by cbv) ?_
 have s0 := chain_bd a7 (by omega)
 refine rz hA 1 ?_
 refine gs (gx hA 2 ?_)
 refine go_cond rfl (fun c3 => ?_) (fun c3 => ?_)
 ·
  have ec3 : a2 < 0 := lss_t hA c3
  refine gx hA 1 ?_
  refine go_ret ⟨_, by cbv, ?_⟩
  show _ = (PV.int .i64 (-1))
  show PV.int _ _ = PV.int _ _
  refine congrArg (PV.int .i64) ?_
  simp only [zsServer]
  exact chain_subN (by omega) a7 ec3
 have ec3 : 0 ≤ a2 := lss_f hA c3
 refine gk (gs (gr (rn hA 3 ?_)))
 obtain ⟨a6, b2, hc5⟩ : ∃ (a6 : Int), a6 = (chain a2 (zsSessionS p4)) ∧ Real Tryz.prog 26 [.sl 17 r2, .ii a2] (.ii a6) := ⟨_, rfl, by subst l1; exact r_laws_szSessionS A hA p4 a2 (by omega) (by omega) (fun k h => hk k (by simp only [zsServer, List.mem_append]; simp only [h, true_or, or_true]))⟩
 refine ops_callV rfl rfl (by cbv) (by cbv) hc5 (.inr rfl) (by cbv) ?_
 have u3 := chain_bd b2 (by omega)
 refine rz hA 1 ?_
 refine gs (gx hA 2 ?_)
 refine go_cond rfl (fun c6 => ?_) (fun c6 => ?_)
 ·
  have ec6 : a6 < 0 := lss_t hA c6
  refine gx hA 1 ?_
  refine go_ret ⟨_, by cbv, ?_⟩
  show _ = (PV.int .i64 (-1))
  show PV.int _ _ = PV.int _ _
  refine congrArg (PV.int .i64) ?_
  simp only [zsServer]
  rw [chain_sub a7 ec3]
  exact chain_subN (by omega) b2 ec6
 have ec6 : 0 ≤ a6 := lss_f hA c6
 refine gk (gx hA 2 ?_)
 refine go_ret ⟨_, by cbv, ?_⟩
 show _ = (PV.int .i64 a6)
 show PV.int _ _ = PV.int _ _
 refine congrArg (PV.int .i64) ?_
 simp only [zsServer]
 rw [chain_sub a7 ec3]
 rw [chain_sub b2 ec6]
 rfl
end Go.Av
