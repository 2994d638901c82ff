/- Walks: sz of servers. -/
import Derived.Test.YtjbokkoiicoahaaGreatTy
namespace Go.Av
open Go Go.Proofs
set_option maxRecDepth 100000
set_option maxHeartbeats 4000000
set_option linter.unusedVariables false
set_option linter.unusedSimpArgs false
def S139_1 (p0 : RR) (p1 : Int) (p2 : Int) : St := { sl := [.sl 1 p0, .int .i64 p1, .bad, .bad, .bad, .int .i64 p2, .bad, .bad, .bad, .bad, .bad, .bad, .bad, .bad, .bad, .bad, .bad, .bad, .bad, .bad, .bad, .bad, .bad, .bad, .bad, .bad, .bad, .bad], bl := [] }
theorem r_laws_szStringS (A : Alg) (hA : A = std) (xs : List ByteArray) (n : Int) (h1 : 0 ≤ n) (h2 : n ≤ 1048576) (hk : ∀ k ∈ zsStringS xs, (k : Int) ≤ 9223372036854775807) : Real Tryz.prog 139 [.sl 1 (List.map eString xs), .int .i64 n] (.int .i64 (chain n (zsStringS xs))) := by
 obtain ⟨a0, a5⟩ := nm (xs.map eString)
 have d1 := rlen_map hA a5
 refine real_args (args' := [.sl 1 a0, .int .i64 n]) (by subst a5; rfl) ?_
 have hlen : (List.length xs : Int) ≤ 9223372036854775807 := hk _ (by simp [zsStringS])
 refine real tyOk Tryz.func139 (by kernel_rfl) (afun_of rfl ?_)
 refine gs (gr (ra hA 1 (by cbv) (od ?_)))
 refine gs (gr (ra hA 5 (by cbv) (od ?_)))
 refine gs (gs ?_)
 have w0 : A.num .sub .i64 n (A.rlen a0) = n - (List.length xs : Int) := by
  rw [d1]; exact sub_i64 hA (by omega) (by omega)
 refine gr (ra hA 2 (by cbv) (od ?_))
 refine go_cond rfl (fun c1 => ?_) (fun c1 => ?_)
 ·
  have ec1 : (A.num .sub .i64 n (A.rlen a0)) < 0 := lss_t hA c1
  refine gs (gr (ra hA 1 (by cbv) (od ?_)))
  refine go_ret ⟨_, by cbv, ?_⟩
  show _ = (PV.int .i64 (-1))
  refine congrArg (PV.int .i64) ?_
  rw [zsStringS, chain_cons, if_pos (by omega)]
 ·
  have ec1 : 0 ≤ (A.num .sub .i64 n (A.rlen a0)) := lss_f hA c1
  refine gk (gs (gs (gr (ra hA 1 (by cbv) (od ?_)))))
  refine go_block ?_
  refine go_loopE (fun σ m => ∃ (i : Nat) (L : Int) (n5 : Int), σ = (S139_1 a0 L n5) ∧ (n5 = (i : Int) ∧ i ≤ List.length xs ∧ 0 ≤ L ∧ L ≤ 1048576 ∧ L = chain (n - (List.length xs : Int)) ((xs.take i).flatMap zsString)) ∧ m = List.length xs - i) _ [] [0, 1, 5] [] (S139_1 a0 (A.num .sub .i64 n (A.rlen a0)) 0) rfl (by cbv) ⟨0, (A.num .sub .i64 n (A.rlen a0)), 0, rfl, ?_, rfl⟩ (fun σ m hI => ?_)
  ·
   exact ⟨rfl, Nat.zero_le _, by omega, by omega, w0⟩
  obtain ⟨i, L, n5, rfl, ⟨hn5, hi, hL0, hL1, hL⟩, rfl⟩ := hI
  refine gs (gs (gr (ra hA 4 (by cbv) (od ?_))))
  refine go_cond rfl (fun c2 => ?_) (fun c2 => ?_)
  ·
   have ec2 : n5 < (A.rlen a0) := lss_t hA c2
   refine gk (gs ?_)
   refine go_block ?_
   refine gs (gr (ra hA 3 (by cbv) ?_))
   have m3 : (0 : Int) ≤ n5 := by
    omega
   have n1 : (Int.toNat n5) < List.length xs := by
    omega
   obtain ⟨x3, hx3⟩ : ∃ x, (xs)[(Int.toNat n5)]? = some x := ⟨_, List.getElem?_eq_getElem n1⟩
   have m7 := List.mem_of_getElem? hx3
   have m9 : a0[(Int.toNat n5)]? = some [.str x3] := by
    exact map_at eString a5 hx3
   have e3 : xs[i]? = some x3 := by
    have h := hx3; rw [hn5] at h; exact h
   have hkx := fun (k : Nat) h => hk k (List.mem_cons_of_mem _ (List.mem_flatMap.2 ⟨_, m7, h⟩))
   refine ops_step rfl rfl (idx_sl rfl rfl rfl rfl rfl m3 rfl m9) ?_
   refine ra hA 4 (by cbv) (od ?_)
   refine gs ?_
   have hb1 : ((ByteArray.size x3 : Nat) : Int) ≤ 9223372036854775807 := hkx _ (by simp [zsString])
   have w1 : (A.num .sub .i64 L (A.slen x3)) = L - (ByteArray.size x3 : Int) := by
    rw [slen_eq hA x3]; exact sub_i64 hA (by omega) (by omega)
   refine gr (ra hA 2 (by cbv) (od ?_))
   refine go_cond rfl (fun c4 => ?_) (fun c4 => ?_)
   ·
    have ec4 : (A.num .sub .i64 L (A.slen x3)) < 0 := lss_t hA c4
    refine gs (gr (ra hA 1 (by cbv) (od ?_)))
    refine go_ret ⟨_, by cbv, ?_⟩
    show _ = (PV.int .i64 (-1))
    refine congrArg (PV.int .i64) ?_
    rw [zsStringS, chain_cons, if_neg (by omega), flat_split zsString xs (i + 1), take_flat zsString xs e3, List.append_assoc, chain_sub hL hL0]
    exact chain_strN w1 ec4
   ·
    have ec4 : 0 ≤ (A.num .sub .i64 L (A.slen x3)) := lss_f hA c4
    refine gk (gr (ra hA 3 (by cbv) (od ?_)))
    refine ⟨(S139_1 a0 (A.num .sub .i64 L (A.slen x3)) (A.num .add .i64 n5 1)), List.length xs - (i + 1), ?_, by cbv, i + 1, (A.num .sub .i64 L (A.slen x3)), (A.num .add .i64 n5 1), rfl, ?_, rfl⟩
    ·
     omega
    ·
     refine ⟨by rw [add_i64 hA (by omega) (by omega)]; omega, by omega, by omega, by omega, ?_⟩
     rw [take_flat zsString xs e3, chain_sub hL hL0]
     exact (chain_str (l := []) w1 ec4).symm
  ·
   have ec2 : (A.rlen a0) ≤ n5 := lss_f hA c2
   refine go_exit ⟨fun _ => ?_, fun h => absurd rfl h⟩
   refine gs (gr (ra hA 2 (by cbv) (od ?_)))
   refine go_ret ⟨_, by cbv, ?_⟩
   show _ = (PV.int .i64 L)
   refine congrArg (PV.int .i64) ?_
   rw [zsStringS, chain_cons, if_neg (by omega), hL, List.take_of_length_le (by omega)]
theorem r_laws_szWrite (A : Alg) (hA : A = std) (x : GWrite) (n : Int) (h1 : 0 ≤ n) (h2 : n ≤ 1048576) (hk : ∀ k ∈ zsWrite x, (k : Int) ≤ 9223372036854775807) : Real Tryz.prog 178 [.agg (eWrite x), .int .i64 n] (.int .i64 (chain n (zsWrite x))) := by
 obtain ⟨z8, a4⟩ := x
 refine real_args (args' := [.agg [.int .i64 z8, .str a4], .int .i64 n]) (by rfl) ?_
 have hk0 : (ByteArray.size a4 : Int) ≤ 9223372036854775807 := hk _ (by simp [zsWrite])
 refine real tyOk Tryz.func178 (by kernel_rfl) (afun_of rfl ?_)
 refine gs (gr (ra hA 2 (by cbv) (od ?_)))
 refine gs (gr (ra hA 6 (by cbv) (od ?_)))
 refine gs (gs ?_)
 have w0 : (A.num .sub .i64 n (A.slen a4)) = n - (ByteArray.size a4 : Int) := by
  rw [slen_eq hA a4]; exact sub_i64 hA (by omega) (by omega)
 refine gr (ra hA 2 (by cbv) (od ?_))
 refine go_cond rfl (fun c1 => ?_) (fun c1 => ?_)
 ·
  have ec1 : (A.num .sub .i64 n (A.slen a4)) < 0 := lss_t hA c1
  refine gs (gr (ra hA 1 (by cbv) (od ?_)))
  refine go_ret ⟨_, by cbv, ?_⟩
  show _ = (PV.int .i64 (-1))
  show PV.int _ _ = PV.int _ _
  refine congrArg (PV.int .i64) ?_
  simp only [zsWrite]
  exact chain_strN w0 ec1
 ·
  have ec1 : 0 ≤ (A.num .sub .i64 n (A.slen a4)) := lss_f hA c1
  refine gk (gs (gr (ra hA 2 (by cbv) (od ?_))))
  refine go_ret ⟨_, by cbv, ?_⟩
  show _ = (PV.int .i64 (A.num .sub .i64 n (A.slen a4)))
  show PV.int _ _ = PV.int _ _
  refine congrArg (PV.int .i64) ?_
  simp only [zsWrite]
  rw [chain_str w0 ec1]
  rfl
def S140_1 (p0 : RR) (p1 : Int) (p2 : Int) : St := { sl := [.sl 2 p0, .int .i64 p1, .bad, .bad, .bad, .int .i64 p2, .bad, .bad, .bad, .bad, .bad, .bad, .bad, .bad, .bad, .bad, .bad, .bad, .bad, .bad, .bad, .bad, .bad, .bad, .bad, .bad, .bad], bl := [] }
theorem r_laws_szWriteS (A : Alg) (hA : A = std) (xs : List GWrite) (n : Int) (h1 : 0 ≤ n) (h2 : n ≤ 1048576) (hk : ∀ k ∈ zsWriteS xs, (k : Int) ≤ 9223372036854775807) : Real Tryz.prog 140 [.sl 2 (List.map eWrite xs), .int .i64 n] (.int .i64 (chain n (zsWriteS xs))) := by
 obtain ⟨a0, a5⟩ := nm (xs.map eWrite)
 have d1 := rlen_map hA a5
 refine real_args (args' := [.sl 2 a0, .int .i64 n]) (by subst a5; rfl) ?_
 have hlen : (List.length xs : Int) ≤ 9223372036854775807 := hk _ (by simp [zsWriteS])
 refine real tyOk Tryz.func140 (by kernel_rfl) (afun_of rfl ?_)
 refine gs (gr (ra hA 1 (by cbv) (od ?_)))
 refine gs (gr (ra hA 5 (by cbv) (od ?_)))
 refine gs (gs ?_)
 have w0 : A.num .sub .i64 n (A.rlen a0) = n - (List.length xs : Int) := by
  rw [d1]; exact sub_i64 hA (by omega) (by omega)
 refine gr (ra hA 2 (by cbv) (od ?_))
 refine go_cond rfl (fun c1 => ?_) (fun c1 => ?_)
 ·
  have ec1 : (A.num .sub .i64 n (A.rlen a0)) < 0 := lss_t hA c1
  refine gs (gr (ra hA 1 (by cbv) (od ?_)))
  refine go_ret ⟨_, by cbv, ?_⟩
  show _ = (PV.int .i64 (-1))
  refine congrArg (PV.int .i64) ?_
  rw [zsWriteS, chain_cons, if_pos (by omega)]
 ·
  have ec1 : 0 ≤ (A.num .sub .i64 n (A.rlen a0)) := lss_f hA c1
  refine gk (gs (gs (gr (ra hA 1 (by cbv) (od ?_)))))
  refine go_block ?_
  refine go_loopE (fun σ m => ∃ (i : Nat) (L : Int) (n5 : Int), σ = (S140_1 a0 L n5) ∧ (n5 = (i : Int) ∧ i ≤ List.length xs ∧ 0 ≤ L ∧ L ≤ 1048576 ∧ L = chain (n - (List.length xs : Int)) ((xs.take i).flatMap zsWrite)) ∧ m = List.length xs - i) _ [] [0, 1, 5] [] (S140_1 a0 (A.num .sub .i64 n (A.rlen a0)) 0) rfl (by cbv) ⟨0, (A.num .sub .i64 n (A.rlen a0)), 0, rfl, ?_, rfl⟩ (fun σ m hI => ?_)
  ·
   exact ⟨rfl, Nat.zero_le _, by omega, by omega, w0⟩
  obtain ⟨i, L, n5, rfl, ⟨hn5, hi, hL0, hL1, hL⟩, rfl⟩ := hI
  refine gs (gs (gr (ra hA 4 (by cbv) (od ?_))))
  refine go_cond rfl (fun c2 => ?_) (fun c2 => ?_)
  ·
   have ec2 : n5 < (A.rlen a0) := lss_t hA c2
   refine gk (gs ?_)
   refine go_block ?_
   refine gs (gr (ra hA 2 (by cbv) ?_))
   have m3 : (0 : Int) ≤ n5 := by
    omega
   have n1 : (Int.toNat n5) < List.length xs := by
    omega
   obtain ⟨x3, hx3⟩ : ∃ x, (xs)[(Int.toNat n5)]? = some x := ⟨_, List.getElem?_eq_getElem n1⟩
   have m7 := List.mem_of_getElem? hx3
   obtain ⟨r7, c0⟩ := x3
   have m9 : a0[(Int.toNat n5)]? = some [.int .i64 r7, .str c0] := by
    exact map_at eWrite a5 hx3
   have e3 : xs[i]? = some (⟨r7, c0⟩ : GWrite) := by
    have h := hx3; rw [hn5] at h; exact h
   have hkx := fun (k : Nat) h => hk k (List.mem_cons_of_mem _ (List.mem_flatMap.2 ⟨_, m7, h⟩))
   refine ops_step rfl rfl (idx_sl rfl rfl rfl rfl rfl m3 rfl m9) ?_
   refine ra hA 2 (by cbv) ?_
   obtain ⟨a3, a8, hc5⟩ : ∃ (a3 : Int), a3 = (chain L (zsWrite (⟨r7, c0⟩ : GWrite))) ∧ Real Tryz.prog 178 [.agg [.int .i64 r7, .str c0], .int .i64 L] (.int .i64 a3) := ⟨_, rfl, by exact r_laws_szWrite A hA (⟨r7, c0⟩ : GWrite) L (by omega) (by omega) hkx⟩
   refine ops_callV rfl rfl (by cbv) (by cbv) hc5 (.inr rfl) (by cbv) ?_
   have r6 := chain_bd a8 (by omega)
   refine ra hA 1 (by cbv) (od ?_)
   refine gs ?_
   skip
   refine gr (ra hA 2 (by cbv) (od ?_))
   refine go_cond rfl (fun c6 => ?_) (fun c6 => ?_)
   ·
    have ec6 : a3 < 0 := lss_t hA c6
    refine gs (gr (ra hA 1 (by cbv) (od ?_)))
    refine go_ret ⟨_, by cbv, ?_⟩
    show _ = (PV.int .i64 (-1))
    refine congrArg (PV.int .i64) ?_
    rw [zsWriteS, chain_cons, if_neg (by omega), flat_split zsWrite xs (i + 1), take_flat zsWrite xs e3, List.append_assoc, chain_sub hL hL0]
    exact chain_subN (by omega) a8 ec6
   ·
    have ec6 : 0 ≤ a3 := lss_f hA c6
    refine gk (gr (ra hA 3 (by cbv) (od ?_)))
    refine ⟨(S140_1 a0 a3 (A.num .add .i64 n5 1)), List.length xs - (i + 1), ?_, by cbv, i + 1, a3, (A.num .add .i64 n5 1), rfl, ?_, rfl⟩
    ·
     omega
    ·
     refine ⟨by rw [add_i64 hA (by omega) (by omega)]; omega, by omega, by omega, by omega, ?_⟩
     rw [take_flat zsWrite xs e3, chain_sub hL hL0]
     exact a8
  ·
   have ec2 : (A.rlen a0) ≤ n5 := lss_f hA c2
   refine go_exit ⟨fun _ => ?_, fun h => absurd rfl h⟩
   refine gs (gr (ra hA 2 (by cbv) (od ?_)))
   refine go_ret ⟨_, by cbv, ?_⟩
   show _ = (PV.int .i64 L)
   refine congrArg (PV.int .i64) ?_
   rw [zsWriteS, chain_cons, if_neg (by omega), hL, List.take_of_length_le (by omega)]
theorem r_laws_szDisk (A : Alg) (hA : A = std) (x : GDisk) (n : Int) (h1 : 0 ≤ n) (h2 : n ≤ 1048576) (hk : ∀ k ∈ zsDisk x, (k : Int) ≤ 9223372036854775807) : Real Tryz.prog 99 [.agg (eDisk x), .int .i64 n] (.int .i64 (chain n (zsDisk x))) := by
 obtain ⟨q9, s8⟩ := x
 obtain ⟨r5, m2⟩ := nm (q9.map eString)
 have y2 := rlen_map hA m2
 obtain ⟨t3, p4⟩ := nm (s8.map eWrite)
 have y9 := rlen_map hA p4
 refine real_args (args' := [.agg [.sl 1 r5, .sl 2 t3], .int .i64 n]) (by subst m2 p4; rfl) ?_
 refine real tyOk Tryz.func99 (by kernel_rfl) (afun_of rfl ?_)
 refine gs (gr (ra hA 2 (by cbv) (od ?_)))
 refine gs (gr (ra hA 3 (by cbv) ?_))
 obtain ⟨a2, a7, hc2⟩ : ∃ (a2 : Int), a2 = (chain n (zsStringS q9)) ∧ Real Tryz.prog 139 [.sl 1 r5, .int .i64 n] (.int .i64 a2) := ⟨_, rfl, by subst m2; exact r_laws_szStringS A hA q9 n (by omega) (by omega) (fun k h => hk k (by simp only [zsDisk, List.mem_append]; simp only [h, true_or, or_true]))⟩
 refine ops_callV rfl rfl (by cbv) (by cbv) hc2 (.inr rfl) (by cbv) ?_
 have s2 := chain_bd a7 (by omega)
 refine ra hA 1 (by cbv) (od ?_)
 refine gs (gs (gr (ra hA 2 (by cbv) (od ?_))))
 refine go_cond rfl (fun c3 => ?_) (fun c3 => ?_)
 ·
  have ec3 : a2 < 0 := lss_t hA c3
  refine gs (gr (ra hA 1 (by cbv) (od ?_)))
  refine go_ret ⟨_, by cbv, ?_⟩
  show _ = (PV.int .i64 (-1))
  show PV.int _ _ = PV.int _ _
  refine congrArg (PV.int .i64) ?_
  simp only [zsDisk]
  exact chain_subN (by omega) a7 ec3
 ·
  have ec3 : 0 ≤ a2 := lss_f hA c3
  refine gk (gs (gr (ra hA 3 (by cbv) ?_)))
  obtain ⟨a6, b2, hc5⟩ : ∃ (a6 : Int), a6 = (chain a2 (zsWriteS s8)) ∧ Real Tryz.prog 140 [.sl 2 t3, .int .i64 a2] (.int .i64 a6) := ⟨_, rfl, by subst p4; exact r_laws_szWriteS A hA s8 a2 (by omega) (by omega) (fun k h => hk k (by simp only [zsDisk, List.mem_append]; simp only [h, true_or, or_true]))⟩
  refine ops_callV rfl rfl (by cbv) (by cbv) hc5 (.inr rfl) (by cbv) ?_
  have t6 := chain_bd b2 (by omega)
  refine ra hA 1 (by cbv) (od ?_)
  refine gs (gs (gr (ra hA 2 (by cbv) (od ?_))))
  refine go_cond rfl (fun c6 => ?_) (fun c6 => ?_)
  ·
   have ec6 : a6 < 0 := lss_t hA c6
   refine gs (gr (ra hA 1 (by cbv) (od ?_)))
   refine go_ret ⟨_, by cbv, ?_⟩
   show _ = (PV.int .i64 (-1))
   show PV.int _ _ = PV.int _ _
   refine congrArg (PV.int .i64) ?_
   simp only [zsDisk]
   rw [chain_sub a7 ec3]
   exact chain_subN (by omega) b2 ec6
  ·
   have ec6 : 0 ≤ a6 := lss_f hA c6
   refine gk (gs (gr (ra hA 2 (by cbv) (od ?_))))
   refine go_ret ⟨_, by cbv, ?_⟩
   show _ = (PV.int .i64 a6)
   show PV.int _ _ = PV.int _ _
   refine congrArg (PV.int .i64) ?_
   simp only [zsDisk]
   rw [chain_sub a7 ec3]
   rw [chain_sub b2 ec6]
   rfl
theorem r_laws_szRec (A : Alg) (hA : A = std) (x : GRec) (n : Int) (h1 : 0 ≤ n) (h2 : n ≤ 1048576) (hk : ∀ k ∈ zsRec x, (k : Int) ≤ 9223372036854775807) : Real Tryz.prog 207 [.agg (eRec x), .int .i64 n] (.int .i64 (chain n (zsRec x))) := by
 obtain ⟨u4, s7, u9, x7, s6, a1, d8, a4⟩ := x
 refine real_args (args' := [.agg [.int .i64 u4, .int .i64 s7, .int .i64 u9, .int .i64 x7, .int .i64 s6, .str a1, .str d8, .str a4], .int .i64 n]) (by rfl) ?_
 have hk0 : (ByteArray.size a1 : Int) ≤ 9223372036854775807 := hk _ (by simp [zsRec])
 have hk1 : (ByteArray.size d8 : Int) ≤ 9223372036854775807 := hk _ (by simp [zsRec])
 have hk2 : (ByteArray.size a4 : Int) ≤ 9223372036854775807 := hk _ (by simp [zsRec])
 refine real tyOk Tryz.func207 (by kernel_rfl) (afun_of rfl ?_)
 refine gs (gr (ra hA 2 (by cbv) (od ?_)))
 refine gs (gr (ra hA 6 (by cbv) (od ?_)))
 refine gs (gs ?_)
 have w0 : (A.num .sub .i64 n (A.slen a1)) = n - (ByteArray.size a1 : Int) := by
  rw [slen_eq hA a1]; exact sub_i64 hA (by omega) (by omega)
 refine gr (ra hA 2 (by cbv) (od ?_))
 refine go_cond rfl (fun c1 => ?_) (fun c1 => ?_)
 ·
  have ec1 : (A.num .sub .i64 n (A.slen a1)) < 0 := lss_t hA c1
  refine gs (gr (ra hA 1 (by cbv) (od ?_)))
  refine go_ret ⟨_, by cbv, ?_⟩
  show _ = (PV.int .i64 (-1))
  show PV.int _ _ = PV.int _ _
  refine congrArg (PV.int .i64) ?_
  simp only [zsRec]
  exact chain_strN w0 ec1
 ·
  have ec1 : 0 ≤ (A.num .sub .i64 n (A.slen a1)) := lss_f hA c1
  refine gk (gs (gr (ra hA 6 (by cbv) (od ?_))))
  refine gs (gs ?_)
  have w1 : (A.num .sub .i64 (A.num .sub .i64 n (A.slen a1)) (A.slen d8)) = (A.num .sub .i64 n (A.slen a1)) - (ByteArray.size d8 : Int) := by
   rw [slen_eq hA d8]; exact sub_i64 hA (by omega) (by omega)
  refine gr (ra hA 2 (by cbv) (od ?_))
  refine go_cond rfl (fun c2 => ?_) (fun c2 => ?_)
  ·
   have ec2 : (A.num .sub .i64 (A.num .sub .i64 n (A.slen a1)) (A.slen d8)) < 0 := lss_t hA c2
   refine gs (gr (ra hA 1 (by cbv) (od ?_)))
   refine go_ret ⟨_, by cbv, ?_⟩
   show _ = (PV.int .i64 (-1))
   show PV.int _ _ = PV.int _ _
   refine congrArg (PV.int .i64) ?_
   simp only [zsRec]
   rw [chain_str w0 ec1]
   exact chain_strN w1 ec2
  ·
   have ec2 : 0 ≤ (A.num .sub .i64 (A.num .sub .i64 n (A.slen a1)) (A.slen d8)) := lss_f hA c2
   refine gk (gs (gr (ra hA 6 (by cbv) (od ?_))))
   refine gs (gs ?_)
   have w2 : (A.num .sub .i64 (A.num .sub .i64 (A.num .sub .i64 n (A.slen a1)) (A.slen d8)) (A.slen a4)) = (A.num .sub .i64 (A.num .sub .i64 n (A.slen a1)) (A.slen d8)) - (ByteArray.size a4 : Int) := by
    rw [slen_eq hA a4]; exact sub_i64 hA (by omega) (by omega)
   refine gr (ra hA 2 (by cbv) (od ?_))
   refine go_cond rfl (fun c3 => ?_) (fun c3 => ?_)
   ·
    have ec3 : (A.num .sub .i64 (A.num .sub .i64 (A.num .sub .i64 n (A.slen a1)) (A.slen d8)) (A.slen a4)) < 0 := lss_t hA c3
    refine gs (gr (ra hA 1 (by cbv) (od ?_)))
    refine go_ret ⟨_, by cbv, ?_⟩
    show _ = (PV.int .i64 (-1))
    show PV.int _ _ = PV.int _ _
    refine congrArg (PV.int .i64) ?_
    simp only [zsRec]
    rw [chain_str w0 ec1]
    rw [chain_str w1 ec2]
    exact chain_strN w2 ec3
   ·
    have ec3 : 0 ≤ (A.num .sub .i64 (A.num .sub .i64 (A.num .sub .i64 n (A.slen a1)) (A.slen d8)) (A.slen a4)) := lss_f hA c3
    refine gk (gs (gr (ra hA 2 (by cbv) (od ?_))))
    refine go_ret ⟨_, by cbv, ?_⟩
    show _ = (PV.int .i64 (A.num .sub .i64 (A.num .sub .i64 (A.num .sub .i64 n (A.slen a1)) (A.slen d8)) (A.slen a4)))
    show PV.int _ _ = PV.int _ _
    refine congrArg (PV.int .i64) ?_
    simp only [zsRec]
    rw [chain_str w0 ec1]
    rw [chain_str w1 ec2]
    rw [chain_str w2 ec3]
    rfl
theorem r_laws_szItem (A : Alg) (hA : A = std) (x : GItem) (n : Int) (h1 : 0 ≤ n) (h2 : n ≤ 1048576) (hk : ∀ k ∈ zsItem x, (k : Int) ≤ 9223372036854775807) : Real Tryz.prog 193 [.agg (eItem x), .int .i64 n] (.int .i64 (chain n (zsItem x))) := by
 obtain ⟨y6, ⟨l6, k3, n6, l5, k4, l4, l9, l8⟩⟩ := x
 refine real_args (args' := [.agg [.int .i64 y6, .int .i64 l6, .int .i64 k3, .int .i64 n6, .int .i64 l5, .int .i64 k4, .str l4, .str l9, .str l8], .int .i64 n]) (by rfl) ?_
 refine real tyOk Tryz.func193 (by kernel_rfl) (afun_of rfl ?_)
 refine gs (gr (ra hA 2 (by cbv) (od ?_)))
 refine gs (gr (ra hA 3 (by cbv) ?_))
 obtain ⟨a2, a7, hc2⟩ : ∃ (a2 : Int), a2 = (chain n (zsRec (⟨l6, k3, n6, l5, k4, l4, l9, l8⟩ : GRec))) ∧ Real Tryz.prog 207 [.agg [.int .i64 l6, .int .i64 k3, .int .i64 n6, .int .i64 l5, .int .i64 k4, .str l4, .str l9, .str l8], .int .i64 n] (.int .i64 a2) := ⟨_, rfl, by exact r_laws_szRec A hA (⟨l6, k3, n6, l5, k4, l4, l9, l8⟩ : GRec) n (by omega) (by omega) (fun k h => hk k (by simp only [zsItem, List.mem_append]; simp only [h, true_or, or_true]))⟩
 refine ops_callV rfl rfl (by cbv) (by cbv) hc2 (.inr rfl) (by cbv) ?_
 have s2 := chain_bd a7 (by omega)
 refine ra hA 1 (by cbv) (od ?_)
 refine gs (gs (gr (ra hA 2 (by cbv) (od ?_))))
 refine go_cond rfl (fun c3 => ?_) (fun c3 => ?_)
 ·
  have ec3 : a2 < 0 := lss_t hA c3
  refine gs (gr (ra hA 1 (by cbv) (od ?_)))
  refine go_ret ⟨_, by cbv, ?_⟩
  show _ = (PV.int .i64 (-1))
  show PV.int _ _ = PV.int _ _
  refine congrArg (PV.int .i64) ?_
  simp only [zsItem]
  exact chain_subN (by omega) a7 ec3
 ·
  have ec3 : 0 ≤ a2 := lss_f hA c3
  refine gk (gs (gr (ra hA 2 (by cbv) (od ?_))))
  refine go_ret ⟨_, by cbv, ?_⟩
  show _ = (PV.int .i64 a2)
  show PV.int _ _ = PV.int _ _
  refine congrArg (PV.int .i64) ?_
  simp only [zsItem]
  rw [chain_sub a7 ec3]
  rfl
def S179_1 (p0 : RR) (p1 : Int) (p2 : Int) : St := { sl := [.sl 9 p0, .int .i64 p1, .bad, .bad, .bad, .int .i64 p2, .bad, .bad, .bad, .bad, .bad, .bad, .bad, .bad, .bad, .bad, .bad, .bad, .bad, .bad, .bad, .bad, .bad, .bad, .bad, .bad, .bad], bl := [] }
theorem r_laws_szItemS (A : Alg) (hA : A = std) (xs : List GItem) (n : Int) (h1 : 0 ≤ n) (h2 : n ≤ 1048576) (hk : ∀ k ∈ zsItemS xs, (k : Int) ≤ 9223372036854775807) : Real Tryz.prog 179 [.sl 9 (List.map eItem xs), .int .i64 n] (.int .i64 (chain n (zsItemS xs))) := by
 obtain ⟨a0, a5⟩ := nm (xs.map eItem)
 have d1 := rlen_map hA a5
 refine real_args (args' := [.sl 9 a0, .int .i64 n]) (by subst a5; rfl) ?_
 have hlen : (List.length xs : Int) ≤ 9223372036854775807 := hk _ (by simp [zsItemS])
 refine real tyOk Tryz.func179 (by kernel_rfl) (afun_of rfl ?_)
 refine gs (gr (ra hA 1 (by cbv) (od ?_)))
 refine gs (gr (ra hA 5 (by cbv) (od ?_)))
 refine gs (gs ?_)
 have w0 : A.num .sub .i64 n (A.rlen a0) = n - (List.length xs : Int) := by
  rw [d1]; exact sub_i64 hA (by omega) (by omega)
 refine gr (ra hA 2 (by cbv) (od ?_))
 refine go_cond rfl (fun c1 => ?_) (fun c1 => ?_)
 ·
  have ec1 : (A.num .sub .i64 n (A.rlen a0)) < 0 := lss_t hA c1
  refine gs (gr (ra hA 1 (by cbv) (od ?_)))
  refine go_ret ⟨_, by cbv, ?_⟩
  show _ = (PV.int .i64 (-1))
  refine congrArg (PV.int .i64) ?_
  rw [zsItemS, chain_cons, if_pos (by omega)]
 ·
  have ec1 : 0 ≤ (A.num .sub .i64 n (A.rlen a0)) := lss_f hA c1
  refine gk (gs (gs (gr (ra hA 1 (by cbv) (od ?_)))))
  refine go_block ?_
  refine go_loopE (fun σ m => ∃ (i : Nat) (L : Int) (n5 : Int), σ = (S179_1 a0 L n5) ∧ (n5 = (i : Int) ∧ i ≤ List.length xs ∧ 0 ≤ L ∧ L ≤ 1048576 ∧ L = chain (n - (List.length xs : Int)) ((xs.take i).flatMap zsItem)) ∧ m = List.length xs - i) _ [] [0, 1, 5] [] (S179_1 a0 (A.num .sub .i64 n (A.rlen a0)) 0) rfl (by cbv) ⟨0, (A.num .sub .i64 n (A.rlen a0)), 0, rfl, ?_, rfl⟩ (fun σ m hI => ?_)
  ·
   exact ⟨rfl, Nat.zero_le _, by omega, by omega, w0⟩
  obtain ⟨i, L, n5, rfl, ⟨hn5, hi, hL0, hL1, hL⟩, rfl⟩ := hI
  refine gs (gs (gr (ra hA 4 (by cbv) (od ?_))))
  refine go_cond rfl (fun c2 => ?_) (fun c2 => ?_)
  ·
   have ec2 : n5 < (A.rlen a0) := lss_t hA c2
   refine gk (gs ?_)
   refine go_block ?_
   refine gs (gr (ra hA 2 (by cbv) ?_))
   have m3 : (0 : Int) ≤ n5 := by
    omega
   have n1 : (Int.toNat n5) < List.length xs := by
    omega
   obtain ⟨x3, hx3⟩ : ∃ x, (xs)[(Int.toNat n5)]? = some x := ⟨_, List.getElem?_eq_getElem n1⟩
   have m7 := List.mem_of_getElem? hx3
   obtain ⟨q8, ⟨f3, e7, i6, f8, e8, f9, f6, f4⟩⟩ := x3
   have m9 : a0[(Int.toNat n5)]? = some [.int .i64 q8, .int .i64 f3, .int .i64 e7, .int .i64 i6, .int .i64 f8, .int .i64 e8, .str f9, .str f6, .str f4] := by
    exact map_at eItem a5 hx3
   have e3 : xs[i]? = some (⟨q8, ⟨f3, e7, i6, f8, e8, f9, f6, f4⟩⟩ : GItem) := by
    have h := hx3; rw [hn5] at h; exact h
   have hkx := fun (k : Nat) h => hk k (List.mem_cons_of_mem _ (List.mem_flatMap.2 ⟨_, m7, h⟩))
   refine ops_step rfl rfl (idx_sl rfl rfl rfl rfl rfl m3 rfl m9) ?_
   refine ra hA 2 (by cbv) ?_
   obtain ⟨a3, a8, hc5⟩ : ∃ (a3 : Int), a3 = (chain L (zsItem (⟨q8, ⟨f3, e7, i6, f8, e8, f9, f6, f4⟩⟩ : GItem))) ∧ Real Tryz.prog 193 [.agg [.int .i64 q8, .int .i64 f3, .int .i64 e7, .int .i64 i6, .int .i64 f8, .int .i64 e8, .str f9, .str f6, .str f4], .int .i64 L] (.int .i64 a3) := ⟨_, rfl, by exact r_laws_szItem A hA (⟨q8, ⟨f3, e7, i6, f8, e8, f9, f6, f4⟩⟩ : GItem) L (by omega) (by omega) hkx⟩
   refine ops_callV rfl rfl (by cbv) (by cbv) hc5 (.inr rfl) (by cbv) ?_
   have r6 := chain_bd a8 (by omega)
   refine ra hA 1 (by cbv) (od ?_)
   refine gs ?_
   skip
   refine gr (ra hA 2 (by cbv) (od ?_))
   refine go_cond rfl (fun c6 => ?_) (fun c6 => ?_)
   ·
    have ec6 : a3 < 0 := lss_t hA c6
    refine gs (gr (ra hA 1 (by cbv) (od ?_)))
    refine go_ret ⟨_, by cbv, ?_⟩
    show _ = (PV.int .i64 (-1))
    refine congrArg (PV.int .i64) ?_
    rw [zsItemS, chain_cons, if_neg (by omega), flat_split zsItem xs (i + 1), take_flat zsItem xs e3, List.append_assoc, chain_sub hL hL0]
    exact chain_subN (by omega) a8 ec6
   ·
    have ec6 : 0 ≤ a3 := lss_f hA c6
    refine gk (gr (ra hA 3 (by cbv) (od ?_)))
    refine ⟨(S179_1 a0 a3 (A.num .add .i64 n5 1)), List.length xs - (i + 1), ?_, by cbv, i + 1, a3, (A.num .add .i64 n5 1), rfl, ?_, rfl⟩
    ·
     omega
    ·
     refine ⟨by rw [add_i64 hA (by omega) (by omega)]; omega, by omega, by omega, by omega, ?_⟩
     rw [take_flat zsItem xs e3, chain_sub hL hL0]
     exact a8
  ·
   have ec2 : (A.rlen a0) ≤ n5 := lss_f hA c2
   refine go_exit ⟨fun _ => ?_, fun h => absurd rfl h⟩
   refine gs (gr (ra hA 2 (by cbv) (od ?_)))
   refine go_ret ⟨_, by cbv, ?_⟩
   show _ = (PV.int .i64 L)
   refine congrArg (PV.int .i64) ?_
   rw [zsItemS, chain_cons, if_neg (by omega), hL, List.take_of_length_le (by omega)]
theorem r_laws_szSeg (A : Alg) (hA : A = std) (x : GSeg) (n : Int) (h1 : 0 ≤ n) (h2 : n ≤ 1048576) (hk : ∀ k ∈ zsSeg x, (k : Int) ≤ 9223372036854775807) : Real Tryz.prog 141 [.agg (eSeg x), .int .i64 n] (.int .i64 (chain n (zsSeg x))) := by
 obtain ⟨z7, y8, z0, s9⟩ := x
 obtain ⟨t4, o8⟩ := nm (s9.map eItem)
 have y7 := rlen_map hA o8
 refine real_args (args' := [.agg [.int .i64 z7, .int .i64 y8, .int .i64 z0, .sl 9 t4], .int .i64 n]) (by subst o8; rfl) ?_
 refine real tyOk Tryz.func141 (by kernel_rfl) (afun_of rfl ?_)
 refine gs (gr (ra hA 2 (by cbv) (od ?_)))
 refine gs (gr (ra hA 3 (by cbv) ?_))
 obtain ⟨a2, a7, hc2⟩ : ∃ (a2 : Int), a2 = (chain n (zsItemS s9)) ∧ Real Tryz.prog 179 [.sl 9 t4, .int .i64 n] (.int .i64 a2) := ⟨_, rfl, by subst o8; exact r_laws_szItemS A hA s9 n (by omega) (by omega) (fun k h => hk k (by simp only [zsSeg, List.mem_append]; simp only [h, true_or, or_true]))⟩
 refine ops_callV rfl rfl (by cbv) (by cbv) hc2 (.inr rfl) (by cbv) ?_
 have s2 := chain_bd a7 (by omega)
 refine ra hA 1 (by cbv) (od ?_)
 refine gs (gs (gr (ra hA 2 (by cbv) (od ?_))))
 refine go_cond rfl (fun c3 => ?_) (fun c3 => ?_)
 ·
  have ec3 : a2 < 0 := lss_t hA c3
  refine gs (gr (ra hA 1 (by cbv) (od ?_)))
  refine go_ret ⟨_, by cbv, ?_⟩
  show _ = (PV.int .i64 (-1))
  show PV.int _ _ = PV.int _ _
  refine congrArg (PV.int .i64) ?_
  simp only [zsSeg]
  exact chain_subN (by omega) a7 ec3
 ·
  have ec3 : 0 ≤ a2 := lss_f hA c3
  refine gk (gs (gr (ra hA 2 (by cbv) (od ?_))))
  refine go_ret ⟨_, by cbv, ?_⟩
  show _ = (PV.int .i64 a2)
  show PV.int _ _ = PV.int _ _
  refine congrArg (PV.int .i64) ?_
  simp only [zsSeg]
  rw [chain_sub a7 ec3]
  rfl
def S100_1 (p0 : RR) (p1 : Int) (p2 : Int) : St := { sl := [.sl 4 p0, .int .i64 p1, .bad, .bad, .bad, .int .i64 p2, .bad, .bad, .bad, .bad, .bad, .bad, .bad, .bad, .bad, .bad, .bad, .bad, .bad, .bad, .bad, .bad, .bad, .bad, .bad, .bad, .bad], bl := [] }
theorem r_laws_szSegS (A : Alg) (hA : A = std) (xs : List GSeg) (n : Int) (h1 : 0 ≤ n) (h2 : n ≤ 1048576) (hk : ∀ k ∈ zsSegS xs, (k : Int) ≤ 9223372036854775807) : Real Tryz.prog 100 [.sl 4 (List.map eSeg xs), .int .i64 n] (.int .i64 (chain n (zsSegS xs))) := by
 obtain ⟨a0, a5⟩ := nm (xs.map eSeg)
 have d1 := rlen_map hA a5
 refine real_args (args' := [.sl 4 a0, .int .i64 n]) (by subst a5; rfl) ?_
 have hlen : (List.length xs : Int) ≤ 9223372036854775807 := hk _ (by simp [zsSegS])
 refine real tyOk Tryz.func100 (by kernel_rfl) (afun_of rfl ?_)
 refine gs (gr (ra hA 1 (by cbv) (od ?_)))
 refine gs (gr (ra hA 5 (by cbv) (od ?_)))
 refine gs (gs ?_)
 have w0 : A.num .sub .i64 n (A.rlen a0) = n - (List.length xs : Int) := by
  rw [d1]; exact sub_i64 hA (by omega) (by omega)
 refine gr (ra hA 2 (by cbv) (od ?_))
 refine go_cond rfl (fun c1 => ?_) (fun c1 => ?_)
 ·
  have ec1 : (A.num .sub .i64 n (A.rlen a0)) < 0 := lss_t hA c1
  refine gs (gr (ra hA 1 (by cbv) (od ?_)))
  refine go_ret ⟨_, by cbv, ?_⟩
  show _ = (PV.int .i64 (-1))
  refine congrArg (PV.int .i64) ?_
  rw [zsSegS, chain_cons, if_pos (by omega)]
 ·
  have ec1 : 0 ≤ (A.num .sub .i64 n (A.rlen a0)) := lss_f hA c1
  refine gk (gs (gs (gr (ra hA 1 (by cbv) (od ?_)))))
  refine go_block ?_
  refine go_loopE (fun σ m => ∃ (i : Nat) (L : Int) (n5 : Int), σ = (S100_1 a0 L n5) ∧ (n5 = (i : Int) ∧ i ≤ List.length xs ∧ 0 ≤ L ∧ L ≤ 1048576 ∧ L = chain (n - (List.length xs : Int)) ((xs.take i).flatMap zsSeg)) ∧ m = List.length xs - i) _ [] [0, 1, 5] [] (S100_1 a0 (A.num .sub .i64 n (A.rlen a0)) 0) rfl (by cbv) ⟨0, (A.num .sub .i64 n (A.rlen a0)), 0, rfl, ?_, rfl⟩ (fun σ m hI => ?_)
  ·
   exact ⟨rfl, Nat.zero_le _, by omega, by omega, w0⟩
  obtain ⟨i, L, n5, rfl, ⟨hn5, hi, hL0, hL1, hL⟩, rfl⟩ := hI
  refine gs (gs (gr (ra hA 4 (by cbv) (od ?_))))
  refine go_cond rfl (fun c2 => ?_) (fun c2 => ?_)
  ·
   have ec2 : n5 < (A.rlen a0) := lss_t hA c2
   refine gk (gs ?_)
   refine go_block ?_
   refine gs (gr (ra hA 2 (by cbv) ?_))
   have m3 : (0 : Int) ≤ n5 := by
    omega
   have n1 : (Int.toNat n5) < List.length xs := by
    omega
   obtain ⟨x3, hx3⟩ : ∃ x, (xs)[(Int.toNat n5)]? = some x := ⟨_, List.getElem?_eq_getElem n1⟩
   have m7 := List.mem_of_getElem? hx3
   obtain ⟨r9, q1, q3, o9⟩ := x3
   obtain ⟨s0, o0⟩ := nm (o9.map eItem)
   have y4 := rlen_map hA o0
   have m9 : a0[(Int.toNat n5)]? = some [.int .i64 r9, .int .i64 q1, .int .i64 q3, .sl 9 s0] := by
    subst o0; exact map_at eSeg a5 hx3
   have e3 : xs[i]? = some (⟨r9, q1, q3, o9⟩ : GSeg) := by
    have h := hx3; rw [hn5] at h; exact h
   have hkx := fun (k : Nat) h => hk k (List.mem_cons_of_mem _ (List.mem_flatMap.2 ⟨_, m7, h⟩))
   refine ops_step rfl rfl (idx_sl rfl rfl rfl rfl rfl m3 rfl m9) ?_
   refine ra hA 2 (by cbv) ?_
   obtain ⟨a3, a8, hc5⟩ : ∃ (a3 : Int), a3 = (chain L (zsSeg (⟨r9, q1, q3, o9⟩ : GSeg))) ∧ Real Tryz.prog 141 [.agg [.int .i64 r9, .int .i64 q1, .int .i64 q3, .sl 9 s0], .int .i64 L] (.int .i64 a3) := ⟨_, rfl, by subst o0; exact r_laws_szSeg A hA (⟨r9, q1, q3, o9⟩ : GSeg) L (by omega) (by omega) hkx⟩
   refine ops_callV rfl rfl (by cbv) (by cbv) hc5 (.inr rfl) (by cbv) ?_
   have r6 := chain_bd a8 (by omega)
   refine ra hA 1 (by cbv) (od ?_)
   refine gs ?_
   skip
   refine gr (ra hA 2 (by cbv) (od ?_))
   refine go_cond rfl (fun c6 => ?_) (fun c6 => ?_)
   ·
    have ec6 : a3 < 0 := lss_t hA c6
    refine gs (gr (ra hA 1 (by cbv) (od ?_)))
    refine go_ret ⟨_, by cbv, ?_⟩
    show _ = (PV.int .i64 (-1))
    refine congrArg (PV.int .i64) ?_
    rw [zsSegS, chain_cons, if_neg (by omega), flat_split zsSeg xs (i + 1), take_flat zsSeg xs e3, List.append_assoc, chain_sub hL hL0]
    exact chain_subN (by omega) a8 ec6
   ·
    have ec6 : 0 ≤ a3 := lss_f hA c6
    refine gk (gr (ra hA 3 (by cbv) (od ?_)))
    refine ⟨(S100_1 a0 a3 (A.num .add .i64 n5 1)), List.length xs - (i + 1), ?_, by cbv, i + 1, a3, (A.num .add .i64 n5 1), rfl, ?_, rfl⟩
    ·
     omega
    ·
     refine ⟨by rw [add_i64 hA (by omega) (by omega)]; omega, by omega, by omega, by omega, ?_⟩
     rw [take_flat zsSeg xs e3, chain_sub hL hL0]
     exact a8
  ·
   have ec2 : (A.rlen a0) ≤ n5 := lss_f hA c2
   refine go_exit ⟨fun _ => ?_, fun h => absurd rfl h⟩
   refine gs (gr (ra hA 2 (by cbv) (od ?_)))
   refine go_ret ⟨_, by cbv, ?_⟩
   show _ = (PV.int .i64 L)
   refine congrArg (PV.int .i64) ?_
   rw [zsSegS, chain_cons, if_neg (by omega), hL, List.take_of_length_le (by omega)]
theorem r_laws_szLog (A : Alg) (hA : A = std) (x : GLog) (n : Int) (h1 : 0 ≤ n) (h2 : n ≤ 1048576) (hk : ∀ k ∈ zsLog x, (k : Int) ≤ 9223372036854775807) : Real Tryz.prog 55 [.agg (eLog x), .int .i64 n] (.int .i64 (chain n (zsLog x))) := by
 obtain ⟨⟨j8, m6⟩, y3, t7, v3, v4, x1, u7⟩ := x
 obtain ⟨m4, f2⟩ := nm (j8.map eString)
 have v5 := rlen_map hA f2
 obtain ⟨o4, j3⟩ := nm (m6.map eWrite)
 have w9 := rlen_map hA j3
 obtain ⟨u3, r0⟩ := nm (t7.map eSeg)
 have z2 := rlen_map hA r0
 refine real_args (args' := [.agg [.sl 1 m4, .sl 2 o4, .int .i64 y3, .sl 4 u3, .int .i64 v3, .int .i64 v4, .int .i64 x1, .int .i64 u7], .int .i64 n]) (by subst f2 j3 r0; rfl) ?_
 refine real tyOk Tryz.func55 (by kernel_rfl) (afun_of rfl ?_)
 refine gs (gr (ra hA 2 (by cbv) (od ?_)))
 refine gs (gr (ra hA 3 (by cbv) ?_))
 obtain ⟨a2, a7, hc2⟩ : ∃ (a2 : Int), a2 = (chain n (zsDisk (⟨j8, m6⟩ : GDisk))) ∧ Real Tryz.prog 99 [.agg [.sl 1 m4, .sl 2 o4], .int .i64 n] (.int .i64 a2) := ⟨_, rfl, by subst f2 j3; exact r_laws_szDisk A hA (⟨j8, m6⟩ : GDisk) n (by omega) (by omega) (fun k h => hk k (by simp only [zsLog, List.mem_append]; simp only [h, true_or, or_true]))⟩
 refine ops_callV rfl rfl (by cbv) (by cbv) hc2 (.inr rfl) (by cbv) ?_
 have s2 := chain_bd a7 (by omega)
 refine ra hA 1 (by cbv) (od ?_)
 refine gs (gs (gr (ra hA 2 (by cbv) (od ?_))))
 refine go_cond rfl (fun c3 => ?_) (fun c3 => ?_)
 ·
  have ec3 : a2 < 0 := lss_t hA c3
  refine gs (gr (ra hA 1 (by cbv) (od ?_)))
  refine go_ret ⟨_, by cbv, ?_⟩
  show _ = (PV.int .i64 (-1))
  show PV.int _ _ = PV.int _ _
  refine congrArg (PV.int .i64) ?_
  simp only [zsLog]
  exact chain_subN (by omega) a7 ec3
 ·
  have ec3 : 0 ≤ a2 := lss_f hA c3
  refine gk (gs (gr (ra hA 3 (by cbv) ?_)))
  obtain ⟨a6, b2, hc5⟩ : ∃ (a6 : Int), a6 = (chain a2 (zsSegS t7)) ∧ Real Tryz.prog 100 [.sl 4 u3, .int .i64 a2] (.int .i64 a6) := ⟨_, rfl, by subst r0; exact r_laws_szSegS A hA t7 a2 (by omega) (by omega) (fun k h => hk k (by simp only [zsLog, List.mem_append]; simp only [h, true_or, or_true]))⟩
  refine ops_callV rfl rfl (by cbv) (by cbv) hc5 (.inr rfl) (by cbv) ?_
  have t6 := chain_bd b2 (by omega)
  refine ra hA 1 (by cbv) (od ?_)
  refine gs (gs (gr (ra hA 2 (by cbv) (od ?_))))
  refine go_cond rfl (fun c6 => ?_) (fun c6 => ?_)
  ·
   have ec6 : a6 < 0 := lss_t hA c6
   refine gs (gr (ra hA 1 (by cbv) (od ?_)))
   refine go_ret ⟨_, by cbv, ?_⟩
   show _ = (PV.int .i64 (-1))
   show PV.int _ _ = PV.int _ _
   refine congrArg (PV.int .i64) ?_
   simp only [zsLog]
   rw [chain_sub a7 ec3]
   exact chain_subN (by omega) b2 ec6
  ·
   have ec6 : 0 ≤ a6 := lss_f hA c6
   refine gk (gs (gr (ra hA 2 (by cbv) (od ?_))))
   refine go_ret ⟨_, by cbv, ?_⟩
   show _ = (PV.int .i64 a6)
   show PV.int _ _ = PV.int _ _
   refine congrArg (PV.int .i64) ?_
   simp only [zsLog]
   rw [chain_sub a7 ec3]
   rw [chain_sub b2 ec6]
   rfl
theorem r_laws_szIntS (A : Alg) (hA : A = std) (xs : List Int) (n : Int) (h1 : 0 ≤ n) (h2 : n ≤ 1048576) (hk : ∀ k ∈ zsIntS xs, (k : Int) ≤ 9223372036854775807) : Real Tryz.prog 56 [.sl 1 (List.map eInt xs), .int .i64 n] (.int .i64 (chain n (zsIntS xs))) := by
 obtain ⟨a0, a5⟩ := nm (xs.map eInt)
 have d1 := rlen_map hA a5
 refine real_args (args' := [.sl 1 a0, .int .i64 n]) (by subst a5; rfl) ?_
 have hlen : (List.length xs : Int) ≤ 9223372036854775807 := hk _ (by simp [zsIntS])
 refine real tyOk Tryz.func56 (by kernel_rfl) (afun_of rfl ?_)
 refine gs (gr (ra hA 1 (by cbv) (od ?_)))
 refine gs (gr (ra hA 5 (by cbv) (od ?_)))
 refine gs (gs ?_)
 have w0 : A.num .sub .i64 n (A.rlen a0) = n - (List.length xs : Int) := by
  rw [d1]; exact sub_i64 hA (by omega) (by omega)
 refine gr (ra hA 2 (by cbv) (od ?_))
 refine go_cond rfl (fun c1 => ?_) (fun c1 => ?_)
 ·
  have ec1 : (A.num .sub .i64 n (A.rlen a0)) < 0 := lss_t hA c1
  refine gs (gr (ra hA 1 (by cbv) (od ?_)))
  refine go_ret ⟨_, by cbv, ?_⟩
  show _ = (PV.int .i64 (-1))
  refine congrArg (PV.int .i64) ?_
  rw [zsIntS, chain_cons, if_pos (by omega)]
 ·
  have ec1 : 0 ≤ (A.num .sub .i64 n (A.rlen a0)) := lss_f hA c1
  refine gk (gs (gr (ra hA 2 (by cbv) (od ?_))))
  refine go_ret ⟨_, by cbv, ?_⟩
  show _ = (PV.int .i64 (A.num .sub .i64 n (A.rlen a0)))
  refine congrArg (PV.int .i64) ?_
  rw [zsIntS, chain_cons, if_neg (by omega), w0]; rfl
theorem r_laws_szStore (A : Alg) (hA : A = std) (x : GStore) (n : Int) (h1 : 0 ≤ n) (h2 : n ≤ 1048576) (hk : ∀ k ∈ zsStore x, (k : Int) ≤ 9223372036854775807) : Real Tryz.prog 25 [.agg (eStore x), .int .i64 n] (.int .i64 (chain n (zsStore x))) := by
 obtain ⟨⟨⟨e4, g9⟩, l3, p3, g2, g5, k0, e2⟩, s5⟩ := x
 obtain ⟨i7, d0⟩ := nm (e4.map eString)
 have u8 := rlen_map hA d0
 obtain ⟨k6, e1⟩ := nm (g9.map eWrite)
 have v0 := rlen_map hA e1
 obtain ⟨q4, l0⟩ := nm (p3.map eSeg)
 have x5 := rlen_map hA l0
 obtain ⟨t2, p8⟩ := nm (s5.map eInt)
 have y5 := rlen_map hA p8
 refine real_args (args' := [.agg [.sl 1 i7, .sl 2 k6, .int .i64 l3, .sl 4 q4, .int .i64 g2, .int .i64 g5, .int .i64 k0, .int .i64 e2, .sl 1 t2], .int .i64 n]) (by subst d0 e1 l0 p8; rfl) ?_
 refine real tyOk Tryz.func25 (by kernel_rfl) (afun_of rfl ?_)
 refine gs (gr (ra hA 2 (by cbv) (od ?_)))
 refine gs (gr (ra hA 3 (by cbv) ?_))
 obtain ⟨a2, a7, hc2⟩ : ∃ (a2 : Int), a2 = (chain n (zsLog (⟨⟨e4, g9⟩, l3, p3, g2, g5, k0, e2⟩ : GLog))) ∧ Real Tryz.prog 55 [.agg [.sl 1 i7, .sl 2 k6, .int .i64 l3, .sl 4 q4, .int .i64 g2, .int .i64 g5, .int .i64 k0, .int .i64 e2], .int .i64 n] (.int .i64 a2) := ⟨_, rfl, by subst d0 e1 l0; exact r_laws_szLog A hA (⟨⟨e4, g9⟩, l3, p3, g2, g5, k0, e2⟩ : GLog) n (by omega) (by omega) (fun k h => hk k (by simp only [zsStore, List.mem_append]; simp only [h, true_or, or_true]))⟩
 refine ops_callV rfl rfl (by cbv) (by cbv) hc2 (.inr rfl) (by cbv) ?_
 have s2 := chain_bd a7 (by omega)
 refine ra hA 1 (by cbv) (od ?_)
 refine gs (gs (gr (ra hA 2 (by cbv) (od ?_))))
 refine go_cond rfl (fun c3 => ?_) (fun c3 => ?_)
 ·
  have ec3 : a2 < 0 := lss_t hA c3
  refine gs (gr (ra hA 1 (by cbv) (od ?_)))
  refine go_ret ⟨_, by cbv, ?_⟩
  show _ = (PV.int .i64 (-1))
  show PV.int _ _ = PV.int _ _
  refine congrArg (PV.int .i64) ?_
  simp only [zsStore]
  exact chain_subN (by omega) a7 ec3
 ·
  have ec3 : 0 ≤ a2 := lss_f hA c3
  refine gk (gs (gr (ra hA 3 (by cbv) ?_)))
  obtain ⟨a6, b2, hc5⟩ : ∃ (a6 : Int), a6 = (chain a2 (zsIntS s5)) ∧ Real Tryz.prog 56 [.sl 1 t2, .int .i64 a2] (.int .i64 a6) := ⟨_, rfl, by subst p8; exact r_laws_szIntS A hA s5 a2 (by omega) (by omega) (fun k h => hk k (by simp only [zsStore, List.mem_append]; simp only [h, true_or, or_true]))⟩
  refine ops_callV rfl rfl (by cbv) (by cbv) hc5 (.inr rfl) (by cbv) ?_
  have t6 := chain_bd b2 (by omega)
  refine ra hA 1 (by cbv) (od ?_)
  refine gs (gs (gr (ra hA 2 (by cbv) (od ?_))))
  refine go_cond rfl (fun c6 => ?_) (fun c6 => ?_)
  ·
   have ec6 : a6 < 0 := lss_t hA c6
   refine gs (gr (ra hA 1 (by cbv) (od ?_)))
   refine go_ret ⟨_, by cbv, ?_⟩
   show _ = (PV.int .i64 (-1))
   show PV.int _ _ = PV.int _ _
   refine congrArg (PV.int .i64) ?_
   simp only [zsStore]
   rw [chain_sub a7 ec3]
   exact chain_subN (by omega) b2 ec6
  ·
   have ec6 : 0 ≤ a6 := lss_f hA c6
   refine gk (gs (gr (ra hA 2 (by cbv) (od ?_))))
   refine go_ret ⟨_, by cbv, ?_⟩
   show _ = (PV.int .i64 a6)
   show PV.int _ _ = PV.int _ _
   refine congrArg (PV.int .i64) ?_
   simp only [zsStore]
   rw [chain_sub a7 ec3]
   rw [chain_sub b2 ec6]
   rfl
theorem r_laws_szBring (A : Alg) (hA : A = std) (x : GBring) (n : Int) (h1 : 0 ≤ n) (h2 : n ≤ 1048576) (hk : ∀ k ∈ zsBring x, (k : Int) ≤ 9223372036854775807) : Real Tryz.prog 101 [.agg (eBring x), .int .i64 n] (.int .i64 (chain n (zsBring x))) := by
 obtain ⟨o1, f7, w3, t9⟩ := x
 obtain ⟨v2, s4⟩ := nm (w3.map eString)
 have z9 := rlen_map hA s4
 obtain ⟨u6, r1⟩ := nm (t9.map eString)
 have z3 := rlen_map hA r1
 refine real_args (args' := [.agg [.int .i64 o1, .str f7, .sl 1 v2, .sl 1 u6], .int .i64 n]) (by subst s4 r1; rfl) ?_
 have hk0 : (ByteArray.size f7 : Int) ≤ 9223372036854775807 := hk _ (by simp [zsBring])
 refine real tyOk Tryz.func101 (by kernel_rfl) (afun_of rfl ?_)
 refine gs (gr (ra hA 2 (by cbv) (od ?_)))
 refine gs (gr (ra hA 6 (by cbv) (od ?_)))
 refine gs (gs ?_)
 have w0 : (A.num .sub .i64 n (A.slen f7)) = n - (ByteArray.size f7 : Int) := by
  rw [slen_eq hA f7]; exact sub_i64 hA (by omega) (by omega)
 refine gr (ra hA 2 (by cbv) (od ?_))
 refine go_cond rfl (fun c1 => ?_) (fun c1 => ?_)
 ·
  have ec1 : (A.num .sub .i64 n (A.slen f7)) < 0 := lss_t hA c1
  refine gs (gr (ra hA 1 (by cbv) (od ?_)))
  refine go_ret ⟨_, by cbv, ?_⟩
  show _ = (PV.int .i64 (-1))
  show PV.int _ _ = PV.int _ _
  refine congrArg (PV.int .i64) ?_
  simp only [zsBring]
  exact chain_strN w0 ec1
 ·
  have ec1 : 0 ≤ (A.num .sub .i64 n (A.slen f7)) := lss_f hA c1
  refine gk (gs (gr (ra hA 3 (by cbv) ?_)))
  obtain ⟨b6, i2, hc3⟩ : ∃ (b6 : Int), b6 = (chain (A.num .sub .i64 n (A.slen f7)) (zsStringS w3)) ∧ Real Tryz.prog 139 [.sl 1 v2, .int .i64 (A.num .sub .i64 n (A.slen f7))] (.int .i64 b6) := ⟨_, rfl, by subst s4; exact r_laws_szStringS A hA w3 (A.num .sub .i64 n (A.slen f7)) (by omega) (by omega) (fun k h => hk k (by simp only [zsBring, List.mem_append]; simp only [h, true_or, or_true]))⟩
  refine ops_callV rfl rfl (by cbv) (by cbv) hc3 (.inr rfl) (by cbv) ?_
  have y0 := chain_bd i2 (by omega)
  refine ra hA 1 (by cbv) (od ?_)
  refine gs (gs (gr (ra hA 2 (by cbv) (od ?_))))
  refine go_cond rfl (fun c4 => ?_) (fun c4 => ?_)
  ·
   have ec4 : b6 < 0 := lss_t hA c4
   refine gs (gr (ra hA 1 (by cbv) (od ?_)))
   refine go_ret ⟨_, by cbv, ?_⟩
   show _ = (PV.int .i64 (-1))
   show PV.int _ _ = PV.int _ _
   refine congrArg (PV.int .i64) ?_
   simp only [zsBring]
   rw [chain_str w0 ec1]
   exact chain_subN (by omega) i2 ec4
  ·
   have ec4 : 0 ≤ b6 := lss_f hA c4
   refine gk (gs (gr (ra hA 3 (by cbv) ?_)))
   obtain ⟨f0, m1, hc6⟩ : ∃ (f0 : Int), f0 = (chain b6 (zsStringS t9)) ∧ Real Tryz.prog 139 [.sl 1 u6, .int .i64 b6] (.int .i64 f0) := ⟨_, rfl, by subst r1; exact r_laws_szStringS A hA t9 b6 (by omega) (by omega) (fun k h => hk k (by simp only [zsBring, List.mem_append]; simp only [h, true_or, or_true]))⟩
   refine ops_callV rfl rfl (by cbv) (by cbv) hc6 (.inr rfl) (by cbv) ?_
   have x9 := chain_bd m1 (by omega)
   refine ra hA 1 (by cbv) (od ?_)
   refine gs (gs (gr (ra hA 2 (by cbv) (od ?_))))
   refine go_cond rfl (fun c7 => ?_) (fun c7 => ?_)
   ·
    have ec7 : f0 < 0 := lss_t hA c7
    refine gs (gr (ra hA 1 (by cbv) (od ?_)))
    refine go_ret ⟨_, by cbv, ?_⟩
    show _ = (PV.int .i64 (-1))
    show PV.int _ _ = PV.int _ _
    refine congrArg (PV.int .i64) ?_
    simp only [zsBring]
    rw [chain_str w0 ec1]
    rw [chain_sub i2 ec4]
    exact chain_subN (by omega) m1 ec7
   ·
    have ec7 : 0 ≤ f0 := lss_f hA c7
    refine gk (gs (gr (ra hA 2 (by cbv) (od ?_))))
    refine go_ret ⟨_, by cbv, ?_⟩
    show _ = (PV.int .i64 f0)
    show PV.int _ _ = PV.int _ _
    refine congrArg (PV.int .i64) ?_
    simp only [zsBring]
    rw [chain_str w0 ec1]
    rw [chain_sub i2 ec4]
    rw [chain_sub m1 ec7]
    rfl
theorem r_laws_szMail (A : Alg) (hA : A = std) (x : GMail) (n : Int) (h1 : 0 ≤ n) (h2 : n ≤ 1048576) (hk : ∀ k ∈ zsMail x, (k : Int) ≤ 9223372036854775807) : Real Tryz.prog 180 [.agg (eMail x), .int .i64 n] (.int .i64 (chain n (zsMail x))) := by
 obtain ⟨u9, s6, a4⟩ := x
 refine real_args (args' := [.agg [.int .i64 u9, .int .i64 s6, .str a4], .int .i64 n]) (by rfl) ?_
 have hk0 : (ByteArray.size a4 : Int) ≤ 9223372036854775807 := hk _ (by simp [zsMail])
 refine real tyOk Tryz.func180 (by kernel_rfl) (afun_of rfl ?_)
 refine gs (gr (ra hA 2 (by cbv) (od ?_)))
 refine gs (gr (ra hA 6 (by cbv) (od ?_)))
 refine gs (gs ?_)
 have w0 : (A.num .sub .i64 n (A.slen a4)) = n - (ByteArray.size a4 : Int) := by
  rw [slen_eq hA a4]; exact sub_i64 hA (by omega) (by omega)
 refine gr (ra hA 2 (by cbv) (od ?_))
 refine go_cond rfl (fun c1 => ?_) (fun c1 => ?_)
 ·
  have ec1 : (A.num .sub .i64 n (A.slen a4)) < 0 := lss_t hA c1
  refine gs (gr (ra hA 1 (by cbv) (od ?_)))
  refine go_ret ⟨_, by cbv, ?_⟩
  show _ = (PV.int .i64 (-1))
  show PV.int _ _ = PV.int _ _
  refine congrArg (PV.int .i64) ?_
  simp only [zsMail]
  exact chain_strN w0 ec1
 ·
  have ec1 : 0 ≤ (A.num .sub .i64 n (A.slen a4)) := lss_f hA c1
  refine gk (gs (gr (ra hA 2 (by cbv) (od ?_))))
  refine go_ret ⟨_, by cbv, ?_⟩
  show _ = (PV.int .i64 (A.num .sub .i64 n (A.slen a4)))
  show PV.int _ _ = PV.int _ _
  refine congrArg (PV.int .i64) ?_
  simp only [zsMail]
  rw [chain_str w0 ec1]
  rfl
def S142_1 (p0 : RR) (p1 : Int) (p2 : Int) : St := { sl := [.sl 3 p0, .int .i64 p1, .bad, .bad, .bad, .int .i64 p2, .bad, .bad, .bad, .bad, .bad, .bad, .bad, .bad, .bad, .bad, .bad, .bad, .bad, .bad, .bad, .bad, .bad, .bad, .bad, .bad, .bad], bl := [] }
theorem r_laws_szMailS (A : Alg) (hA : A = std) (xs : List GMail) (n : Int) (h1 : 0 ≤ n) (h2 : n ≤ 1048576) (hk : ∀ k ∈ zsMailS xs, (k : Int) ≤ 9223372036854775807) : Real Tryz.prog 142 [.sl 3 (List.map eMail xs), .int .i64 n] (.int .i64 (chain n (zsMailS xs))) := by
 obtain ⟨a0, a5⟩ := nm (xs.map eMail)
 have d1 := rlen_map hA a5
 refine real_args (args' := [.sl 3 a0, .int .i64 n]) (by subst a5; rfl) ?_
 have hlen : (List.length xs : Int) ≤ 9223372036854775807 := hk _ (by simp [zsMailS])
 refine real tyOk Tryz.func142 (by kernel_rfl) (afun_of rfl ?_)
 refine gs (gr (ra hA 1 (by cbv) (od ?_)))
 refine gs (gr (ra hA 5 (by cbv) (od ?_)))
 refine gs (gs ?_)
 have w0 : A.num .sub .i64 n (A.rlen a0) = n - (List.length xs : Int) := by
  rw [d1]; exact sub_i64 hA (by omega) (by omega)
 refine gr (ra hA 2 (by cbv) (od ?_))
 refine go_cond rfl (fun c1 => ?_) (fun c1 => ?_)
 ·
  have ec1 : (A.num .sub .i64 n (A.rlen a0)) < 0 := lss_t hA c1
  refine gs (gr (ra hA 1 (by cbv) (od ?_)))
  refine go_ret ⟨_, by cbv, ?_⟩
  show _ = (PV.int .i64 (-1))
  refine congrArg (PV.int .i64) ?_
  rw [zsMailS, chain_cons, if_pos (by omega)]
 ·
  have ec1 : 0 ≤ (A.num .sub .i64 n (A.rlen a0)) := lss_f hA c1
  refine gk (gs (gs (gr (ra hA 1 (by cbv) (od ?_)))))
  refine go_block ?_
  refine go_loopE (fun σ m => ∃ (i : Nat) (L : Int) (n5 : Int), σ = (S142_1 a0 L n5) ∧ (n5 = (i : Int) ∧ i ≤ List.length xs ∧ 0 ≤ L ∧ L ≤ 1048576 ∧ L = chain (n - (List.length xs : Int)) ((xs.take i).flatMap zsMail)) ∧ m = List.length xs - i) _ [] [0, 1, 5] [] (S142_1 a0 (A.num .sub .i64 n (A.rlen a0)) 0) rfl (by cbv) ⟨0, (A.num .sub .i64 n (A.rlen a0)), 0, rfl, ?_, rfl⟩ (fun σ m hI => ?_)
  ·
   exact ⟨rfl, Nat.zero_le _, by omega, by omega, w0⟩
  obtain ⟨i, L, n5, rfl, ⟨hn5, hi, hL0, hL1, hL⟩, rfl⟩ := hI
  refine gs (gs (gr (ra hA 4 (by cbv) (od ?_))))
  refine go_cond rfl (fun c2 => ?_) (fun c2 => ?_)
  ·
   have ec2 : n5 < (A.rlen a0) := lss_t hA c2
   refine gk (gs ?_)
   refine go_block ?_
   refine gs (gr (ra hA 2 (by cbv) ?_))
   have m3 : (0 : Int) ≤ n5 := by
    omega
   have n1 : (Int.toNat n5) < List.length xs := by
    omega
   obtain ⟨x3, hx3⟩ : ∃ x, (xs)[(Int.toNat n5)]? = some x := ⟨_, List.getElem?_eq_getElem n1⟩
   have m7 := List.mem_of_getElem? hx3
   obtain ⟨q6, n0, c0⟩ := x3
   have m9 : a0[(Int.toNat n5)]? = some [.int .i64 q6, .int .i64 n0, .str c0] := by
    exact map_at eMail a5 hx3
   have e3 : xs[i]? = some (⟨q6, n0, c0⟩ : GMail) := by
    have h := hx3; rw [hn5] at h; exact h
   have hkx := fun (k : Nat) h => hk k (List.mem_cons_of_mem _ (List.mem_flatMap.2 ⟨_, m7, h⟩))
   refine ops_step rfl rfl (idx_sl rfl rfl rfl rfl rfl m3 rfl m9) ?_
   refine ra hA 2 (by cbv) ?_
   obtain ⟨a3, a8, hc5⟩ : ∃ (a3 : Int), a3 = (chain L (zsMail (⟨q6, n0, c0⟩ : GMail))) ∧ Real Tryz.prog 180 [.agg [.int .i64 q6, .int .i64 n0, .str c0], .int .i64 L] (.int .i64 a3) := ⟨_, rfl, by exact r_laws_szMail A hA (⟨q6, n0, c0⟩ : GMail) L (by omega) (by omega) hkx⟩
   refine ops_callV rfl rfl (by cbv) (by cbv) hc5 (.inr rfl) (by cbv) ?_
   have r6 := chain_bd a8 (by omega)
   refine ra hA 1 (by cbv) (od ?_)
   refine gs ?_
   skip
   refine gr (ra hA 2 (by cbv) (od ?_))
   refine go_cond rfl (fun c6 => ?_) (fun c6 => ?_)
   ·
    have ec6 : a3 < 0 := lss_t hA c6
    refine gs (gr (ra hA 1 (by cbv) (od ?_)))
    refine go_ret ⟨_, by cbv, ?_⟩
    show _ = (PV.int .i64 (-1))
    refine congrArg (PV.int .i64) ?_
    rw [zsMailS, chain_cons, if_neg (by omega), flat_split zsMail xs (i + 1), take_flat zsMail xs e3, List.append_assoc, chain_sub hL hL0]
    exact chain_subN (by omega) a8 ec6
   ·
    have ec6 : 0 ≤ a3 := lss_f hA c6
    refine gk (gr (ra hA 3 (by cbv) (od ?_)))
    refine ⟨(S142_1 a0 a3 (A.num .add .i64 n5 1)), List.length xs - (i + 1), ?_, by cbv, i + 1, a3, (A.num .add .i64 n5 1), rfl, ?_, rfl⟩
    ·
     omega
    ·
     refine ⟨by rw [add_i64 hA (by omega) (by omega)]; omega, by omega, by omega, by omega, ?_⟩
     rw [take_flat zsMail xs e3, chain_sub hL hL0]
     exact a8
  ·
   have ec2 : (A.rlen a0) ≤ n5 := lss_f hA c2
   refine go_exit ⟨fun _ => ?_, fun h => absurd rfl h⟩
   refine gs (gr (ra hA 2 (by cbv) (od ?_)))
   refine go_ret ⟨_, by cbv, ?_⟩
   show _ = (PV.int .i64 L)
   refine congrArg (PV.int .i64) ?_
   rw [zsMailS, chain_cons, if_neg (by omega), hL, List.take_of_length_le (by omega)]
theorem r_laws_szBoolS (A : Alg) (hA : A = std) (xs : List Bool) (n : Int) (h1 : 0 ≤ n) (h2 : n ≤ 1048576) (hk : ∀ k ∈ zsBoolS xs, (k : Int) ≤ 9223372036854775807) : Real Tryz.prog 143 [.sl 1 (List.map eBool xs), .int .i64 n] (.int .i64 (chain n (zsBoolS xs))) := by
 obtain ⟨a0, a5⟩ := nm (xs.map eBool)
 have d1 := rlen_map hA a5
 refine real_args (args' := [.sl 1 a0, .int .i64 n]) (by subst a5; rfl) ?_
 have hlen : (List.length xs : Int) ≤ 9223372036854775807 := hk _ (by simp [zsBoolS])
 refine real tyOk Tryz.func143 (by kernel_rfl) (afun_of rfl ?_)
 refine gs (gr (ra hA 1 (by cbv) (od ?_)))
 refine gs (gr (ra hA 5 (by cbv) (od ?_)))
 refine gs (gs ?_)
 have w0 : A.num .sub .i64 n (A.rlen a0) = n - (List.length xs : Int) := by
  rw [d1]; exact sub_i64 hA (by omega) (by omega)
 refine gr (ra hA 2 (by cbv) (od ?_))
 refine go_cond rfl (fun c1 => ?_) (fun c1 => ?_)
 ·
  have ec1 : (A.num .sub .i64 n (A.rlen a0)) < 0 := lss_t hA c1
  refine gs (gr (ra hA 1 (by cbv) (od ?_)))
  refine go_ret ⟨_, by cbv, ?_⟩
  show _ = (PV.int .i64 (-1))
  refine congrArg (PV.int .i64) ?_
  rw [zsBoolS, chain_cons, if_pos (by omega)]
 ·
  have ec1 : 0 ≤ (A.num .sub .i64 n (A.rlen a0)) := lss_f hA c1
  refine gk (gs (gr (ra hA 2 (by cbv) (od ?_))))
  refine go_ret ⟨_, by cbv, ?_⟩
  show _ = (PV.int .i64 (A.num .sub .i64 n (A.rlen a0)))
  refine congrArg (PV.int .i64) ?_
  rw [zsBoolS, chain_cons, if_neg (by omega), w0]; rfl
theorem r_laws_szFetch (A : Alg) (hA : A = std) (x : GFetch) (n : Int) (h1 : 0 ≤ n) (h2 : n ≤ 1048576) (hk : ∀ k ∈ zsFetch x, (k : Int) ≤ 9223372036854775807) : Real Tryz.prog 102 [.agg (eFetch x), .int .i64 n] (.int .i64 (chain n (zsFetch x))) := by
 obtain ⟨o1, a1, s3, u2⟩ := x
 obtain ⟨t1, p5⟩ := nm (s3.map eMail)
 have z1 := rlen_map hA p5
 obtain ⟨t8, r3⟩ := nm (u2.map eBool)
 have z4 := rlen_map hA r3
 refine real_args (args' := [.agg [.int .i64 o1, .str a1, .sl 3 t1, .sl 1 t8], .int .i64 n]) (by subst p5 r3; rfl) ?_
 have hk0 : (ByteArray.size a1 : Int) ≤ 9223372036854775807 := hk _ (by simp [zsFetch])
 refine real tyOk Tryz.func102 (by kernel_rfl) (afun_of rfl ?_)
 refine gs (gr (ra hA 2 (by cbv) (od ?_)))
 refine gs (gr (ra hA 6 (by cbv) (od ?_)))
 refine gs (gs ?_)
 have w0 : (A.num .sub .i64 n (A.slen a1)) = n - (ByteArray.size a1 : Int) := by
  rw [slen_eq hA a1]; exact sub_i64 hA (by omega) (by omega)
 refine gr (ra hA 2 (by cbv) (od ?_))
 refine go_cond rfl (fun c1 => ?_) (fun c1 => ?_)
 ·
  have ec1 : (A.num .sub .i64 n (A.slen a1)) < 0 := lss_t hA c1
  refine gs (gr (ra hA 1 (by cbv) (od ?_)))
  refine go_ret ⟨_, by cbv, ?_⟩
  show _ = (PV.int .i64 (-1))
  show PV.int _ _ = PV.int _ _
  refine congrArg (PV.int .i64) ?_
  simp only [zsFetch]
  exact chain_strN w0 ec1
 ·
  have ec1 : 0 ≤ (A.num .sub .i64 n (A.slen a1)) := lss_f hA c1
  refine gk (gs (gr (ra hA 3 (by cbv) ?_)))
  obtain ⟨b6, i2, hc3⟩ : ∃ (b6 : Int), b6 = (chain (A.num .sub .i64 n (A.slen a1)) (zsMailS s3)) ∧ Real Tryz.prog 142 [.sl 3 t1, .int .i64 (A.num .sub .i64 n (A.slen a1))] (.int .i64 b6) := ⟨_, rfl, by subst p5; exact r_laws_szMailS A hA s3 (A.num .sub .i64 n (A.slen a1)) (by omega) (by omega) (fun k h => hk k (by simp only [zsFetch, List.mem_append]; simp only [h, true_or, or_true]))⟩
  refine ops_callV rfl rfl (by cbv) (by cbv) hc3 (.inr rfl) (by cbv) ?_
  have y0 := chain_bd i2 (by omega)
  refine ra hA 1 (by cbv) (od ?_)
  refine gs (gs (gr (ra hA 2 (by cbv) (od ?_))))
  refine go_cond rfl (fun c4 => ?_) (fun c4 => ?_)
  ·
   have ec4 : b6 < 0 := lss_t hA c4
   refine gs (gr (ra hA 1 (by cbv) (od ?_)))
   refine go_ret ⟨_, by cbv, ?_⟩
   show _ = (PV.int .i64 (-1))
   show PV.int _ _ = PV.int _ _
   refine congrArg (PV.int .i64) ?_
   simp only [zsFetch]
   rw [chain_str w0 ec1]
   exact chain_subN (by omega) i2 ec4
  ·
   have ec4 : 0 ≤ b6 := lss_f hA c4
   refine gk (gs (gr (ra hA 3 (by cbv) ?_)))
   obtain ⟨f0, m1, hc6⟩ : ∃ (f0 : Int), f0 = (chain b6 (zsBoolS u2)) ∧ Real Tryz.prog 143 [.sl 1 t8, .int .i64 b6] (.int .i64 f0) := ⟨_, rfl, by subst r3; exact r_laws_szBoolS A hA u2 b6 (by omega) (by omega) (fun k h => hk k (by simp only [zsFetch, List.mem_append]; simp only [h, true_or, or_true]))⟩
   refine ops_callV rfl rfl (by cbv) (by cbv) hc6 (.inr rfl) (by cbv) ?_
   have x9 := chain_bd m1 (by omega)
   refine ra hA 1 (by cbv) (od ?_)
   refine gs (gs (gr (ra hA 2 (by cbv) (od ?_))))
   refine go_cond rfl (fun c7 => ?_) (fun c7 => ?_)
   ·
    have ec7 : f0 < 0 := lss_t hA c7
    refine gs (gr (ra hA 1 (by cbv) (od ?_)))
    refine go_ret ⟨_, by cbv, ?_⟩
    show _ = (PV.int .i64 (-1))
    show PV.int _ _ = PV.int _ _
    refine congrArg (PV.int .i64) ?_
    simp only [zsFetch]
    rw [chain_str w0 ec1]
    rw [chain_sub i2 ec4]
    exact chain_subN (by omega) m1 ec7
   ·
    have ec7 : 0 ≤ f0 := lss_f hA c7
    refine gk (gs (gr (ra hA 2 (by cbv) (od ?_))))
    refine go_ret ⟨_, by cbv, ?_⟩
    show _ = (PV.int .i64 f0)
    show PV.int _ _ = PV.int _ _
    refine congrArg (PV.int .i64) ?_
    simp only [zsFetch]
    rw [chain_str w0 ec1]
    rw [chain_sub i2 ec4]
    rw [chain_sub m1 ec7]
    rfl
theorem r_laws_szLook (A : Alg) (hA : A = std) (x : GLook) (n : Int) (h1 : 0 ≤ n) (h2 : n ≤ 1048576) (hk : ∀ k ∈ zsLook x, (k : Int) ≤ 9223372036854775807) : Real Tryz.prog 103 [.agg (eLook x), .int .i64 n] (.int .i64 (chain n (zsLook x))) := by
 obtain ⟨o1, a1, k5, s7, u1⟩ := x
 obtain ⟨u0, q2⟩ := nm (u1.map eInt)
 have z5 := rlen_map hA q2
 refine real_args (args' := [.agg [.int .i64 o1, .str a1, .str k5, .int .i64 s7, .sl 1 u0], .int .i64 n]) (by subst q2; rfl) ?_
 have hk0 : (ByteArray.size a1 : Int) ≤ 9223372036854775807 := hk _ (by simp [zsLook])
 have hk1 : (ByteArray.size k5 : Int) ≤ 9223372036854775807 := hk _ (by simp [zsLook])
 refine real tyOk Tryz.func103 (by kernel_rfl) (afun_of rfl ?_)
 refine gs (gr (ra hA 2 (by cbv) (od ?_)))
 refine gs (gr (ra hA 6 (by cbv) (od ?_)))
 refine gs (gs ?_)
 have w0 : (A.num .sub .i64 n (A.slen a1)) = n - (ByteArray.size a1 : Int) := by
  rw [slen_eq hA a1]; exact sub_i64 hA (by omega) (by omega)
 refine gr (ra hA 2 (by cbv) (od ?_))
 refine go_cond rfl (fun c1 => ?_) (fun c1 => ?_)
 ·
  have ec1 : (A.num .sub .i64 n (A.slen a1)) < 0 := lss_t hA c1
  refine gs (gr (ra hA 1 (by cbv) (od ?_)))
  refine go_ret ⟨_, by cbv, ?_⟩
  show _ = (PV.int .i64 (-1))
  show PV.int _ _ = PV.int _ _
  refine congrArg (PV.int .i64) ?_
  simp only [zsLook]
  exact chain_strN w0 ec1
 ·
  have ec1 : 0 ≤ (A.num .sub .i64 n (A.slen a1)) := lss_f hA c1
  refine gk (gs (gr (ra hA 6 (by cbv) (od ?_))))
  refine gs (gs ?_)
  have w1 : (A.num .sub .i64 (A.num .sub .i64 n (A.slen a1)) (A.slen k5)) = (A.num .sub .i64 n (A.slen a1)) - (ByteArray.size k5 : Int) := by
   rw [slen_eq hA k5]; exact sub_i64 hA (by omega) (by omega)
  refine gr (ra hA 2 (by cbv) (od ?_))
  refine go_cond rfl (fun c2 => ?_) (fun c2 => ?_)
  ·
   have ec2 : (A.num .sub .i64 (A.num .sub .i64 n (A.slen a1)) (A.slen k5)) < 0 := lss_t hA c2
   refine gs (gr (ra hA 1 (by cbv) (od ?_)))
   refine go_ret ⟨_, by cbv, ?_⟩
   show _ = (PV.int .i64 (-1))
   show PV.int _ _ = PV.int _ _
   refine congrArg (PV.int .i64) ?_
   simp only [zsLook]
   rw [chain_str w0 ec1]
   exact chain_strN w1 ec2
  ·
   have ec2 : 0 ≤ (A.num .sub .i64 (A.num .sub .i64 n (A.slen a1)) (A.slen k5)) := lss_f hA c2
   refine gk (gs (gr (ra hA 3 (by cbv) ?_)))
   obtain ⟨d2, j4, hc4⟩ : ∃ (d2 : Int), d2 = (chain (A.num .sub .i64 (A.num .sub .i64 n (A.slen a1)) (A.slen k5)) (zsIntS u1)) ∧ Real Tryz.prog 56 [.sl 1 u0, .int .i64 (A.num .sub .i64 (A.num .sub .i64 n (A.slen a1)) (A.slen k5))] (.int .i64 d2) := ⟨_, rfl, by subst q2; exact r_laws_szIntS A hA u1 (A.num .sub .i64 (A.num .sub .i64 n (A.slen a1)) (A.slen k5)) (by omega) (by omega) (fun k h => hk k (by simp only [zsLook, List.mem_append]; simp only [h, true_or, or_true]))⟩
   refine ops_callV rfl rfl (by cbv) (by cbv) hc4 (.inr rfl) (by cbv) ?_
   have x8 := chain_bd j4 (by omega)
   refine ra hA 1 (by cbv) (od ?_)
   refine gs (gs (gr (ra hA 2 (by cbv) (od ?_))))
   refine go_cond rfl (fun c5 => ?_) (fun c5 => ?_)
   ·
    have ec5 : d2 < 0 := lss_t hA c5
    refine gs (gr (ra hA 1 (by cbv) (od ?_)))
    refine go_ret ⟨_, by cbv, ?_⟩
    show _ = (PV.int .i64 (-1))
    show PV.int _ _ = PV.int _ _
    refine congrArg (PV.int .i64) ?_
    simp only [zsLook]
    rw [chain_str w0 ec1]
    rw [chain_str w1 ec2]
    exact chain_subN (by omega) j4 ec5
   ·
    have ec5 : 0 ≤ d2 := lss_f hA c5
    refine gk (gs (gr (ra hA 2 (by cbv) (od ?_))))
    refine go_ret ⟨_, by cbv, ?_⟩
    show _ = (PV.int .i64 d2)
    show PV.int _ _ = PV.int _ _
    refine congrArg (PV.int .i64) ?_
    simp only [zsLook]
    rw [chain_str w0 ec1]
    rw [chain_str w1 ec2]
    rw [chain_sub j4 ec5]
    rfl
theorem r_laws_szSession (A : Alg) (hA : A = std) (x : GSession) (n : Int) (h1 : 0 ≤ n) (h2 : n ≤ 1048576) (hk : ∀ k ∈ zsSession x, (k : Int) ≤ 9223372036854775807) : Real Tryz.prog 57 [.agg (eSession x), .int .i64 n] (.int .i64 (chain n (zsSession x))) := by
 obtain ⟨u4, j2, j9, y1, ⟨g4, i4, p7, m5⟩, ⟨g0, i3, k9, m0⟩, ⟨i5, k1, l7, j1, n9⟩⟩ := x
 obtain ⟨q5, l2⟩ := nm (p7.map eString)
 have x4 := rlen_map hA l2
 obtain ⟨o7, j0⟩ := nm (m5.map eString)
 have w8 := rlen_map hA j0
 obtain ⟨n7, i0⟩ := nm (k9.map eMail)
 have w4 := rlen_map hA i0
 obtain ⟨o5, i9⟩ := nm (m0.map eBool)
 have w6 := rlen_map hA i9
 obtain ⟨p9, j6⟩ := nm (n9.map eInt)
 have x0 := rlen_map hA j6
 refine real_args (args' := [.agg [.int .i64 u4, .str j2, .str j9, .bool y1, .int .i64 g4, .str i4, .sl 1 q5, .sl 1 o7, .int .i64 g0, .str i3, .sl 3 n7, .sl 1 o5, .int .i64 i5, .str k1, .str l7, .int .i64 j1, .sl 1 p9], .int .i64 n]) (by subst l2 j0 i0 i9 j6; rfl) ?_
 have hk0 : (ByteArray.size j2 : Int) ≤ 9223372036854775807 := hk _ (by simp [zsSession])
 have hk1 : (ByteArray.size j9 : Int) ≤ 9223372036854775807 := hk _ (by simp [zsSession])
 refine real tyOk Tryz.func57 (by kernel_rfl) (afun_of rfl ?_)
 refine gs (gr (ra hA 2 (by cbv) (od ?_)))
 refine gs (gr (ra hA 6 (by cbv) (od ?_)))
 refine gs (gs ?_)
 have w0 : (A.num .sub .i64 n (A.slen j2)) = n - (ByteArray.size j2 : Int) := by
  rw [slen_eq hA j2]; exact sub_i64 hA (by omega) (by omega)
 refine gr (ra hA 2 (by cbv) (od ?_))
 refine go_cond rfl (fun c1 => ?_) (fun c1 => ?_)
 ·
  have ec1 : (A.num .sub .i64 n (A.slen j2)) < 0 := lss_t hA c1
  refine gs (gr (ra hA 1 (by cbv) (od ?_)))
  refine go_ret ⟨_, by cbv, ?_⟩
  show _ = (PV.int .i64 (-1))
  show PV.int _ _ = PV.int _ _
  refine congrArg (PV.int .i64) ?_
  simp only [zsSession]
  exact chain_strN w0 ec1
 ·
  have ec1 : 0 ≤ (A.num .sub .i64 n (A.slen j2)) := lss_f hA c1
  refine gk (gs (gr (ra hA 6 (by cbv) (od ?_))))
  refine gs (gs ?_)
  have w1 : (A.num .sub .i64 (A.num .sub .i64 n (A.slen j2)) (A.slen j9)) = (A.num .sub .i64 n (A.slen j2)) - (ByteArray.size j9 : Int) := by
   rw [slen_eq hA j9]; exact sub_i64 hA (by omega) (by omega)
  refine gr (ra hA 2 (by cbv) (od ?_))
  refine go_cond rfl (fun c2 => ?_) (fun c2 => ?_)
  ·
   have ec2 : (A.num .sub .i64 (A.num .sub .i64 n (A.slen j2)) (A.slen j9)) < 0 := lss_t hA c2
   refine gs (gr (ra hA 1 (by cbv) (od ?_)))
   refine go_ret ⟨_, by cbv, ?_⟩
   show _ = (PV.int .i64 (-1))
   show PV.int _ _ = PV.int _ _
   refine congrArg (PV.int .i64) ?_
   simp only [zsSession]
   rw [chain_str w0 ec1]
   exact chain_strN w1 ec2
  ·
   have ec2 : 0 ≤ (A.num .sub .i64 (A.num .sub .i64 n (A.slen j2)) (A.slen j9)) := lss_f hA c2
   refine gk (gs (gr (ra hA 3 (by cbv) ?_)))
   obtain ⟨d2, j4, hc4⟩ : ∃ (d2 : Int), d2 = (chain (A.num .sub .i64 (A.num .sub .i64 n (A.slen j2)) (A.slen j9)) (zsBring (⟨g4, i4, p7, m5⟩ : GBring))) ∧ Real Tryz.prog 101 [.agg [.int .i64 g4, .str i4, .sl 1 q5, .sl 1 o7], .int .i64 (A.num .sub .i64 (A.num .sub .i64 n (A.slen j2)) (A.slen j9))] (.int .i64 d2) := ⟨_, rfl, by subst l2 j0; exact r_laws_szBring A hA (⟨g4, i4, p7, m5⟩ : GBring) (A.num .sub .i64 (A.num .sub .i64 n (A.slen j2)) (A.slen j9)) (by omega) (by omega) (fun k h => hk k (by simp only [zsSession, List.mem_append]; simp only [h, true_or, or_true]))⟩
   refine ops_callV rfl rfl (by cbv) (by cbv) hc4 (.inr rfl) (by cbv) ?_
   have x8 := chain_bd j4 (by omega)
   refine ra hA 1 (by cbv) (od ?_)
   refine gs (gs (gr (ra hA 2 (by cbv) (od ?_))))
   refine go_cond rfl (fun c5 => ?_) (fun c5 => ?_)
   ·
    have ec5 : d2 < 0 := lss_t hA c5
    refine gs (gr (ra hA 1 (by cbv) (od ?_)))
    refine go_ret ⟨_, by cbv, ?_⟩
    show _ = (PV.int .i64 (-1))
    show PV.int _ _ = PV.int _ _
    refine congrArg (PV.int .i64) ?_
    simp only [zsSession]
    rw [chain_str w0 ec1]
    rw [chain_str w1 ec2]
    exact chain_subN (by omega) j4 ec5
   ·
    have ec5 : 0 ≤ d2 := lss_f hA c5
    refine gk (gs (gr (ra hA 3 (by cbv) ?_)))
    obtain ⟨n2, r8, hc7⟩ : ∃ (n2 : Int), n2 = (chain d2 (zsFetch (⟨g0, i3, k9, m0⟩ : GFetch))) ∧ Real Tryz.prog 102 [.agg [.int .i64 g0, .str i3, .sl 3 n7, .sl 1 o5], .int .i64 d2] (.int .i64 n2) := ⟨_, rfl, by subst i0 i9; exact r_laws_szFetch A hA (⟨g0, i3, k9, m0⟩ : GFetch) d2 (by omega) (by omega) (fun k h => hk k (by simp only [zsSession, List.mem_append]; simp only [h, true_or, or_true]))⟩
    refine ops_callV rfl rfl (by cbv) (by cbv) hc7 (.inr rfl) (by cbv) ?_
    have B0 := chain_bd r8 (by omega)
    refine ra hA 1 (by cbv) (od ?_)
    refine gs (gs (gr (ra hA 2 (by cbv) (od ?_))))
    refine go_cond rfl (fun c8 => ?_) (fun c8 => ?_)
    ·
     have ec8 : n2 < 0 := lss_t hA c8
     refine gs (gr (ra hA 1 (by cbv) (od ?_)))
     refine go_ret ⟨_, by cbv, ?_⟩
     show _ = (PV.int .i64 (-1))
     show PV.int _ _ = PV.int _ _
     refine congrArg (PV.int .i64) ?_
     simp only [zsSession]
     rw [chain_str w0 ec1]
     rw [chain_str w1 ec2]
     rw [chain_sub j4 ec5]
     exact chain_subN (by omega) r8 ec8
    ·
     have ec8 : 0 ≤ n2 := lss_f hA c8
     refine gk (gs (gr (ra hA 3 (by cbv) ?_)))
     obtain ⟨r4, u5, z6⟩ : ∃ (r4 : Int), r4 = (chain n2 (zsLook (⟨i5, k1, l7, j1, n9⟩ : GLook))) ∧ Real Tryz.prog 103 [.agg [.int .i64 i5, .str k1, .str l7, .int .i64 j1, .sl 1 p9], .int .i64 n2] (.int .i64 r4) := ⟨_, rfl, by subst j6; exact r_laws_szLook A hA (⟨i5, k1, l7, j1, n9⟩ : GLook) n2 (by omega) (by omega) (fun k h => hk k (by simp only [zsSession, List.mem_append]; simp only [h, true_or, or_true]))⟩
     refine ops_callV rfl rfl (by cbv) (by cbv) z6 (.inr rfl) (by cbv) ?_
     have B1 := chain_bd u5 (by omega)
     refine ra hA 1 (by cbv) (od ?_)
     refine gs (gs (gr (ra hA 2 (by cbv) (od ?_))))
     refine go_cond rfl (fun c11 => ?_) (fun c11 => ?_)
     ·
      have v9 : r4 < 0 := lss_t hA c11
      refine gs (gr (ra hA 1 (by cbv) (od ?_)))
      refine go_ret ⟨_, by cbv, ?_⟩
      show _ = (PV.int .i64 (-1))
      show PV.int _ _ = PV.int _ _
      refine congrArg (PV.int .i64) ?_
      simp only [zsSession]
      rw [chain_str w0 ec1]
      rw [chain_str w1 ec2]
      rw [chain_sub j4 ec5]
      rw [chain_sub r8 ec8]
      exact chain_subN (by omega) u5 v9
     ·
      have v9 : 0 ≤ r4 := lss_f hA c11
      refine gk (gs (gr (ra hA 2 (by cbv) (od ?_))))
      refine go_ret ⟨_, by cbv, ?_⟩
      show _ = (PV.int .i64 r4)
      show PV.int _ _ = PV.int _ _
      refine congrArg (PV.int .i64) ?_
      simp only [zsSession]
      rw [chain_str w0 ec1]
      rw [chain_str w1 ec2]
      rw [chain_sub j4 ec5]
      rw [chain_sub r8 ec8]
      rw [chain_sub u5 v9]
      rfl
def S26_1 (p0 : RR) (p1 : Int) (p2 : Int) : St := { sl := [.sl 17 p0, .int .i64 p1, .bad, .bad, .bad, .int .i64 p2, .bad, .bad, .bad, .bad, .bad, .bad, .bad, .bad, .bad, .bad, .bad, .bad, .bad, .bad, .bad, .bad, .bad, .bad, .bad, .bad, .bad], bl := [] }
theorem r_laws_szSessionS (A : Alg) (hA : A = std) (xs : List GSession) (n : Int) (h1 : 0 ≤ n) (h2 : n ≤ 1048576) (hk : ∀ k ∈ zsSessionS xs, (k : Int) ≤ 9223372036854775807) : Real Tryz.prog 26 [.sl 17 (List.map eSession xs), .int .i64 n] (.int .i64 (chain n (zsSessionS xs))) := by
 obtain ⟨a0, a5⟩ := nm (xs.map eSession)
 have d1 := rlen_map hA a5
 refine real_args (args' := [.sl 17 a0, .int .i64 n]) (by subst a5; rfl) ?_
 have hlen : (List.length xs : Int) ≤ 9223372036854775807 := hk _ (by simp [zsSessionS])
 refine real tyOk Tryz.func26 (by kernel_rfl) (afun_of rfl ?_)
 refine gs (gr (ra hA 1 (by cbv) (od ?_)))
 refine gs (gr (ra hA 5 (by cbv) (od ?_)))
 refine gs (gs ?_)
 have w0 : A.num .sub .i64 n (A.rlen a0) = n - (List.length xs : Int) := by
  rw [d1]; exact sub_i64 hA (by omega) (by omega)
 refine gr (ra hA 2 (by cbv) (od ?_))
 refine go_cond rfl (fun c1 => ?_) (fun c1 => ?_)
 ·
  have ec1 : (A.num .sub .i64 n (A.rlen a0)) < 0 := lss_t hA c1
  refine gs (gr (ra hA 1 (by cbv) (od ?_)))
  refine go_ret ⟨_, by cbv, ?_⟩
  show _ = (PV.int .i64 (-1))
  refine congrArg (PV.int .i64) ?_
  rw [zsSessionS, chain_cons, if_pos (by omega)]
 ·
  have ec1 : 0 ≤ (A.num .sub .i64 n (A.rlen a0)) := lss_f hA c1
  refine gk (gs (gs (gr (ra hA 1 (by cbv) (od ?_)))))
  refine go_block ?_
  refine go_loopE (fun σ m => ∃ (i : Nat) (L : Int) (n5 : Int), σ = (S26_1 a0 L n5) ∧ (n5 = (i : Int) ∧ i ≤ List.length xs ∧ 0 ≤ L ∧ L ≤ 1048576 ∧ L = chain (n - (List.length xs : Int)) ((xs.take i).flatMap zsSession)) ∧ m = List.length xs - i) _ [] [0, 1, 5] [] (S26_1 a0 (A.num .sub .i64 n (A.rlen a0)) 0) rfl (by cbv) ⟨0, (A.num .sub .i64 n (A.rlen a0)), 0, rfl, ?_, rfl⟩ (fun σ m hI => ?_)
  ·
   exact ⟨rfl, Nat.zero_le _, by omega, by omega, w0⟩
  obtain ⟨i, L, n5, rfl, ⟨hn5, hi, hL0, hL1, hL⟩, rfl⟩ := hI
  refine gs (gs (gr (ra hA 4 (by cbv) (od ?_))))
  refine go_cond rfl (fun c2 => ?_) (fun c2 => ?_)
  ·
   have ec2 : n5 < (A.rlen a0) := lss_t hA c2
   refine gk (gs ?_)
   refine go_block ?_
   refine gs (gr (ra hA 2 (by cbv) ?_))
   have m3 : (0 : Int) ≤ n5 := by
    omega
   have n1 : (Int.toNat n5) < List.length xs := by
    omega
   obtain ⟨x3, hx3⟩ : ∃ x, (xs)[(Int.toNat n5)]? = some x := ⟨_, List.getElem?_eq_getElem n1⟩
   have m7 := List.mem_of_getElem? hx3
   obtain ⟨o3, s1, r2, o6, ⟨c9, d7, k2, g3⟩, ⟨b9, d9, e9, g1⟩, ⟨d6, e6, f5, d5, j5⟩⟩ := x3
   obtain ⟨q0, j7⟩ := nm (k2.map eString)
   have x2 := rlen_map hA j7
   obtain ⟨n4, g7⟩ := nm (g3.map eString)
   have v7 := rlen_map hA g7
   obtain ⟨m8, f1⟩ := nm (e9.map eMail)
   have v6 := rlen_map hA f1
   obtain ⟨n8, i1⟩ := nm (g1.map eBool)
   have v8 := rlen_map hA i1
   obtain ⟨o2, i8⟩ := nm (j5.map eInt)
   have w7 := rlen_map hA i8
   have m9 : a0[(Int.toNat n5)]? = some [.int .i64 o3, .str s1, .str r2, .bool o6, .int .i64 c9, .str d7, .sl 1 q0, .sl 1 n4, .int .i64 b9, .str d9, .sl 3 m8, .sl 1 n8, .int .i64 d6, .str e6, .str f5, .int .i64 d5, .sl 1 o2] := by
    subst j7 g7 f1 i1 i8; exact map_at eSession a5 hx3
   have e3 : xs[i]? = some (⟨o3, s1, r2, o6, ⟨c9, d7, k2, g3⟩, ⟨b9, d9, e9, g1⟩, ⟨d6, e6, f5, d5, j5⟩⟩ : GSession) := by
    have h := hx3; rw [hn5] at h; exact h
   have hkx := fun (k : Nat) h => hk k (List.mem_cons_of_mem _ (List.mem_flatMap.2 ⟨_, m7, h⟩))
   refine ops_step rfl rfl (idx_sl rfl rfl rfl rfl rfl m3 rfl m9) ?_
   refine ra hA 2 (by cbv) ?_
   obtain ⟨a3, a8, hc5⟩ : ∃ (a3 : Int), a3 = (chain L (zsSession (⟨o3, s1, r2, o6, ⟨c9, d7, k2, g3⟩, ⟨b9, d9, e9, g1⟩, ⟨d6, e6, f5, d5, j5⟩⟩ : GSession))) ∧ Real Tryz.prog 57 [.agg [.int .i64 o3, .str s1, .str r2, .bool o6, .int .i64 c9, .str d7, .sl 1 q0, .sl 1 n4, .int .i64 b9, .str d9, .sl 3 m8, .sl 1 n8, .int .i64 d6, .str e6, .str f5, .int .i64 d5, .sl 1 o2], .int .i64 L] (.int .i64 a3) := ⟨_, rfl, by subst j7 g7 f1 i1 i8; exact r_laws_szSession A hA (⟨o3, s1, r2, o6, ⟨c9, d7, k2, g3⟩, ⟨b9, d9, e9, g1⟩, ⟨d6, e6, f5, d5, j5⟩⟩ : GSession) L (by omega) (by omega) hkx⟩
   refine ops_callV rfl rfl (by cbv) (by cbv) hc5 (.inr rfl) (by cbv) ?_
   have r6 := chain_bd a8 (by omega)
   refine ra hA 1 (by cbv) (od ?_)
   refine gs ?_
   skip
   refine gr (ra hA 2 (by cbv) (od ?_))
   refine go_cond rfl (fun c6 => ?_) (fun c6 => ?_)
   ·
    have ec6 : a3 < 0 := lss_t hA c6
    refine gs (gr (ra hA 1 (by cbv) (od ?_)))
    refine go_ret ⟨_, by cbv, ?_⟩
    show _ = (PV.int .i64 (-1))
    refine congrArg (PV.int .i64) ?_
    rw [zsSessionS, chain_cons, if_neg (by omega), flat_split zsSession xs (i + 1), take_flat zsSession xs e3, List.append_assoc, chain_sub hL hL0]
    exact chain_subN (by omega) a8 ec6
   ·
    have ec6 : 0 ≤ a3 := lss_f hA c6
    refine gk (gr (ra hA 3 (by cbv) (od ?_)))
    refine ⟨(S26_1 a0 a3 (A.num .add .i64 n5 1)), List.length xs - (i + 1), ?_, by cbv, i + 1, a3, (A.num .add .i64 n5 1), rfl, ?_, rfl⟩
    ·
     omega
    ·
     refine ⟨by rw [add_i64 hA (by omega) (by omega)]; omega, by omega, by omega, by omega, ?_⟩
     rw [take_flat zsSession xs e3, chain_sub hL hL0]
     exact a8
  ·
   have ec2 : (A.rlen a0) ≤ n5 := lss_f hA c2
   refine go_exit ⟨fun _ => ?_, fun h => absurd rfl h⟩
   refine gs (gr (ra hA 2 (by cbv) (od ?_)))
   refine go_ret ⟨_, by cbv, ?_⟩
   show _ = (PV.int .i64 L)
   refine congrArg (PV.int .i64) ?_
   rw [zsSessionS, chain_cons, if_neg (by omega), hL, List.take_of_length_le (by omega)]
theorem r_laws_szServer (A : Alg) (hA : A = std) (x : GServer) (n : Int) (h1 : 0 ≤ n) (h2 : n ≤ 1048576) (hk : ∀ k ∈ zsServer x, (k : Int) ≤ 9223372036854775807) : Real Tryz.prog 7 [.agg (eServer x), .int .i64 n] (.int .i64 (chain n (zsServer x))) := by
 obtain ⟨⟨⟨⟨b3, b7⟩, d3, g6, b4, b5, b8, b0⟩, l1⟩, p6⟩ := x
 obtain ⟨d4, a9⟩ := nm (b3.map eString)
 have t0 := rlen_map hA a9
 obtain ⟨e5, b1⟩ := nm (b7.map eWrite)
 have t5 := rlen_map hA b1
 obtain ⟨k7, e0⟩ := nm (g6.map eSeg)
 have v1 := rlen_map hA e0
 obtain ⟨n3, g8⟩ := nm (l1.map eInt)
 have w5 := rlen_map hA g8
 obtain ⟨q7, k8⟩ := nm (p6.map eSession)
 have x6 := rlen_map hA k8
 refine real_args (args' := [.agg [.sl 1 d4, .sl 2 e5, .int .i64 d3, .sl 4 k7, .int .i64 b4, .int .i64 b5, .int .i64 b8, .int .i64 b0, .sl 1 n3, .sl 17 q7], .int .i64 n]) (by subst a9 b1 e0 g8 k8; rfl) ?_
 refine real tyOk Tryz.func7 (by kernel_rfl) (afun_of rfl ?_)
 refine gs (gr (ra hA 2 (by cbv) (od ?_)))
 refine gs (gr (ra hA 3 (by cbv) ?_))
 obtain ⟨a2, a7, hc2⟩ : ∃ (a2 : Int), a2 = (chain n (zsStore (⟨⟨⟨b3, b7⟩, d3, g6, b4, b5, b8, b0⟩, l1⟩ : GStore))) ∧ Real Tryz.prog 25 [.agg [.sl 1 d4, .sl 2 e5, .int .i64 d3, .sl 4 k7, .int .i64 b4, .int .i64 b5, .int .i64 b8, .int .i64 b0, .sl 1 n3], .int .i64 n] (.int .i64 a2) := ⟨_, rfl, by subst a9 b1 e0 g8; exact r_laws_szStore A hA (⟨⟨⟨b3, b7⟩, d3, g6, b4, b5, b8, b0⟩, l1⟩ : GStore) n (by omega) (by omega) (fun k h => hk k (by simp only [zsServer, List.mem_append]; simp only [h, true_or, or_true]))⟩
 refine ops_callV rfl rfl (by cbv) (by cbv) hc2 (.inr rfl) (by cbv) ?_
 have s2 := chain_bd a7 (by omega)
 refine ra hA 1 (by cbv) (od ?_)
 refine gs (gs (gr (ra hA 2 (by cbv) (od ?_))))
 refine go_cond rfl (fun c3 => ?_) (fun c3 => ?_)
 ·
  have ec3 : a2 < 0 := lss_t hA c3
  refine gs (gr (ra hA 1 (by cbv) (od ?_)))
  refine go_ret ⟨_, by cbv, ?_⟩
  show _ = (PV.int .i64 (-1))
  show PV.int _ _ = PV.int _ _
  refine congrArg (PV.int .i64) ?_
  simp only [zsServer]
  exact chain_subN (by omega) a7 ec3
 ·
  have ec3 : 0 ≤ a2 := lss_f hA c3
  refine gk (gs (gr (ra hA 3 (by cbv) ?_)))
  obtain ⟨a6, b2, hc5⟩ : ∃ (a6 : Int), a6 = (chain a2 (zsSessionS p6)) ∧ Real Tryz.prog 26 [.sl 17 q7, .int .i64 a2] (.int .i64 a6) := ⟨_, rfl, by subst k8; exact r_laws_szSessionS A hA p6 a2 (by omega) (by omega) (fun k h => hk k (by simp only [zsServer, List.mem_append]; simp only [h, true_or, or_true]))⟩
  refine ops_callV rfl rfl (by cbv) (by cbv) hc5 (.inr rfl) (by cbv) ?_
  have t6 := chain_bd b2 (by omega)
  refine ra hA 1 (by cbv) (od ?_)
  refine gs (gs (gr (ra hA 2 (by cbv) (od ?_))))
  refine go_cond rfl (fun c6 => ?_) (fun c6 => ?_)
  ·
   have ec6 : a6 < 0 := lss_t hA c6
   refine gs (gr (ra hA 1 (by cbv) (od ?_)))
   refine go_ret ⟨_, by cbv, ?_⟩
   show _ = (PV.int .i64 (-1))
   show PV.int _ _ = PV.int _ _
   refine congrArg (PV.int .i64) ?_
   simp only [zsServer]
   rw [chain_sub a7 ec3]
   exact chain_subN (by omega) b2 ec6
  ·
   have ec6 : 0 ≤ a6 := lss_f hA c6
   refine gk (gs (gr (ra hA 2 (by cbv) (od ?_))))
   refine go_ret ⟨_, by cbv, ?_⟩
   show _ = (PV.int .i64 a6)
   show PV.int _ _ = PV.int _ _
   refine congrArg (PV.int .i64) ?_
   simp only [zsServer]
   rw [chain_sub a7 ec3]
   rw [chain_sub b2 ec6]
   rfl
end Go.Av
