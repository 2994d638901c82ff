/- Walks: sz of cuts. -/
import Derived.Test.YtjbokkoiicoahaaTy
namespace Go.Av
open Go Go.Proofs
set_option maxRecDepth 100000
set_option maxHeartbeats 4000000
set_option linter.unusedVariables false
set_option linter.unusedSimpArgs false
theorem r_laws_szMail (A : Alg) (hA : A = std) (x : GMail) (n : Int) (h1 : 0 ≤ n) (h2 : n ≤ 1048576) (hk : ∀ k ∈ zsMail x, (k : Int) ≤ 9223372036854775807) : Real Try.prog 143 [.agg (eMail x), .int .i64 n] (.int .i64 (chain n (zsMail x))) := by
  obtain ⟨x_Uid, x_Flags, x_Text⟩ := x
  refine real_args (args' := [.agg [.int .i64 x_Uid, .int .i64 x_Flags, .str x_Text], .int .i64 n]) (by rfl) ?_
  have hk0 : (ByteArray.size x_Text : Int) ≤ 9223372036854775807 := hk _ (by simp [zsMail])
  refine real tyOk Try.func143 (by kernel_rfl) (afun_of rfl ?_)
  refine go_seq ?_
  refine go_reg ?_
  refine run_aops hA 2 _ _ _ _ (by cbv) ?_
  refine ops_done ?_
  refine go_seq ?_
  refine go_reg ?_
  refine run_aops hA 6 _ _ _ _ (by cbv) ?_
  refine ops_done ?_
  refine go_seq ?_
  refine go_seq ?_
  have w0 : (A.num .sub .i64 n (A.slen x_Text)) = n - (ByteArray.size x_Text : Int) := by
    rw [slen_eq hA x_Text]; exact sub_i64 hA (by omega) (by omega)
  refine go_reg ?_
  refine run_aops hA 2 _ _ _ _ (by cbv) ?_
  refine ops_done ?_
  refine go_cond rfl (fun c1 => ?_) (fun c1 => ?_)
  · skip
    have ec1 : (A.num .sub .i64 n (A.slen x_Text)) < 0 := lss_t hA c1
    refine go_seq ?_
    refine go_reg ?_
    refine run_aops hA 1 _ _ _ _ (by cbv) ?_
    refine ops_done ?_
    refine go_ret ⟨_, by cbv, ?_⟩
    show _ = (PV.int .i64 (-1))
    show PV.int _ _ = PV.int _ _
    refine congrArg (PV.int .i64) ?_
    simp only [zsMail]
    exact chain_strN w0 ec1
  · skip
    have ec1 : 0 ≤ (A.num .sub .i64 n (A.slen x_Text)) := lss_f hA c1
    refine go_skip ?_
    refine go_seq ?_
    refine go_reg ?_
    refine run_aops hA 2 _ _ _ _ (by cbv) ?_
    refine ops_done ?_
    refine go_ret ⟨_, by cbv, ?_⟩
    show _ = (PV.int .i64 (A.num .sub .i64 n (A.slen x_Text)))
    show PV.int _ _ = PV.int _ _
    refine congrArg (PV.int .i64) ?_
    simp only [zsMail]
    rw [chain_str w0 ec1]
    rfl

def S124_1 (p0 : List (List PV)) (p1 : Int) (p2 : Int) : St := { sl := [.sl 3 p0, .int .i64 p1, .bad, .bad, .bad, .int .i64 p2, .bad, .bad, .bad, .bad, .bad, .bad, .bad, .bad, .bad, .bad, .bad, .bad, .bad, .bad, .bad, .bad, .bad, .bad, .bad, .bad, .bad], bl := [] }
theorem r_laws_szMailS (A : Alg) (hA : A = std) (xs : List GMail) (n : Int) (h1 : 0 ≤ n) (h2 : n ≤ 1048576) (hk : ∀ k ∈ zsMailS xs, (k : Int) ≤ 9223372036854775807) : Real Try.prog 124 [.sl 3 (List.map eMail xs), .int .i64 n] (.int .i64 (chain n (zsMailS xs))) := by
  obtain ⟨xs_r, hxs_r⟩ : ∃ r, r = xs.map eMail := ⟨_, rfl⟩
  have lxs_r : A.rlen xs_r = (List.length xs : Int) := rlen_map hA hxs_r
  refine real_args (args' := [.sl 3 xs_r, .int .i64 n]) (by subst hxs_r; rfl) ?_
  have hlen : (List.length xs : Int) ≤ 9223372036854775807 := hk _ (by simp [zsMailS])
  refine real tyOk Try.func124 (by kernel_rfl) (afun_of rfl ?_)
  refine go_seq ?_
  refine go_reg ?_
  refine run_aops hA 1 _ _ _ _ (by cbv) ?_
  refine ops_done ?_
  refine go_seq ?_
  refine go_reg ?_
  refine run_aops hA 5 _ _ _ _ (by cbv) ?_
  refine ops_done ?_
  refine go_seq ?_
  refine go_seq ?_
  have w0 : A.num .sub .i64 n (A.rlen xs_r) = n - (List.length xs : Int) := by
    rw [lxs_r]; exact sub_i64 hA (by omega) (by omega)
  refine go_reg ?_
  refine run_aops hA 2 _ _ _ _ (by cbv) ?_
  refine ops_done ?_
  refine go_cond rfl (fun c1 => ?_) (fun c1 => ?_)
  · skip
    have ec1 : (A.num .sub .i64 n (A.rlen xs_r)) < 0 := lss_t hA c1
    refine go_seq ?_
    refine go_reg ?_
    refine run_aops hA 1 _ _ _ _ (by cbv) ?_
    refine ops_done ?_
    refine go_ret ⟨_, by cbv, ?_⟩
    show _ = (PV.int .i64 (-1))
    refine congrArg (PV.int .i64) ?_
    rw [zsMailS, chain_cons, if_pos (by omega)]
  · skip
    have ec1 : 0 ≤ (A.num .sub .i64 n (A.rlen xs_r)) := lss_f hA c1
    refine go_skip ?_
    refine go_seq ?_
    refine go_seq ?_
    refine go_reg ?_
    refine run_aops hA 1 _ _ _ _ (by cbv) ?_
    refine ops_done ?_
    refine go_block ?_
    refine go_loopE (fun σ m => ∃ (i : Nat) (L : Int) (n5 : Int), σ = (S124_1 xs_r L n5) ∧ (n5 = (i : Int) ∧ i ≤ List.length xs ∧ 0 ≤ L ∧ L ≤ 1048576 ∧ L = chain (n - (List.length xs : Int)) ((xs.take i).flatMap zsMail)) ∧ m = List.length xs - i) _ [] [0, 1, 5] [] (S124_1 xs_r (A.num .sub .i64 n (A.rlen xs_r)) 0) rfl (by cbv) ⟨0, (A.num .sub .i64 n (A.rlen xs_r)), 0, rfl, ?_, rfl⟩ (fun σ m hI => ?_)
    · skip
      exact ⟨rfl, Nat.zero_le _, by omega, by omega, w0⟩
    obtain ⟨i, L, n5, rfl, ⟨hn5, hi, hL0, hL1, hL⟩, rfl⟩ := hI
    refine go_seq ?_
    refine go_seq ?_
    refine go_reg ?_
    refine run_aops hA 4 _ _ _ _ (by cbv) ?_
    refine ops_done ?_
    refine go_cond rfl (fun c2 => ?_) (fun c2 => ?_)
    · skip
      have ec2 : n5 < (A.rlen xs_r) := lss_t hA c2
      refine go_skip ?_
      refine go_seq ?_
      refine go_block ?_
      refine go_seq ?_
      refine go_reg ?_
      refine run_aops hA 2 _ _ _ _ (by cbv) ?_
      have h0x3 : (0 : Int) ≤ n5 := by
        omega
      have hlx3 : (Int.toNat n5) < List.length xs := by
        omega
      obtain ⟨x3, hx3⟩ : ∃ x, (xs)[(Int.toNat n5)]? = some x := ⟨_, List.getElem?_eq_getElem hlx3⟩
      have hmx3 := List.mem_of_getElem? hx3
      obtain ⟨x3_Uid, x3_Flags, x3_Text⟩ := x3
      have hrx3 : xs_r[(Int.toNat n5)]? = some [.int .i64 x3_Uid, .int .i64 x3_Flags, .str x3_Text] := by
        exact map_at eMail hxs_r hx3
      have hix3 : xs[i]? = some (⟨x3_Uid, x3_Flags, x3_Text⟩ : GMail) := by
        have h := hx3; rw [hn5] at h; exact h
      have hkx := fun (k : Nat) h => hk k (List.mem_cons_of_mem _ (List.mem_flatMap.2 ⟨_, hmx3, h⟩))
      refine ops_step rfl rfl (idx_sl rfl rfl rfl rfl rfl h0x3 rfl hrx3) ?_
      refine run_aops hA 2 _ _ _ _ (by cbv) ?_
      obtain ⟨v23_4, hv23_4, hc5⟩ : ∃ (v23_4 : Int), v23_4 = (chain L (zsMail (⟨x3_Uid, x3_Flags, x3_Text⟩ : GMail))) ∧ Real Try.prog 143 [.agg [.int .i64 x3_Uid, .int .i64 x3_Flags, .str x3_Text], .int .i64 L] (.int .i64 v23_4) := ⟨_, rfl, by exact r_laws_szMail A hA (⟨x3_Uid, x3_Flags, x3_Text⟩ : GMail) L (by omega) (by omega) hkx⟩
      refine ops_callV rfl rfl (by cbv) (by cbv) hc5 (.inr rfl) (by cbv) ?_
      have bv23_4 := chain_bd hv23_4 (by omega)
      refine run_aops hA 1 _ _ _ _ (by cbv) ?_
      refine ops_done ?_
      refine go_seq ?_
      skip
      refine go_reg ?_
      refine run_aops hA 2 _ _ _ _ (by cbv) ?_
      refine ops_done ?_
      refine go_cond rfl (fun c6 => ?_) (fun c6 => ?_)
      · skip
        have ec6 : v23_4 < 0 := lss_t hA c6
        refine go_seq ?_
        refine go_reg ?_
        refine run_aops hA 1 _ _ _ _ (by cbv) ?_
        refine ops_done ?_
        refine go_ret ⟨_, by cbv, ?_⟩
        show _ = (PV.int .i64 (-1))
        refine congrArg (PV.int .i64) ?_
        rw [zsMailS, chain_cons, if_neg (by omega), flat_split zsMail xs (i + 1), take_flat zsMail xs hix3, List.append_assoc, chain_sub hL hL0]
        exact chain_subN (by omega) hv23_4 ec6
      · skip
        have ec6 : 0 ≤ v23_4 := lss_f hA c6
        refine go_skip ?_
        refine go_reg ?_
        refine run_aops hA 3 _ _ _ _ (by cbv) ?_
        refine ops_done ?_
        refine ⟨(S124_1 xs_r v23_4 (A.num .add .i64 n5 1)), List.length xs - (i + 1), ?_, by cbv, i + 1, v23_4, (A.num .add .i64 n5 1), rfl, ?_, rfl⟩
        · skip
          omega
        · skip
          refine ⟨by rw [add_i64 hA (by omega) (by omega)]; omega, by omega, by omega, by omega, ?_⟩
          rw [take_flat zsMail xs hix3, chain_sub hL hL0]
          exact hv23_4
    · skip
      have ec2 : (A.rlen xs_r) ≤ n5 := lss_f hA c2
      refine go_exit ⟨fun _ => ?_, fun h => absurd rfl h⟩
      refine go_seq ?_
      refine go_reg ?_
      refine run_aops hA 2 _ _ _ _ (by cbv) ?_
      refine ops_done ?_
      refine go_ret ⟨_, by cbv, ?_⟩
      show _ = (PV.int .i64 L)
      refine congrArg (PV.int .i64) ?_
      rw [zsMailS, chain_cons, if_neg (by omega), hL, List.take_of_length_le (by omega)]

theorem r_laws_szBox (A : Alg) (hA : A = std) (x : GBox) (n : Int) (h1 : 0 ≤ n) (h2 : n ≤ 1048576) (hk : ∀ k ∈ zsBox x, (k : Int) ≤ 9223372036854775807) : Real Try.prog 120 [.agg (eBox x), .int .i64 n] (.int .i64 (chain n (zsBox x))) := by
  obtain ⟨x_Valid, x_User, x_Name, x_Next, x_Mails⟩ := x
  obtain ⟨x_Mails_r, hx_Mails_r⟩ : ∃ r, r = x_Mails.map eMail := ⟨_, rfl⟩
  have lx_Mails_r : A.rlen x_Mails_r = (List.length x_Mails : Int) := rlen_map hA hx_Mails_r
  refine real_args (args' := [.agg [.int .i64 x_Valid, .str x_User, .str x_Name, .int .i64 x_Next, .sl 3 x_Mails_r], .int .i64 n]) (by subst hx_Mails_r; rfl) ?_
  have hk0 : (ByteArray.size x_User : Int) ≤ 9223372036854775807 := hk _ (by simp [zsBox])
  have hk1 : (ByteArray.size x_Name : Int) ≤ 9223372036854775807 := hk _ (by simp [zsBox])
  refine real tyOk Try.func120 (by kernel_rfl) (afun_of rfl ?_)
  refine go_seq ?_
  refine go_reg ?_
  refine run_aops hA 2 _ _ _ _ (by cbv) ?_
  refine ops_done ?_
  refine go_seq ?_
  refine go_reg ?_
  refine run_aops hA 6 _ _ _ _ (by cbv) ?_
  refine ops_done ?_
  refine go_seq ?_
  refine go_seq ?_
  have w0 : (A.num .sub .i64 n (A.slen x_User)) = n - (ByteArray.size x_User : Int) := by
    rw [slen_eq hA x_User]; exact sub_i64 hA (by omega) (by omega)
  refine go_reg ?_
  refine run_aops hA 2 _ _ _ _ (by cbv) ?_
  refine ops_done ?_
  refine go_cond rfl (fun c1 => ?_) (fun c1 => ?_)
  · skip
    have ec1 : (A.num .sub .i64 n (A.slen x_User)) < 0 := lss_t hA c1
    refine go_seq ?_
    refine go_reg ?_
    refine run_aops hA 1 _ _ _ _ (by cbv) ?_
    refine ops_done ?_
    refine go_ret ⟨_, by cbv, ?_⟩
    show _ = (PV.int .i64 (-1))
    show PV.int _ _ = PV.int _ _
    refine congrArg (PV.int .i64) ?_
    simp only [zsBox]
    exact chain_strN w0 ec1
  · skip
    have ec1 : 0 ≤ (A.num .sub .i64 n (A.slen x_User)) := lss_f hA c1
    refine go_skip ?_
    refine go_seq ?_
    refine go_reg ?_
    refine run_aops hA 6 _ _ _ _ (by cbv) ?_
    refine ops_done ?_
    refine go_seq ?_
    refine go_seq ?_
    have w1 : (A.num .sub .i64 (A.num .sub .i64 n (A.slen x_User)) (A.slen x_Name)) = (A.num .sub .i64 n (A.slen x_User)) - (ByteArray.size x_Name : Int) := by
      rw [slen_eq hA x_Name]; exact sub_i64 hA (by omega) (by omega)
    refine go_reg ?_
    refine run_aops hA 2 _ _ _ _ (by cbv) ?_
    refine ops_done ?_
    refine go_cond rfl (fun c2 => ?_) (fun c2 => ?_)
    · skip
      have ec2 : (A.num .sub .i64 (A.num .sub .i64 n (A.slen x_User)) (A.slen x_Name)) < 0 := lss_t hA c2
      refine go_seq ?_
      refine go_reg ?_
      refine run_aops hA 1 _ _ _ _ (by cbv) ?_
      refine ops_done ?_
      refine go_ret ⟨_, by cbv, ?_⟩
      show _ = (PV.int .i64 (-1))
      show PV.int _ _ = PV.int _ _
      refine congrArg (PV.int .i64) ?_
      simp only [zsBox]
      rw [chain_str w0 ec1]
      exact chain_strN w1 ec2
    · skip
      have ec2 : 0 ≤ (A.num .sub .i64 (A.num .sub .i64 n (A.slen x_User)) (A.slen x_Name)) := lss_f hA c2
      refine go_skip ?_
      refine go_seq ?_
      refine go_reg ?_
      refine run_aops hA 3 _ _ _ _ (by cbv) ?_
      obtain ⟨v22_3, hv22_3, hc4⟩ : ∃ (v22_3 : Int), v22_3 = (chain (A.num .sub .i64 (A.num .sub .i64 n (A.slen x_User)) (A.slen x_Name)) (zsMailS x_Mails)) ∧ Real Try.prog 124 [.sl 3 x_Mails_r, .int .i64 (A.num .sub .i64 (A.num .sub .i64 n (A.slen x_User)) (A.slen x_Name))] (.int .i64 v22_3) := ⟨_, rfl, by subst hx_Mails_r; exact r_laws_szMailS A hA x_Mails (A.num .sub .i64 (A.num .sub .i64 n (A.slen x_User)) (A.slen x_Name)) (by omega) (by omega) (fun k h => hk k (by simp only [zsBox, List.mem_append]; simp only [h, true_or, or_true]))⟩
      refine ops_callV rfl rfl (by cbv) (by cbv) hc4 (.inr rfl) (by cbv) ?_
      have bv22_3 := chain_bd hv22_3 (by omega)
      refine run_aops hA 1 _ _ _ _ (by cbv) ?_
      refine ops_done ?_
      refine go_seq ?_
      refine go_seq ?_
      refine go_reg ?_
      refine run_aops hA 2 _ _ _ _ (by cbv) ?_
      refine ops_done ?_
      refine go_cond rfl (fun c5 => ?_) (fun c5 => ?_)
      · skip
        have ec5 : v22_3 < 0 := lss_t hA c5
        refine go_seq ?_
        refine go_reg ?_
        refine run_aops hA 1 _ _ _ _ (by cbv) ?_
        refine ops_done ?_
        refine go_ret ⟨_, by cbv, ?_⟩
        show _ = (PV.int .i64 (-1))
        show PV.int _ _ = PV.int _ _
        refine congrArg (PV.int .i64) ?_
        simp only [zsBox]
        rw [chain_str w0 ec1]
        rw [chain_str w1 ec2]
        exact chain_subN (by omega) hv22_3 ec5
      · skip
        have ec5 : 0 ≤ v22_3 := lss_f hA c5
        refine go_skip ?_
        refine go_seq ?_
        refine go_reg ?_
        refine run_aops hA 2 _ _ _ _ (by cbv) ?_
        refine ops_done ?_
        refine go_ret ⟨_, by cbv, ?_⟩
        show _ = (PV.int .i64 v22_3)
        show PV.int _ _ = PV.int _ _
        refine congrArg (PV.int .i64) ?_
        simp only [zsBox]
        rw [chain_str w0 ec1]
        rw [chain_str w1 ec2]
        rw [chain_sub hv22_3 ec5]
        rfl

def S80_1 (p0 : List (List PV)) (p1 : Int) (p2 : Int) : St := { sl := [.sl 5 p0, .int .i64 p1, .bad, .bad, .bad, .int .i64 p2, .bad, .bad, .bad, .bad, .bad, .bad, .bad, .bad, .bad, .bad, .bad, .bad, .bad, .bad, .bad, .bad, .bad, .bad, .bad, .bad, .bad], bl := [] }
theorem r_laws_szBoxS (A : Alg) (hA : A = std) (xs : List GBox) (n : Int) (h1 : 0 ≤ n) (h2 : n ≤ 1048576) (hk : ∀ k ∈ zsBoxS xs, (k : Int) ≤ 9223372036854775807) : Real Try.prog 80 [.sl 5 (List.map eBox xs), .int .i64 n] (.int .i64 (chain n (zsBoxS xs))) := by
  obtain ⟨xs_r, hxs_r⟩ : ∃ r, r = xs.map eBox := ⟨_, rfl⟩
  have lxs_r : A.rlen xs_r = (List.length xs : Int) := rlen_map hA hxs_r
  refine real_args (args' := [.sl 5 xs_r, .int .i64 n]) (by subst hxs_r; rfl) ?_
  have hlen : (List.length xs : Int) ≤ 9223372036854775807 := hk _ (by simp [zsBoxS])
  refine real tyOk Try.func80 (by kernel_rfl) (afun_of rfl ?_)
  refine go_seq ?_
  refine go_reg ?_
  refine run_aops hA 1 _ _ _ _ (by cbv) ?_
  refine ops_done ?_
  refine go_seq ?_
  refine go_reg ?_
  refine run_aops hA 5 _ _ _ _ (by cbv) ?_
  refine ops_done ?_
  refine go_seq ?_
  refine go_seq ?_
  have w0 : A.num .sub .i64 n (A.rlen xs_r) = n - (List.length xs : Int) := by
    rw [lxs_r]; exact sub_i64 hA (by omega) (by omega)
  refine go_reg ?_
  refine run_aops hA 2 _ _ _ _ (by cbv) ?_
  refine ops_done ?_
  refine go_cond rfl (fun c1 => ?_) (fun c1 => ?_)
  · skip
    have ec1 : (A.num .sub .i64 n (A.rlen xs_r)) < 0 := lss_t hA c1
    refine go_seq ?_
    refine go_reg ?_
    refine run_aops hA 1 _ _ _ _ (by cbv) ?_
    refine ops_done ?_
    refine go_ret ⟨_, by cbv, ?_⟩
    show _ = (PV.int .i64 (-1))
    refine congrArg (PV.int .i64) ?_
    rw [zsBoxS, chain_cons, if_pos (by omega)]
  · skip
    have ec1 : 0 ≤ (A.num .sub .i64 n (A.rlen xs_r)) := lss_f hA c1
    refine go_skip ?_
    refine go_seq ?_
    refine go_seq ?_
    refine go_reg ?_
    refine run_aops hA 1 _ _ _ _ (by cbv) ?_
    refine ops_done ?_
    refine go_block ?_
    refine go_loopE (fun σ m => ∃ (i : Nat) (L : Int) (n5 : Int), σ = (S80_1 xs_r L n5) ∧ (n5 = (i : Int) ∧ i ≤ List.length xs ∧ 0 ≤ L ∧ L ≤ 1048576 ∧ L = chain (n - (List.length xs : Int)) ((xs.take i).flatMap zsBox)) ∧ m = List.length xs - i) _ [] [0, 1, 5] [] (S80_1 xs_r (A.num .sub .i64 n (A.rlen xs_r)) 0) rfl (by cbv) ⟨0, (A.num .sub .i64 n (A.rlen xs_r)), 0, rfl, ?_, rfl⟩ (fun σ m hI => ?_)
    · skip
      exact ⟨rfl, Nat.zero_le _, by omega, by omega, w0⟩
    obtain ⟨i, L, n5, rfl, ⟨hn5, hi, hL0, hL1, hL⟩, rfl⟩ := hI
    refine go_seq ?_
    refine go_seq ?_
    refine go_reg ?_
    refine run_aops hA 4 _ _ _ _ (by cbv) ?_
    refine ops_done ?_
    refine go_cond rfl (fun c2 => ?_) (fun c2 => ?_)
    · skip
      have ec2 : n5 < (A.rlen xs_r) := lss_t hA c2
      refine go_skip ?_
      refine go_seq ?_
      refine go_block ?_
      refine go_seq ?_
      refine go_reg ?_
      refine run_aops hA 2 _ _ _ _ (by cbv) ?_
      have h0x3 : (0 : Int) ≤ n5 := by
        omega
      have hlx3 : (Int.toNat n5) < List.length xs := by
        omega
      obtain ⟨x3, hx3⟩ : ∃ x, (xs)[(Int.toNat n5)]? = some x := ⟨_, List.getElem?_eq_getElem hlx3⟩
      have hmx3 := List.mem_of_getElem? hx3
      obtain ⟨x3_Valid, x3_User, x3_Name, x3_Next, x3_Mails⟩ := x3
      obtain ⟨x3_Mails_r, hx3_Mails_r⟩ : ∃ r, r = x3_Mails.map eMail := ⟨_, rfl⟩
      have lx3_Mails_r : A.rlen x3_Mails_r = (List.length x3_Mails : Int) := rlen_map hA hx3_Mails_r
      have hrx3 : xs_r[(Int.toNat n5)]? = some [.int .i64 x3_Valid, .str x3_User, .str x3_Name, .int .i64 x3_Next, .sl 3 x3_Mails_r] := by
        subst hx3_Mails_r; exact map_at eBox hxs_r hx3
      have hix3 : xs[i]? = some (⟨x3_Valid, x3_User, x3_Name, x3_Next, x3_Mails⟩ : GBox) := by
        have h := hx3; rw [hn5] at h; exact h
      have hkx := fun (k : Nat) h => hk k (List.mem_cons_of_mem _ (List.mem_flatMap.2 ⟨_, hmx3, h⟩))
      refine ops_step rfl rfl (idx_sl rfl rfl rfl rfl rfl h0x3 rfl hrx3) ?_
      refine run_aops hA 2 _ _ _ _ (by cbv) ?_
      obtain ⟨v23_4, hv23_4, hc5⟩ : ∃ (v23_4 : Int), v23_4 = (chain L (zsBox (⟨x3_Valid, x3_User, x3_Name, x3_Next, x3_Mails⟩ : GBox))) ∧ Real Try.prog 120 [.agg [.int .i64 x3_Valid, .str x3_User, .str x3_Name, .int .i64 x3_Next, .sl 3 x3_Mails_r], .int .i64 L] (.int .i64 v23_4) := ⟨_, rfl, by subst hx3_Mails_r; exact r_laws_szBox A hA (⟨x3_Valid, x3_User, x3_Name, x3_Next, x3_Mails⟩ : GBox) L (by omega) (by omega) hkx⟩
      refine ops_callV rfl rfl (by cbv) (by cbv) hc5 (.inr rfl) (by cbv) ?_
      have bv23_4 := chain_bd hv23_4 (by omega)
      refine run_aops hA 1 _ _ _ _ (by cbv) ?_
      refine ops_done ?_
      refine go_seq ?_
      skip
      refine go_reg ?_
      refine run_aops hA 2 _ _ _ _ (by cbv) ?_
      refine ops_done ?_
      refine go_cond rfl (fun c6 => ?_) (fun c6 => ?_)
      · skip
        have ec6 : v23_4 < 0 := lss_t hA c6
        refine go_seq ?_
        refine go_reg ?_
        refine run_aops hA 1 _ _ _ _ (by cbv) ?_
        refine ops_done ?_
        refine go_ret ⟨_, by cbv, ?_⟩
        show _ = (PV.int .i64 (-1))
        refine congrArg (PV.int .i64) ?_
        rw [zsBoxS, chain_cons, if_neg (by omega), flat_split zsBox xs (i + 1), take_flat zsBox xs hix3, List.append_assoc, chain_sub hL hL0]
        exact chain_subN (by omega) hv23_4 ec6
      · skip
        have ec6 : 0 ≤ v23_4 := lss_f hA c6
        refine go_skip ?_
        refine go_reg ?_
        refine run_aops hA 3 _ _ _ _ (by cbv) ?_
        refine ops_done ?_
        refine ⟨(S80_1 xs_r v23_4 (A.num .add .i64 n5 1)), List.length xs - (i + 1), ?_, by cbv, i + 1, v23_4, (A.num .add .i64 n5 1), rfl, ?_, rfl⟩
        · skip
          omega
        · skip
          refine ⟨by rw [add_i64 hA (by omega) (by omega)]; omega, by omega, by omega, by omega, ?_⟩
          rw [take_flat zsBox xs hix3, chain_sub hL hL0]
          exact hv23_4
    · skip
      have ec2 : (A.rlen xs_r) ≤ n5 := lss_f hA c2
      refine go_exit ⟨fun _ => ?_, fun h => absurd rfl h⟩
      refine go_seq ?_
      refine go_reg ?_
      refine run_aops hA 2 _ _ _ _ (by cbv) ?_
      refine ops_done ?_
      refine go_ret ⟨_, by cbv, ?_⟩
      show _ = (PV.int .i64 L)
      refine congrArg (PV.int .i64) ?_
      rw [zsBoxS, chain_cons, if_neg (by omega), hL, List.take_of_length_le (by omega)]

theorem r_laws_szState (A : Alg) (hA : A = std) (x : GState) (n : Int) (h1 : 0 ≤ n) (h2 : n ≤ 1048576) (hk : ∀ k ∈ zsState x, (k : Int) ≤ 9223372036854775807) : Real Try.prog 47 [.agg (eState x), .int .i64 n] (.int .i64 (chain n (zsState x))) := by
  obtain ⟨x_Boxes⟩ := x
  obtain ⟨x_Boxes_r, hx_Boxes_r⟩ : ∃ r, r = x_Boxes.map eBox := ⟨_, rfl⟩
  have lx_Boxes_r : A.rlen x_Boxes_r = (List.length x_Boxes : Int) := rlen_map hA hx_Boxes_r
  refine real_args (args' := [.agg [.sl 5 x_Boxes_r], .int .i64 n]) (by subst hx_Boxes_r; rfl) ?_
  refine real tyOk Try.func47 (by kernel_rfl) (afun_of rfl ?_)
  refine go_seq ?_
  refine go_reg ?_
  refine run_aops hA 2 _ _ _ _ (by cbv) ?_
  refine ops_done ?_
  refine go_seq ?_
  refine go_reg ?_
  refine run_aops hA 3 _ _ _ _ (by cbv) ?_
  obtain ⟨v8_1, hv8_1, hc2⟩ : ∃ (v8_1 : Int), v8_1 = (chain n (zsBoxS x_Boxes)) ∧ Real Try.prog 80 [.sl 5 x_Boxes_r, .int .i64 n] (.int .i64 v8_1) := ⟨_, rfl, by subst hx_Boxes_r; exact r_laws_szBoxS A hA x_Boxes n (by omega) (by omega) (fun k h => hk k (by simp only [zsState, List.mem_append]; simp only [h, true_or, or_true]))⟩
  refine ops_callV rfl rfl (by cbv) (by cbv) hc2 (.inr rfl) (by cbv) ?_
  have bv8_1 := chain_bd hv8_1 (by omega)
  refine run_aops hA 1 _ _ _ _ (by cbv) ?_
  refine ops_done ?_
  refine go_seq ?_
  refine go_seq ?_
  refine go_reg ?_
  refine run_aops hA 2 _ _ _ _ (by cbv) ?_
  refine ops_done ?_
  refine go_cond rfl (fun c3 => ?_) (fun c3 => ?_)
  · skip
    have ec3 : v8_1 < 0 := lss_t hA c3
    refine go_seq ?_
    refine go_reg ?_
    refine run_aops hA 1 _ _ _ _ (by cbv) ?_
    refine ops_done ?_
    refine go_ret ⟨_, by cbv, ?_⟩
    show _ = (PV.int .i64 (-1))
    show PV.int _ _ = PV.int _ _
    refine congrArg (PV.int .i64) ?_
    simp only [zsState]
    exact chain_subN (by omega) hv8_1 ec3
  · skip
    have ec3 : 0 ≤ v8_1 := lss_f hA c3
    refine go_skip ?_
    refine go_seq ?_
    refine go_reg ?_
    refine run_aops hA 2 _ _ _ _ (by cbv) ?_
    refine ops_done ?_
    refine go_ret ⟨_, by cbv, ?_⟩
    show _ = (PV.int .i64 v8_1)
    show PV.int _ _ = PV.int _ _
    refine congrArg (PV.int .i64) ?_
    simp only [zsState]
    rw [chain_sub hv8_1 ec3]
    rfl

theorem r_laws_szCut (A : Alg) (hA : A = std) (x : GCut) (n : Int) (h1 : 0 ≤ n) (h2 : n ≤ 1048576) (hk : ∀ k ∈ zsCut x, (k : Int) ≤ 9223372036854775807) : Real Try.prog 15 [.agg (eCut x), .int .i64 n] (.int .i64 (chain n (zsCut x))) := by
  obtain ⟨⟨x_Before_Boxes⟩, ⟨x_After_Boxes⟩, ⟨x_Risen_Boxes⟩, x_Ok, x_Clash⟩ := x
  obtain ⟨x_Before_Boxes_r, hx_Before_Boxes_r⟩ : ∃ r, r = x_Before_Boxes.map eBox := ⟨_, rfl⟩
  have lx_Before_Boxes_r : A.rlen x_Before_Boxes_r = (List.length x_Before_Boxes : Int) := rlen_map hA hx_Before_Boxes_r
  obtain ⟨x_After_Boxes_r, hx_After_Boxes_r⟩ : ∃ r, r = x_After_Boxes.map eBox := ⟨_, rfl⟩
  have lx_After_Boxes_r : A.rlen x_After_Boxes_r = (List.length x_After_Boxes : Int) := rlen_map hA hx_After_Boxes_r
  obtain ⟨x_Risen_Boxes_r, hx_Risen_Boxes_r⟩ : ∃ r, r = x_Risen_Boxes.map eBox := ⟨_, rfl⟩
  have lx_Risen_Boxes_r : A.rlen x_Risen_Boxes_r = (List.length x_Risen_Boxes : Int) := rlen_map hA hx_Risen_Boxes_r
  refine real_args (args' := [.agg [.sl 5 x_Before_Boxes_r, .sl 5 x_After_Boxes_r, .sl 5 x_Risen_Boxes_r, .bool x_Ok, .bool x_Clash], .int .i64 n]) (by subst hx_Before_Boxes_r hx_After_Boxes_r hx_Risen_Boxes_r; rfl) ?_
  refine real tyOk Try.func15 (by kernel_rfl) (afun_of rfl ?_)
  refine go_seq ?_
  refine go_reg ?_
  refine run_aops hA 2 _ _ _ _ (by cbv) ?_
  refine ops_done ?_
  refine go_seq ?_
  refine go_reg ?_
  refine run_aops hA 3 _ _ _ _ (by cbv) ?_
  obtain ⟨v8_1, hv8_1, hc2⟩ : ∃ (v8_1 : Int), v8_1 = (chain n (zsState (⟨x_Before_Boxes⟩ : GState))) ∧ Real Try.prog 47 [.agg [.sl 5 x_Before_Boxes_r], .int .i64 n] (.int .i64 v8_1) := ⟨_, rfl, by subst hx_Before_Boxes_r; exact r_laws_szState A hA (⟨x_Before_Boxes⟩ : GState) n (by omega) (by omega) (fun k h => hk k (by simp only [zsCut, List.mem_append]; simp only [h, true_or, or_true]))⟩
  refine ops_callV rfl rfl (by cbv) (by cbv) hc2 (.inr rfl) (by cbv) ?_
  have bv8_1 := chain_bd hv8_1 (by omega)
  refine run_aops hA 1 _ _ _ _ (by cbv) ?_
  refine ops_done ?_
  refine go_seq ?_
  refine go_seq ?_
  refine go_reg ?_
  refine run_aops hA 2 _ _ _ _ (by cbv) ?_
  refine ops_done ?_
  refine go_cond rfl (fun c3 => ?_) (fun c3 => ?_)
  · skip
    have ec3 : v8_1 < 0 := lss_t hA c3
    refine go_seq ?_
    refine go_reg ?_
    refine run_aops hA 1 _ _ _ _ (by cbv) ?_
    refine ops_done ?_
    refine go_ret ⟨_, by cbv, ?_⟩
    show _ = (PV.int .i64 (-1))
    show PV.int _ _ = PV.int _ _
    refine congrArg (PV.int .i64) ?_
    simp only [zsCut]
    exact chain_subN (by omega) hv8_1 ec3
  · skip
    have ec3 : 0 ≤ v8_1 := lss_f hA c3
    refine go_skip ?_
    refine go_seq ?_
    refine go_reg ?_
    refine run_aops hA 3 _ _ _ _ (by cbv) ?_
    obtain ⟨v14_4, hv14_4, hc5⟩ : ∃ (v14_4 : Int), v14_4 = (chain v8_1 (zsState (⟨x_After_Boxes⟩ : GState))) ∧ Real Try.prog 47 [.agg [.sl 5 x_After_Boxes_r], .int .i64 v8_1] (.int .i64 v14_4) := ⟨_, rfl, by subst hx_After_Boxes_r; exact r_laws_szState A hA (⟨x_After_Boxes⟩ : GState) v8_1 (by omega) (by omega) (fun k h => hk k (by simp only [zsCut, List.mem_append]; simp only [h, true_or, or_true]))⟩
    refine ops_callV rfl rfl (by cbv) (by cbv) hc5 (.inr rfl) (by cbv) ?_
    have bv14_4 := chain_bd hv14_4 (by omega)
    refine run_aops hA 1 _ _ _ _ (by cbv) ?_
    refine ops_done ?_
    refine go_seq ?_
    refine go_seq ?_
    refine go_reg ?_
    refine run_aops hA 2 _ _ _ _ (by cbv) ?_
    refine ops_done ?_
    refine go_cond rfl (fun c6 => ?_) (fun c6 => ?_)
    · skip
      have ec6 : v14_4 < 0 := lss_t hA c6
      refine go_seq ?_
      refine go_reg ?_
      refine run_aops hA 1 _ _ _ _ (by cbv) ?_
      refine ops_done ?_
      refine go_ret ⟨_, by cbv, ?_⟩
      show _ = (PV.int .i64 (-1))
      show PV.int _ _ = PV.int _ _
      refine congrArg (PV.int .i64) ?_
      simp only [zsCut]
      rw [chain_sub hv8_1 ec3]
      exact chain_subN (by omega) hv14_4 ec6
    · skip
      have ec6 : 0 ≤ v14_4 := lss_f hA c6
      refine go_skip ?_
      refine go_seq ?_
      refine go_reg ?_
      refine run_aops hA 3 _ _ _ _ (by cbv) ?_
      obtain ⟨v20_7, hv20_7, hc8⟩ : ∃ (v20_7 : Int), v20_7 = (chain v14_4 (zsState (⟨x_Risen_Boxes⟩ : GState))) ∧ Real Try.prog 47 [.agg [.sl 5 x_Risen_Boxes_r], .int .i64 v14_4] (.int .i64 v20_7) := ⟨_, rfl, by subst hx_Risen_Boxes_r; exact r_laws_szState A hA (⟨x_Risen_Boxes⟩ : GState) v14_4 (by omega) (by omega) (fun k h => hk k (by simp only [zsCut, List.mem_append]; simp only [h, true_or, or_true]))⟩
      refine ops_callV rfl rfl (by cbv) (by cbv) hc8 (.inr rfl) (by cbv) ?_
      have bv20_7 := chain_bd hv20_7 (by omega)
      refine run_aops hA 1 _ _ _ _ (by cbv) ?_
      refine ops_done ?_
      refine go_seq ?_
      refine go_seq ?_
      refine go_reg ?_
      refine run_aops hA 2 _ _ _ _ (by cbv) ?_
      refine ops_done ?_
      refine go_cond rfl (fun c9 => ?_) (fun c9 => ?_)
      · skip
        have ec9 : v20_7 < 0 := lss_t hA c9
        refine go_seq ?_
        refine go_reg ?_
        refine run_aops hA 1 _ _ _ _ (by cbv) ?_
        refine ops_done ?_
        refine go_ret ⟨_, by cbv, ?_⟩
        show _ = (PV.int .i64 (-1))
        show PV.int _ _ = PV.int _ _
        refine congrArg (PV.int .i64) ?_
        simp only [zsCut]
        rw [chain_sub hv8_1 ec3]
        rw [chain_sub hv14_4 ec6]
        exact chain_subN (by omega) hv20_7 ec9
      · skip
        have ec9 : 0 ≤ v20_7 := lss_f hA c9
        refine go_skip ?_
        refine go_seq ?_
        refine go_reg ?_
        refine run_aops hA 2 _ _ _ _ (by cbv) ?_
        refine ops_done ?_
        refine go_ret ⟨_, by cbv, ?_⟩
        show _ = (PV.int .i64 v20_7)
        show PV.int _ _ = PV.int _ _
        refine congrArg (PV.int .i64) ?_
        simp only [zsCut]
        rw [chain_sub hv8_1 ec3]
        rw [chain_sub hv14_4 ec6]
        rw [chain_sub hv20_7 ec9]
        rfl
end Go.Av
