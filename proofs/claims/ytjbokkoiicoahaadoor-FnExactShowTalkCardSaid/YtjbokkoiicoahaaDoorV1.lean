/- Walks: sz of boxes and lists of sessions. -/
import Derived.Test.YtjbokkoiicoahaaDoorTy
namespace Go.Av
open Go Go.Proofs
set_option maxRecDepth 100000
set_option maxHeartbeats 4000000
set_option linter.unusedVariables false
set_option linter.unusedSimpArgs false
theorem r_laws_szMail (A : Alg) (hA : A = std) (x : GMail) (n : Int) (h1 : 0 ≤ n) (h2 : n ≤ 1048576) (hk : ∀ k ∈ zsMail x, (k : Int) ≤ 9223372036854775807) : Real Tryd.prog 29 [.agg (eMail x), .int .i64 n] (.int .i64 (chain n (zsMail x))) := by
  obtain ⟨x_Uid, x_Flags, x_Text⟩ := x
  refine real_args (args' := [.agg [.int .i64 x_Uid, .int .i64 x_Flags, .str x_Text], .int .i64 n]) (by rfl) ?_
  have hk0 : (ByteArray.size x_Text : Int) ≤ 9223372036854775807 := hk _ (by simp [zsMail])
  refine real tyOk Tryd.func29 (by kernel_rfl) (afun_of rfl ?_)
  refine go_seq ?_
  refine go_reg ?_
  refine run_aops hA 2 _ _ _ _ (by cbv) ?_
  refine ops_done ?_
  refine go_seq ?_
  refine go_reg ?_
  refine run_aops hA 6 _ _ _ _ (by cbv) ?_
  refine ops_done ?_
  refine go_seq ?_
  refine go_seq ?_
  have w0 : (A.num .sub .i64 n (A.slen x_Text)) = n - (ByteArray.size x_Text : Int) := by
    rw [slen_eq hA x_Text]; exact sub_i64 hA (by omega) (by omega)
  refine go_reg ?_
  refine run_aops hA 2 _ _ _ _ (by cbv) ?_
  refine ops_done ?_
  refine go_cond rfl (fun c1 => ?_) (fun c1 => ?_)
  · skip
    have ec1 : (A.num .sub .i64 n (A.slen x_Text)) < 0 := lss_t hA c1
    refine go_seq ?_
    refine go_reg ?_
    refine run_aops hA 1 _ _ _ _ (by cbv) ?_
    refine ops_done ?_
    refine go_ret ⟨_, by cbv, ?_⟩
    show _ = (PV.int .i64 (-1))
    show PV.int _ _ = PV.int _ _
    refine congrArg (PV.int .i64) ?_
    simp only [zsMail]
    exact chain_strN w0 ec1
  · skip
    have ec1 : 0 ≤ (A.num .sub .i64 n (A.slen x_Text)) := lss_f hA c1
    refine go_skip ?_
    refine go_seq ?_
    refine go_reg ?_
    refine run_aops hA 2 _ _ _ _ (by cbv) ?_
    refine ops_done ?_
    refine go_ret ⟨_, by cbv, ?_⟩
    show _ = (PV.int .i64 (A.num .sub .i64 n (A.slen x_Text)))
    show PV.int _ _ = PV.int _ _
    refine congrArg (PV.int .i64) ?_
    simp only [zsMail]
    rw [chain_str w0 ec1]
    rfl

def S15_1 (p0 : List (List PV)) (p1 : Int) (p2 : Int) : St := { sl := [.sl 3 p0, .int .i64 p1, .bad, .bad, .bad, .int .i64 p2, .bad, .bad, .bad, .bad, .bad, .bad, .bad, .bad, .bad, .bad, .bad, .bad, .bad, .bad, .bad, .bad, .bad, .bad, .bad, .bad, .bad], bl := [] }
theorem r_laws_szMailS (A : Alg) (hA : A = std) (xs : List GMail) (n : Int) (h1 : 0 ≤ n) (h2 : n ≤ 1048576) (hk : ∀ k ∈ zsMailS xs, (k : Int) ≤ 9223372036854775807) : Real Tryd.prog 15 [.sl 3 (List.map eMail xs), .int .i64 n] (.int .i64 (chain n (zsMailS xs))) := by
  obtain ⟨xs_r, hxs_r⟩ : ∃ r, r = xs.map eMail := ⟨_, rfl⟩
  have lxs_r : A.rlen xs_r = (List.length xs : Int) := rlen_map hA hxs_r
  refine real_args (args' := [.sl 3 xs_r, .int .i64 n]) (by subst hxs_r; rfl) ?_
  have hlen : (List.length xs : Int) ≤ 9223372036854775807 := hk _ (by simp [zsMailS])
  refine real tyOk Tryd.func15 (by kernel_rfl) (afun_of rfl ?_)
  refine go_seq ?_
  refine go_reg ?_
  refine run_aops hA 1 _ _ _ _ (by cbv) ?_
  refine ops_done ?_
  refine go_seq ?_
  refine go_reg ?_
  refine run_aops hA 5 _ _ _ _ (by cbv) ?_
  refine ops_done ?_
  refine go_seq ?_
  refine go_seq ?_
  have w0 : A.num .sub .i64 n (A.rlen xs_r) = n - (List.length xs : Int) := by
    rw [lxs_r]; exact sub_i64 hA (by omega) (by omega)
  refine go_reg ?_
  refine run_aops hA 2 _ _ _ _ (by cbv) ?_
  refine ops_done ?_
  refine go_cond rfl (fun c1 => ?_) (fun c1 => ?_)
  · skip
    have ec1 : (A.num .sub .i64 n (A.rlen xs_r)) < 0 := lss_t hA c1
    refine go_seq ?_
    refine go_reg ?_
    refine run_aops hA 1 _ _ _ _ (by cbv) ?_
    refine ops_done ?_
    refine go_ret ⟨_, by cbv, ?_⟩
    show _ = (PV.int .i64 (-1))
    refine congrArg (PV.int .i64) ?_
    rw [zsMailS, chain_cons, if_pos (by omega)]
  · skip
    have ec1 : 0 ≤ (A.num .sub .i64 n (A.rlen xs_r)) := lss_f hA c1
    refine go_skip ?_
    refine go_seq ?_
    refine go_seq ?_
    refine go_reg ?_
    refine run_aops hA 1 _ _ _ _ (by cbv) ?_
    refine ops_done ?_
    refine go_block ?_
    refine go_loopE (fun σ m => ∃ (i : Nat) (L : Int) (n5 : Int), σ = (S15_1 xs_r L n5) ∧ (n5 = (i : Int) ∧ i ≤ List.length xs ∧ 0 ≤ L ∧ L ≤ 1048576 ∧ L = chain (n - (List.length xs : Int)) ((xs.take i).flatMap zsMail)) ∧ m = List.length xs - i) _ [] [0, 1, 5] [] (S15_1 xs_r (A.num .sub .i64 n (A.rlen xs_r)) 0) rfl (by cbv) ⟨0, (A.num .sub .i64 n (A.rlen xs_r)), 0, rfl, ?_, rfl⟩ (fun σ m hI => ?_)
    · skip
      exact ⟨rfl, Nat.zero_le _, by omega, by omega, w0⟩
    obtain ⟨i, L, n5, rfl, ⟨hn5, hi, hL0, hL1, hL⟩, rfl⟩ := hI
    refine go_seq ?_
    refine go_seq ?_
    refine go_reg ?_
    refine run_aops hA 4 _ _ _ _ (by cbv) ?_
    refine ops_done ?_
    refine go_cond rfl (fun c2 => ?_) (fun c2 => ?_)
    · skip
      have ec2 : n5 < (A.rlen xs_r) := lss_t hA c2
      refine go_skip ?_
      refine go_seq ?_
      refine go_block ?_
      refine go_seq ?_
      refine go_reg ?_
      refine run_aops hA 2 _ _ _ _ (by cbv) ?_
      have h0x3 : (0 : Int) ≤ n5 := by
        omega
      have hlx3 : (Int.toNat n5) < List.length xs := by
        omega
      obtain ⟨x3, hx3⟩ : ∃ x, (xs)[(Int.toNat n5)]? = some x := ⟨_, List.getElem?_eq_getElem hlx3⟩
      have hmx3 := List.mem_of_getElem? hx3
      obtain ⟨x3_Uid, x3_Flags, x3_Text⟩ := x3
      have hrx3 : xs_r[(Int.toNat n5)]? = some [.int .i64 x3_Uid, .int .i64 x3_Flags, .str x3_Text] := by
        exact map_at eMail hxs_r hx3
      have hix3 : xs[i]? = some (⟨x3_Uid, x3_Flags, x3_Text⟩ : GMail) := by
        have h := hx3; rw [hn5] at h; exact h
      have hkx := fun (k : Nat) h => hk k (List.mem_cons_of_mem _ (List.mem_flatMap.2 ⟨_, hmx3, h⟩))
      refine ops_step rfl rfl (idx_sl rfl rfl rfl rfl rfl h0x3 rfl hrx3) ?_
      refine run_aops hA 2 _ _ _ _ (by cbv) ?_
      obtain ⟨v23_4, hv23_4, hc5⟩ : ∃ (v23_4 : Int), v23_4 = (chain L (zsMail (⟨x3_Uid, x3_Flags, x3_Text⟩ : GMail))) ∧ Real Tryd.prog 29 [.agg [.int .i64 x3_Uid, .int .i64 x3_Flags, .str x3_Text], .int .i64 L] (.int .i64 v23_4) := ⟨_, rfl, by exact r_laws_szMail A hA (⟨x3_Uid, x3_Flags, x3_Text⟩ : GMail) L (by omega) (by omega) hkx⟩
      refine ops_callV rfl rfl (by cbv) (by cbv) hc5 (.inr rfl) (by cbv) ?_
      have bv23_4 := chain_bd hv23_4 (by omega)
      refine run_aops hA 1 _ _ _ _ (by cbv) ?_
      refine ops_done ?_
      refine go_seq ?_
      skip
      refine go_reg ?_
      refine run_aops hA 2 _ _ _ _ (by cbv) ?_
      refine ops_done ?_
      refine go_cond rfl (fun c6 => ?_) (fun c6 => ?_)
      · skip
        have ec6 : v23_4 < 0 := lss_t hA c6
        refine go_seq ?_
        refine go_reg ?_
        refine run_aops hA 1 _ _ _ _ (by cbv) ?_
        refine ops_done ?_
        refine go_ret ⟨_, by cbv, ?_⟩
        show _ = (PV.int .i64 (-1))
        refine congrArg (PV.int .i64) ?_
        rw [zsMailS, chain_cons, if_neg (by omega), flat_split zsMail xs (i + 1), take_flat zsMail xs hix3, List.append_assoc, chain_sub hL hL0]
        exact chain_subN (by omega) hv23_4 ec6
      · skip
        have ec6 : 0 ≤ v23_4 := lss_f hA c6
        refine go_skip ?_
        refine go_reg ?_
        refine run_aops hA 3 _ _ _ _ (by cbv) ?_
        refine ops_done ?_
        refine ⟨(S15_1 xs_r v23_4 (A.num .add .i64 n5 1)), List.length xs - (i + 1), ?_, by cbv, i + 1, v23_4, (A.num .add .i64 n5 1), rfl, ?_, rfl⟩
        · skip
          omega
        · skip
          refine ⟨by rw [add_i64 hA (by omega) (by omega)]; omega, by omega, by omega, by omega, ?_⟩
          rw [take_flat zsMail xs hix3, chain_sub hL hL0]
          exact hv23_4
    · skip
      have ec2 : (A.rlen xs_r) ≤ n5 := lss_f hA c2
      refine go_exit ⟨fun _ => ?_, fun h => absurd rfl h⟩
      refine go_seq ?_
      refine go_reg ?_
      refine run_aops hA 2 _ _ _ _ (by cbv) ?_
      refine ops_done ?_
      refine go_ret ⟨_, by cbv, ?_⟩
      show _ = (PV.int .i64 L)
      refine congrArg (PV.int .i64) ?_
      rw [zsMailS, chain_cons, if_neg (by omega), hL, List.take_of_length_le (by omega)]

theorem r_laws_szBox (A : Alg) (hA : A = std) (x : GBox) (n : Int) (h1 : 0 ≤ n) (h2 : n ≤ 1048576) (hk : ∀ k ∈ zsBox x, (k : Int) ≤ 9223372036854775807) : Real Tryd.prog 5 [.agg (eBox x), .int .i64 n] (.int .i64 (chain n (zsBox x))) := by
  obtain ⟨x_Valid, x_User, x_Name, x_Next, x_Mails⟩ := x
  obtain ⟨x_Mails_r, hx_Mails_r⟩ : ∃ r, r = x_Mails.map eMail := ⟨_, rfl⟩
  have lx_Mails_r : A.rlen x_Mails_r = (List.length x_Mails : Int) := rlen_map hA hx_Mails_r
  refine real_args (args' := [.agg [.int .i64 x_Valid, .str x_User, .str x_Name, .int .i64 x_Next, .sl 3 x_Mails_r], .int .i64 n]) (by subst hx_Mails_r; rfl) ?_
  have hk0 : (ByteArray.size x_User : Int) ≤ 9223372036854775807 := hk _ (by simp [zsBox])
  have hk1 : (ByteArray.size x_Name : Int) ≤ 9223372036854775807 := hk _ (by simp [zsBox])
  refine real tyOk Tryd.func5 (by kernel_rfl) (afun_of rfl ?_)
  refine go_seq ?_
  refine go_reg ?_
  refine run_aops hA 2 _ _ _ _ (by cbv) ?_
  refine ops_done ?_
  refine go_seq ?_
  refine go_reg ?_
  refine run_aops hA 6 _ _ _ _ (by cbv) ?_
  refine ops_done ?_
  refine go_seq ?_
  refine go_seq ?_
  have w0 : (A.num .sub .i64 n (A.slen x_User)) = n - (ByteArray.size x_User : Int) := by
    rw [slen_eq hA x_User]; exact sub_i64 hA (by omega) (by omega)
  refine go_reg ?_
  refine run_aops hA 2 _ _ _ _ (by cbv) ?_
  refine ops_done ?_
  refine go_cond rfl (fun c1 => ?_) (fun c1 => ?_)
  · skip
    have ec1 : (A.num .sub .i64 n (A.slen x_User)) < 0 := lss_t hA c1
    refine go_seq ?_
    refine go_reg ?_
    refine run_aops hA 1 _ _ _ _ (by cbv) ?_
    refine ops_done ?_
    refine go_ret ⟨_, by cbv, ?_⟩
    show _ = (PV.int .i64 (-1))
    show PV.int _ _ = PV.int _ _
    refine congrArg (PV.int .i64) ?_
    simp only [zsBox]
    exact chain_strN w0 ec1
  · skip
    have ec1 : 0 ≤ (A.num .sub .i64 n (A.slen x_User)) := lss_f hA c1
    refine go_skip ?_
    refine go_seq ?_
    refine go_reg ?_
    refine run_aops hA 6 _ _ _ _ (by cbv) ?_
    refine ops_done ?_
    refine go_seq ?_
    refine go_seq ?_
    have w1 : (A.num .sub .i64 (A.num .sub .i64 n (A.slen x_User)) (A.slen x_Name)) = (A.num .sub .i64 n (A.slen x_User)) - (ByteArray.size x_Name : Int) := by
      rw [slen_eq hA x_Name]; exact sub_i64 hA (by omega) (by omega)
    refine go_reg ?_
    refine run_aops hA 2 _ _ _ _ (by cbv) ?_
    refine ops_done ?_
    refine go_cond rfl (fun c2 => ?_) (fun c2 => ?_)
    · skip
      have ec2 : (A.num .sub .i64 (A.num .sub .i64 n (A.slen x_User)) (A.slen x_Name)) < 0 := lss_t hA c2
      refine go_seq ?_
      refine go_reg ?_
      refine run_aops hA 1 _ _ _ _ (by cbv) ?_
      refine ops_done ?_
      refine go_ret ⟨_, by cbv, ?_⟩
      show _ = (PV.int .i64 (-1))
      show PV.int _ _ = PV.int _ _
      refine congrArg (PV.int .i64) ?_
      simp only [zsBox]
      rw [chain_str w0 ec1]
      exact chain_strN w1 ec2
    · skip
      have ec2 : 0 ≤ (A.num .sub .i64 (A.num .sub .i64 n (A.slen x_User)) (A.slen x_Name)) := lss_f hA c2
      refine go_skip ?_
      refine go_seq ?_
      refine go_reg ?_
      refine run_aops hA 3 _ _ _ _ (by cbv) ?_
      obtain ⟨v22_3, hv22_3, hc4⟩ : ∃ (v22_3 : Int), v22_3 = (chain (A.num .sub .i64 (A.num .sub .i64 n (A.slen x_User)) (A.slen x_Name)) (zsMailS x_Mails)) ∧ Real Tryd.prog 15 [.sl 3 x_Mails_r, .int .i64 (A.num .sub .i64 (A.num .sub .i64 n (A.slen x_User)) (A.slen x_Name))] (.int .i64 v22_3) := ⟨_, rfl, by subst hx_Mails_r; exact r_laws_szMailS A hA x_Mails (A.num .sub .i64 (A.num .sub .i64 n (A.slen x_User)) (A.slen x_Name)) (by omega) (by omega) (fun k h => hk k (by simp only [zsBox, List.mem_append]; simp only [h, true_or, or_true]))⟩
      refine ops_callV rfl rfl (by cbv) (by cbv) hc4 (.inr rfl) (by cbv) ?_
      have bv22_3 := chain_bd hv22_3 (by omega)
      refine run_aops hA 1 _ _ _ _ (by cbv) ?_
      refine ops_done ?_
      refine go_seq ?_
      refine go_seq ?_
      refine go_reg ?_
      refine run_aops hA 2 _ _ _ _ (by cbv) ?_
      refine ops_done ?_
      refine go_cond rfl (fun c5 => ?_) (fun c5 => ?_)
      · skip
        have ec5 : v22_3 < 0 := lss_t hA c5
        refine go_seq ?_
        refine go_reg ?_
        refine run_aops hA 1 _ _ _ _ (by cbv) ?_
        refine ops_done ?_
        refine go_ret ⟨_, by cbv, ?_⟩
        show _ = (PV.int .i64 (-1))
        show PV.int _ _ = PV.int _ _
        refine congrArg (PV.int .i64) ?_
        simp only [zsBox]
        rw [chain_str w0 ec1]
        rw [chain_str w1 ec2]
        exact chain_subN (by omega) hv22_3 ec5
      · skip
        have ec5 : 0 ≤ v22_3 := lss_f hA c5
        refine go_skip ?_
        refine go_seq ?_
        refine go_reg ?_
        refine run_aops hA 2 _ _ _ _ (by cbv) ?_
        refine ops_done ?_
        refine go_ret ⟨_, by cbv, ?_⟩
        show _ = (PV.int .i64 v22_3)
        show PV.int _ _ = PV.int _ _
        refine congrArg (PV.int .i64) ?_
        simp only [zsBox]
        rw [chain_str w0 ec1]
        rw [chain_str w1 ec2]
        rw [chain_sub hv22_3 ec5]
        rfl

def S49_1 (p0 : List (List PV)) (p1 : Int) (p2 : Int) : St := { sl := [.sl 1 p0, .int .i64 p1, .bad, .bad, .bad, .int .i64 p2, .bad, .bad, .bad, .bad, .bad, .bad, .bad, .bad, .bad, .bad, .bad, .bad, .bad, .bad, .bad, .bad, .bad, .bad, .bad, .bad, .bad, .bad], bl := [] }
theorem r_laws_szStringS (A : Alg) (hA : A = std) (xs : List ByteArray) (n : Int) (h1 : 0 ≤ n) (h2 : n ≤ 1048576) (hk : ∀ k ∈ zsStringS xs, (k : Int) ≤ 9223372036854775807) : Real Tryd.prog 49 [.sl 1 (List.map eString xs), .int .i64 n] (.int .i64 (chain n (zsStringS xs))) := by
  obtain ⟨xs_r, hxs_r⟩ : ∃ r, r = xs.map eString := ⟨_, rfl⟩
  have lxs_r : A.rlen xs_r = (List.length xs : Int) := rlen_map hA hxs_r
  refine real_args (args' := [.sl 1 xs_r, .int .i64 n]) (by subst hxs_r; rfl) ?_
  have hlen : (List.length xs : Int) ≤ 9223372036854775807 := hk _ (by simp [zsStringS])
  refine real tyOk Tryd.func49 (by kernel_rfl) (afun_of rfl ?_)
  refine go_seq ?_
  refine go_reg ?_
  refine run_aops hA 1 _ _ _ _ (by cbv) ?_
  refine ops_done ?_
  refine go_seq ?_
  refine go_reg ?_
  refine run_aops hA 5 _ _ _ _ (by cbv) ?_
  refine ops_done ?_
  refine go_seq ?_
  refine go_seq ?_
  have w0 : A.num .sub .i64 n (A.rlen xs_r) = n - (List.length xs : Int) := by
    rw [lxs_r]; exact sub_i64 hA (by omega) (by omega)
  refine go_reg ?_
  refine run_aops hA 2 _ _ _ _ (by cbv) ?_
  refine ops_done ?_
  refine go_cond rfl (fun c1 => ?_) (fun c1 => ?_)
  · skip
    have ec1 : (A.num .sub .i64 n (A.rlen xs_r)) < 0 := lss_t hA c1
    refine go_seq ?_
    refine go_reg ?_
    refine run_aops hA 1 _ _ _ _ (by cbv) ?_
    refine ops_done ?_
    refine go_ret ⟨_, by cbv, ?_⟩
    show _ = (PV.int .i64 (-1))
    refine congrArg (PV.int .i64) ?_
    rw [zsStringS, chain_cons, if_pos (by omega)]
  · skip
    have ec1 : 0 ≤ (A.num .sub .i64 n (A.rlen xs_r)) := lss_f hA c1
    refine go_skip ?_
    refine go_seq ?_
    refine go_seq ?_
    refine go_reg ?_
    refine run_aops hA 1 _ _ _ _ (by cbv) ?_
    refine ops_done ?_
    refine go_block ?_
    refine go_loopE (fun σ m => ∃ (i : Nat) (L : Int) (n5 : Int), σ = (S49_1 xs_r L n5) ∧ (n5 = (i : Int) ∧ i ≤ List.length xs ∧ 0 ≤ L ∧ L ≤ 1048576 ∧ L = chain (n - (List.length xs : Int)) ((xs.take i).flatMap zsString)) ∧ m = List.length xs - i) _ [] [0, 1, 5] [] (S49_1 xs_r (A.num .sub .i64 n (A.rlen xs_r)) 0) rfl (by cbv) ⟨0, (A.num .sub .i64 n (A.rlen xs_r)), 0, rfl, ?_, rfl⟩ (fun σ m hI => ?_)
    · skip
      exact ⟨rfl, Nat.zero_le _, by omega, by omega, w0⟩
    obtain ⟨i, L, n5, rfl, ⟨hn5, hi, hL0, hL1, hL⟩, rfl⟩ := hI
    refine go_seq ?_
    refine go_seq ?_
    refine go_reg ?_
    refine run_aops hA 4 _ _ _ _ (by cbv) ?_
    refine ops_done ?_
    refine go_cond rfl (fun c2 => ?_) (fun c2 => ?_)
    · skip
      have ec2 : n5 < (A.rlen xs_r) := lss_t hA c2
      refine go_skip ?_
      refine go_seq ?_
      refine go_block ?_
      refine go_seq ?_
      refine go_reg ?_
      refine run_aops hA 3 _ _ _ _ (by cbv) ?_
      have h0x3 : (0 : Int) ≤ n5 := by
        omega
      have hlx3 : (Int.toNat n5) < List.length xs := by
        omega
      obtain ⟨x3, hx3⟩ : ∃ x, (xs)[(Int.toNat n5)]? = some x := ⟨_, List.getElem?_eq_getElem hlx3⟩
      have hmx3 := List.mem_of_getElem? hx3
      have hrx3 : xs_r[(Int.toNat n5)]? = some [.str x3] := by
        exact map_at eString hxs_r hx3
      have hix3 : xs[i]? = some x3 := by
        have h := hx3; rw [hn5] at h; exact h
      have hkx := fun (k : Nat) h => hk k (List.mem_cons_of_mem _ (List.mem_flatMap.2 ⟨_, hmx3, h⟩))
      refine ops_step rfl rfl (idx_sl rfl rfl rfl rfl rfl h0x3 rfl hrx3) ?_
      refine run_aops hA 4 _ _ _ _ (by cbv) ?_
      refine ops_done ?_
      refine go_seq ?_
      have hb1 : ((ByteArray.size x3 : Nat) : Int) ≤ 9223372036854775807 := hkx _ (by simp [zsString])
      have w1 : (A.num .sub .i64 L (A.slen x3)) = L - (ByteArray.size x3 : Int) := by
        rw [slen_eq hA x3]; exact sub_i64 hA (by omega) (by omega)
      refine go_reg ?_
      refine run_aops hA 2 _ _ _ _ (by cbv) ?_
      refine ops_done ?_
      refine go_cond rfl (fun c4 => ?_) (fun c4 => ?_)
      · skip
        have ec4 : (A.num .sub .i64 L (A.slen x3)) < 0 := lss_t hA c4
        refine go_seq ?_
        refine go_reg ?_
        refine run_aops hA 1 _ _ _ _ (by cbv) ?_
        refine ops_done ?_
        refine go_ret ⟨_, by cbv, ?_⟩
        show _ = (PV.int .i64 (-1))
        refine congrArg (PV.int .i64) ?_
        rw [zsStringS, chain_cons, if_neg (by omega), flat_split zsString xs (i + 1), take_flat zsString xs hix3, List.append_assoc, chain_sub hL hL0]
        exact chain_strN w1 ec4
      · skip
        have ec4 : 0 ≤ (A.num .sub .i64 L (A.slen x3)) := lss_f hA c4
        refine go_skip ?_
        refine go_reg ?_
        refine run_aops hA 3 _ _ _ _ (by cbv) ?_
        refine ops_done ?_
        refine ⟨(S49_1 xs_r (A.num .sub .i64 L (A.slen x3)) (A.num .add .i64 n5 1)), List.length xs - (i + 1), ?_, by cbv, i + 1, (A.num .sub .i64 L (A.slen x3)), (A.num .add .i64 n5 1), rfl, ?_, rfl⟩
        · skip
          omega
        · skip
          refine ⟨by rw [add_i64 hA (by omega) (by omega)]; omega, by omega, by omega, by omega, ?_⟩
          rw [take_flat zsString xs hix3, chain_sub hL hL0]
          exact (chain_str (l := []) w1 ec4).symm
    · skip
      have ec2 : (A.rlen xs_r) ≤ n5 := lss_f hA c2
      refine go_exit ⟨fun _ => ?_, fun h => absurd rfl h⟩
      refine go_seq ?_
      refine go_reg ?_
      refine run_aops hA 2 _ _ _ _ (by cbv) ?_
      refine ops_done ?_
      refine go_ret ⟨_, by cbv, ?_⟩
      show _ = (PV.int .i64 L)
      refine congrArg (PV.int .i64) ?_
      rw [zsStringS, chain_cons, if_neg (by omega), hL, List.take_of_length_le (by omega)]

theorem r_laws_szBring (A : Alg) (hA : A = std) (x : GBring) (n : Int) (h1 : 0 ≤ n) (h2 : n ≤ 1048576) (hk : ∀ k ∈ zsBring x, (k : Int) ≤ 9223372036854775807) : Real Tryd.prog 36 [.agg (eBring x), .int .i64 n] (.int .i64 (chain n (zsBring x))) := by
  obtain ⟨x_State, x_From, x_To, x_Data⟩ := x
  obtain ⟨x_To_r, hx_To_r⟩ : ∃ r, r = x_To.map eString := ⟨_, rfl⟩
  have lx_To_r : A.rlen x_To_r = (List.length x_To : Int) := rlen_map hA hx_To_r
  obtain ⟨x_Data_r, hx_Data_r⟩ : ∃ r, r = x_Data.map eString := ⟨_, rfl⟩
  have lx_Data_r : A.rlen x_Data_r = (List.length x_Data : Int) := rlen_map hA hx_Data_r
  refine real_args (args' := [.agg [.int .i64 x_State, .str x_From, .sl 1 x_To_r, .sl 1 x_Data_r], .int .i64 n]) (by subst hx_To_r hx_Data_r; rfl) ?_
  have hk0 : (ByteArray.size x_From : Int) ≤ 9223372036854775807 := hk _ (by simp [zsBring])
  refine real tyOk Tryd.func36 (by kernel_rfl) (afun_of rfl ?_)
  refine go_seq ?_
  refine go_reg ?_
  refine run_aops hA 2 _ _ _ _ (by cbv) ?_
  refine ops_done ?_
  refine go_seq ?_
  refine go_reg ?_
  refine run_aops hA 6 _ _ _ _ (by cbv) ?_
  refine ops_done ?_
  refine go_seq ?_
  refine go_seq ?_
  have w0 : (A.num .sub .i64 n (A.slen x_From)) = n - (ByteArray.size x_From : Int) := by
    rw [slen_eq hA x_From]; exact sub_i64 hA (by omega) (by omega)
  refine go_reg ?_
  refine run_aops hA 2 _ _ _ _ (by cbv) ?_
  refine ops_done ?_
  refine go_cond rfl (fun c1 => ?_) (fun c1 => ?_)
  · skip
    have ec1 : (A.num .sub .i64 n (A.slen x_From)) < 0 := lss_t hA c1
    refine go_seq ?_
    refine go_reg ?_
    refine run_aops hA 1 _ _ _ _ (by cbv) ?_
    refine ops_done ?_
    refine go_ret ⟨_, by cbv, ?_⟩
    show _ = (PV.int .i64 (-1))
    show PV.int _ _ = PV.int _ _
    refine congrArg (PV.int .i64) ?_
    simp only [zsBring]
    exact chain_strN w0 ec1
  · skip
    have ec1 : 0 ≤ (A.num .sub .i64 n (A.slen x_From)) := lss_f hA c1
    refine go_skip ?_
    refine go_seq ?_
    refine go_reg ?_
    refine run_aops hA 3 _ _ _ _ (by cbv) ?_
    obtain ⟨v15_2, hv15_2, hc3⟩ : ∃ (v15_2 : Int), v15_2 = (chain (A.num .sub .i64 n (A.slen x_From)) (zsStringS x_To)) ∧ Real Tryd.prog 49 [.sl 1 x_To_r, .int .i64 (A.num .sub .i64 n (A.slen x_From))] (.int .i64 v15_2) := ⟨_, rfl, by subst hx_To_r; exact r_laws_szStringS A hA x_To (A.num .sub .i64 n (A.slen x_From)) (by omega) (by omega) (fun k h => hk k (by simp only [zsBring, List.mem_append]; simp only [h, true_or, or_true]))⟩
    refine ops_callV rfl rfl (by cbv) (by cbv) hc3 (.inr rfl) (by cbv) ?_
    have bv15_2 := chain_bd hv15_2 (by omega)
    refine run_aops hA 1 _ _ _ _ (by cbv) ?_
    refine ops_done ?_
    refine go_seq ?_
    refine go_seq ?_
    refine go_reg ?_
    refine run_aops hA 2 _ _ _ _ (by cbv) ?_
    refine ops_done ?_
    refine go_cond rfl (fun c4 => ?_) (fun c4 => ?_)
    · skip
      have ec4 : v15_2 < 0 := lss_t hA c4
      refine go_seq ?_
      refine go_reg ?_
      refine run_aops hA 1 _ _ _ _ (by cbv) ?_
      refine ops_done ?_
      refine go_ret ⟨_, by cbv, ?_⟩
      show _ = (PV.int .i64 (-1))
      show PV.int _ _ = PV.int _ _
      refine congrArg (PV.int .i64) ?_
      simp only [zsBring]
      rw [chain_str w0 ec1]
      exact chain_subN (by omega) hv15_2 ec4
    · skip
      have ec4 : 0 ≤ v15_2 := lss_f hA c4
      refine go_skip ?_
      refine go_seq ?_
      refine go_reg ?_
      refine run_aops hA 3 _ _ _ _ (by cbv) ?_
      obtain ⟨v21_5, hv21_5, hc6⟩ : ∃ (v21_5 : Int), v21_5 = (chain v15_2 (zsStringS x_Data)) ∧ Real Tryd.prog 49 [.sl 1 x_Data_r, .int .i64 v15_2] (.int .i64 v21_5) := ⟨_, rfl, by subst hx_Data_r; exact r_laws_szStringS A hA x_Data v15_2 (by omega) (by omega) (fun k h => hk k (by simp only [zsBring, List.mem_append]; simp only [h, true_or, or_true]))⟩
      refine ops_callV rfl rfl (by cbv) (by cbv) hc6 (.inr rfl) (by cbv) ?_
      have bv21_5 := chain_bd hv21_5 (by omega)
      refine run_aops hA 1 _ _ _ _ (by cbv) ?_
      refine ops_done ?_
      refine go_seq ?_
      refine go_seq ?_
      refine go_reg ?_
      refine run_aops hA 2 _ _ _ _ (by cbv) ?_
      refine ops_done ?_
      refine go_cond rfl (fun c7 => ?_) (fun c7 => ?_)
      · skip
        have ec7 : v21_5 < 0 := lss_t hA c7
        refine go_seq ?_
        refine go_reg ?_
        refine run_aops hA 1 _ _ _ _ (by cbv) ?_
        refine ops_done ?_
        refine go_ret ⟨_, by cbv, ?_⟩
        show _ = (PV.int .i64 (-1))
        show PV.int _ _ = PV.int _ _
        refine congrArg (PV.int .i64) ?_
        simp only [zsBring]
        rw [chain_str w0 ec1]
        rw [chain_sub hv15_2 ec4]
        exact chain_subN (by omega) hv21_5 ec7
      · skip
        have ec7 : 0 ≤ v21_5 := lss_f hA c7
        refine go_skip ?_
        refine go_seq ?_
        refine go_reg ?_
        refine run_aops hA 2 _ _ _ _ (by cbv) ?_
        refine ops_done ?_
        refine go_ret ⟨_, by cbv, ?_⟩
        show _ = (PV.int .i64 v21_5)
        show PV.int _ _ = PV.int _ _
        refine congrArg (PV.int .i64) ?_
        simp only [zsBring]
        rw [chain_str w0 ec1]
        rw [chain_sub hv15_2 ec4]
        rw [chain_sub hv21_5 ec7]
        rfl

theorem r_laws_szBoolS (A : Alg) (hA : A = std) (xs : List Bool) (n : Int) (h1 : 0 ≤ n) (h2 : n ≤ 1048576) (hk : ∀ k ∈ zsBoolS xs, (k : Int) ≤ 9223372036854775807) : Real Tryd.prog 50 [.sl 1 (List.map eBool xs), .int .i64 n] (.int .i64 (chain n (zsBoolS xs))) := by
  obtain ⟨xs_r, hxs_r⟩ : ∃ r, r = xs.map eBool := ⟨_, rfl⟩
  have lxs_r : A.rlen xs_r = (List.length xs : Int) := rlen_map hA hxs_r
  refine real_args (args' := [.sl 1 xs_r, .int .i64 n]) (by subst hxs_r; rfl) ?_
  have hlen : (List.length xs : Int) ≤ 9223372036854775807 := hk _ (by simp [zsBoolS])
  refine real tyOk Tryd.func50 (by kernel_rfl) (afun_of rfl ?_)
  refine go_seq ?_
  refine go_reg ?_
  refine run_aops hA 1 _ _ _ _ (by cbv) ?_
  refine ops_done ?_
  refine go_seq ?_
  refine go_reg ?_
  refine run_aops hA 5 _ _ _ _ (by cbv) ?_
  refine ops_done ?_
  refine go_seq ?_
  refine go_seq ?_
  have w0 : A.num .sub .i64 n (A.rlen xs_r) = n - (List.length xs : Int) := by
    rw [lxs_r]; exact sub_i64 hA (by omega) (by omega)
  refine go_reg ?_
  refine run_aops hA 2 _ _ _ _ (by cbv) ?_
  refine ops_done ?_
  refine go_cond rfl (fun c1 => ?_) (fun c1 => ?_)
  · skip
    have ec1 : (A.num .sub .i64 n (A.rlen xs_r)) < 0 := lss_t hA c1
    refine go_seq ?_
    refine go_reg ?_
    refine run_aops hA 1 _ _ _ _ (by cbv) ?_
    refine ops_done ?_
    refine go_ret ⟨_, by cbv, ?_⟩
    show _ = (PV.int .i64 (-1))
    refine congrArg (PV.int .i64) ?_
    rw [zsBoolS, chain_cons, if_pos (by omega)]
  · skip
    have ec1 : 0 ≤ (A.num .sub .i64 n (A.rlen xs_r)) := lss_f hA c1
    refine go_skip ?_
    refine go_seq ?_
    refine go_reg ?_
    refine run_aops hA 2 _ _ _ _ (by cbv) ?_
    refine ops_done ?_
    refine go_ret ⟨_, by cbv, ?_⟩
    show _ = (PV.int .i64 (A.num .sub .i64 n (A.rlen xs_r)))
    refine congrArg (PV.int .i64) ?_
    rw [zsBoolS, chain_cons, if_neg (by omega), w0]; rfl

theorem r_laws_szFetch (A : Alg) (hA : A = std) (x : GFetch) (n : Int) (h1 : 0 ≤ n) (h2 : n ≤ 1048576) (hk : ∀ k ∈ zsFetch x, (k : Int) ≤ 9223372036854775807) : Real Tryd.prog 37 [.agg (eFetch x), .int .i64 n] (.int .i64 (chain n (zsFetch x))) := by
  obtain ⟨x_State, x_User, x_Mails, x_Gone⟩ := x
  obtain ⟨x_Mails_r, hx_Mails_r⟩ : ∃ r, r = x_Mails.map eMail := ⟨_, rfl⟩
  have lx_Mails_r : A.rlen x_Mails_r = (List.length x_Mails : Int) := rlen_map hA hx_Mails_r
  obtain ⟨x_Gone_r, hx_Gone_r⟩ : ∃ r, r = x_Gone.map eBool := ⟨_, rfl⟩
  have lx_Gone_r : A.rlen x_Gone_r = (List.length x_Gone : Int) := rlen_map hA hx_Gone_r
  refine real_args (args' := [.agg [.int .i64 x_State, .str x_User, .sl 3 x_Mails_r, .sl 1 x_Gone_r], .int .i64 n]) (by subst hx_Mails_r hx_Gone_r; rfl) ?_
  have hk0 : (ByteArray.size x_User : Int) ≤ 9223372036854775807 := hk _ (by simp [zsFetch])
  refine real tyOk Tryd.func37 (by kernel_rfl) (afun_of rfl ?_)
  refine go_seq ?_
  refine go_reg ?_
  refine run_aops hA 2 _ _ _ _ (by cbv) ?_
  refine ops_done ?_
  refine go_seq ?_
  refine go_reg ?_
  refine run_aops hA 6 _ _ _ _ (by cbv) ?_
  refine ops_done ?_
  refine go_seq ?_
  refine go_seq ?_
  have w0 : (A.num .sub .i64 n (A.slen x_User)) = n - (ByteArray.size x_User : Int) := by
    rw [slen_eq hA x_User]; exact sub_i64 hA (by omega) (by omega)
  refine go_reg ?_
  refine run_aops hA 2 _ _ _ _ (by cbv) ?_
  refine ops_done ?_
  refine go_cond rfl (fun c1 => ?_) (fun c1 => ?_)
  · skip
    have ec1 : (A.num .sub .i64 n (A.slen x_User)) < 0 := lss_t hA c1
    refine go_seq ?_
    refine go_reg ?_
    refine run_aops hA 1 _ _ _ _ (by cbv) ?_
    refine ops_done ?_
    refine go_ret ⟨_, by cbv, ?_⟩
    show _ = (PV.int .i64 (-1))
    show PV.int _ _ = PV.int _ _
    refine congrArg (PV.int .i64) ?_
    simp only [zsFetch]
    exact chain_strN w0 ec1
  · skip
    have ec1 : 0 ≤ (A.num .sub .i64 n (A.slen x_User)) := lss_f hA c1
    refine go_skip ?_
    refine go_seq ?_
    refine go_reg ?_
    refine run_aops hA 3 _ _ _ _ (by cbv) ?_
    obtain ⟨v15_2, hv15_2, hc3⟩ : ∃ (v15_2 : Int), v15_2 = (chain (A.num .sub .i64 n (A.slen x_User)) (zsMailS x_Mails)) ∧ Real Tryd.prog 15 [.sl 3 x_Mails_r, .int .i64 (A.num .sub .i64 n (A.slen x_User))] (.int .i64 v15_2) := ⟨_, rfl, by subst hx_Mails_r; exact r_laws_szMailS A hA x_Mails (A.num .sub .i64 n (A.slen x_User)) (by omega) (by omega) (fun k h => hk k (by simp only [zsFetch, List.mem_append]; simp only [h, true_or, or_true]))⟩
    refine ops_callV rfl rfl (by cbv) (by cbv) hc3 (.inr rfl) (by cbv) ?_
    have bv15_2 := chain_bd hv15_2 (by omega)
    refine run_aops hA 1 _ _ _ _ (by cbv) ?_
    refine ops_done ?_
    refine go_seq ?_
    refine go_seq ?_
    refine go_reg ?_
    refine run_aops hA 2 _ _ _ _ (by cbv) ?_
    refine ops_done ?_
    refine go_cond rfl (fun c4 => ?_) (fun c4 => ?_)
    · skip
      have ec4 : v15_2 < 0 := lss_t hA c4
      refine go_seq ?_
      refine go_reg ?_
      refine run_aops hA 1 _ _ _ _ (by cbv) ?_
      refine ops_done ?_
      refine go_ret ⟨_, by cbv, ?_⟩
      show _ = (PV.int .i64 (-1))
      show PV.int _ _ = PV.int _ _
      refine congrArg (PV.int .i64) ?_
      simp only [zsFetch]
      rw [chain_str w0 ec1]
      exact chain_subN (by omega) hv15_2 ec4
    · skip
      have ec4 : 0 ≤ v15_2 := lss_f hA c4
      refine go_skip ?_
      refine go_seq ?_
      refine go_reg ?_
      refine run_aops hA 3 _ _ _ _ (by cbv) ?_
      obtain ⟨v21_5, hv21_5, hc6⟩ : ∃ (v21_5 : Int), v21_5 = (chain v15_2 (zsBoolS x_Gone)) ∧ Real Tryd.prog 50 [.sl 1 x_Gone_r, .int .i64 v15_2] (.int .i64 v21_5) := ⟨_, rfl, by subst hx_Gone_r; exact r_laws_szBoolS A hA x_Gone v15_2 (by omega) (by omega) (fun k h => hk k (by simp only [zsFetch, List.mem_append]; simp only [h, true_or, or_true]))⟩
      refine ops_callV rfl rfl (by cbv) (by cbv) hc6 (.inr rfl) (by cbv) ?_
      have bv21_5 := chain_bd hv21_5 (by omega)
      refine run_aops hA 1 _ _ _ _ (by cbv) ?_
      refine ops_done ?_
      refine go_seq ?_
      refine go_seq ?_
      refine go_reg ?_
      refine run_aops hA 2 _ _ _ _ (by cbv) ?_
      refine ops_done ?_
      refine go_cond rfl (fun c7 => ?_) (fun c7 => ?_)
      · skip
        have ec7 : v21_5 < 0 := lss_t hA c7
        refine go_seq ?_
        refine go_reg ?_
        refine run_aops hA 1 _ _ _ _ (by cbv) ?_
        refine ops_done ?_
        refine go_ret ⟨_, by cbv, ?_⟩
        show _ = (PV.int .i64 (-1))
        show PV.int _ _ = PV.int _ _
        refine congrArg (PV.int .i64) ?_
        simp only [zsFetch]
        rw [chain_str w0 ec1]
        rw [chain_sub hv15_2 ec4]
        exact chain_subN (by omega) hv21_5 ec7
      · skip
        have ec7 : 0 ≤ v21_5 := lss_f hA c7
        refine go_skip ?_
        refine go_seq ?_
        refine go_reg ?_
        refine run_aops hA 2 _ _ _ _ (by cbv) ?_
        refine ops_done ?_
        refine go_ret ⟨_, by cbv, ?_⟩
        show _ = (PV.int .i64 v21_5)
        show PV.int _ _ = PV.int _ _
        refine congrArg (PV.int .i64) ?_
        simp only [zsFetch]
        rw [chain_str w0 ec1]
        rw [chain_sub hv15_2 ec4]
        rw [chain_sub hv21_5 ec7]
        rfl

theorem r_laws_szIntS (A : Alg) (hA : A = std) (xs : List Int) (n : Int) (h1 : 0 ≤ n) (h2 : n ≤ 1048576) (hk : ∀ k ∈ zsIntS xs, (k : Int) ≤ 9223372036854775807) : Real Tryd.prog 51 [.sl 1 (List.map eInt xs), .int .i64 n] (.int .i64 (chain n (zsIntS xs))) := by
  obtain ⟨xs_r, hxs_r⟩ : ∃ r, r = xs.map eInt := ⟨_, rfl⟩
  have lxs_r : A.rlen xs_r = (List.length xs : Int) := rlen_map hA hxs_r
  refine real_args (args' := [.sl 1 xs_r, .int .i64 n]) (by subst hxs_r; rfl) ?_
  have hlen : (List.length xs : Int) ≤ 9223372036854775807 := hk _ (by simp [zsIntS])
  refine real tyOk Tryd.func51 (by kernel_rfl) (afun_of rfl ?_)
  refine go_seq ?_
  refine go_reg ?_
  refine run_aops hA 1 _ _ _ _ (by cbv) ?_
  refine ops_done ?_
  refine go_seq ?_
  refine go_reg ?_
  refine run_aops hA 5 _ _ _ _ (by cbv) ?_
  refine ops_done ?_
  refine go_seq ?_
  refine go_seq ?_
  have w0 : A.num .sub .i64 n (A.rlen xs_r) = n - (List.length xs : Int) := by
    rw [lxs_r]; exact sub_i64 hA (by omega) (by omega)
  refine go_reg ?_
  refine run_aops hA 2 _ _ _ _ (by cbv) ?_
  refine ops_done ?_
  refine go_cond rfl (fun c1 => ?_) (fun c1 => ?_)
  · skip
    have ec1 : (A.num .sub .i64 n (A.rlen xs_r)) < 0 := lss_t hA c1
    refine go_seq ?_
    refine go_reg ?_
    refine run_aops hA 1 _ _ _ _ (by cbv) ?_
    refine ops_done ?_
    refine go_ret ⟨_, by cbv, ?_⟩
    show _ = (PV.int .i64 (-1))
    refine congrArg (PV.int .i64) ?_
    rw [zsIntS, chain_cons, if_pos (by omega)]
  · skip
    have ec1 : 0 ≤ (A.num .sub .i64 n (A.rlen xs_r)) := lss_f hA c1
    refine go_skip ?_
    refine go_seq ?_
    refine go_reg ?_
    refine run_aops hA 2 _ _ _ _ (by cbv) ?_
    refine ops_done ?_
    refine go_ret ⟨_, by cbv, ?_⟩
    show _ = (PV.int .i64 (A.num .sub .i64 n (A.rlen xs_r)))
    refine congrArg (PV.int .i64) ?_
    rw [zsIntS, chain_cons, if_neg (by omega), w0]; rfl

theorem r_laws_szLook (A : Alg) (hA : A = std) (x : GLook) (n : Int) (h1 : 0 ≤ n) (h2 : n ≤ 1048576) (hk : ∀ k ∈ zsLook x, (k : Int) ≤ 9223372036854775807) : Real Tryd.prog 38 [.agg (eLook x), .int .i64 n] (.int .i64 (chain n (zsLook x))) := by
  obtain ⟨x_State, x_User, x_Box, x_Valid, x_Uids⟩ := x
  obtain ⟨x_Uids_r, hx_Uids_r⟩ : ∃ r, r = x_Uids.map eInt := ⟨_, rfl⟩
  have lx_Uids_r : A.rlen x_Uids_r = (List.length x_Uids : Int) := rlen_map hA hx_Uids_r
  refine real_args (args' := [.agg [.int .i64 x_State, .str x_User, .str x_Box, .int .i64 x_Valid, .sl 1 x_Uids_r], .int .i64 n]) (by subst hx_Uids_r; rfl) ?_
  have hk0 : (ByteArray.size x_User : Int) ≤ 9223372036854775807 := hk _ (by simp [zsLook])
  have hk1 : (ByteArray.size x_Box : Int) ≤ 9223372036854775807 := hk _ (by simp [zsLook])
  refine real tyOk Tryd.func38 (by kernel_rfl) (afun_of rfl ?_)
  refine go_seq ?_
  refine go_reg ?_
  refine run_aops hA 2 _ _ _ _ (by cbv) ?_
  refine ops_done ?_
  refine go_seq ?_
  refine go_reg ?_
  refine run_aops hA 6 _ _ _ _ (by cbv) ?_
  refine ops_done ?_
  refine go_seq ?_
  refine go_seq ?_
  have w0 : (A.num .sub .i64 n (A.slen x_User)) = n - (ByteArray.size x_User : Int) := by
    rw [slen_eq hA x_User]; exact sub_i64 hA (by omega) (by omega)
  refine go_reg ?_
  refine run_aops hA 2 _ _ _ _ (by cbv) ?_
  refine ops_done ?_
  refine go_cond rfl (fun c1 => ?_) (fun c1 => ?_)
  · skip
    have ec1 : (A.num .sub .i64 n (A.slen x_User)) < 0 := lss_t hA c1
    refine go_seq ?_
    refine go_reg ?_
    refine run_aops hA 1 _ _ _ _ (by cbv) ?_
    refine ops_done ?_
    refine go_ret ⟨_, by cbv, ?_⟩
    show _ = (PV.int .i64 (-1))
    show PV.int _ _ = PV.int _ _
    refine congrArg (PV.int .i64) ?_
    simp only [zsLook]
    exact chain_strN w0 ec1
  · skip
    have ec1 : 0 ≤ (A.num .sub .i64 n (A.slen x_User)) := lss_f hA c1
    refine go_skip ?_
    refine go_seq ?_
    refine go_reg ?_
    refine run_aops hA 6 _ _ _ _ (by cbv) ?_
    refine ops_done ?_
    refine go_seq ?_
    refine go_seq ?_
    have w1 : (A.num .sub .i64 (A.num .sub .i64 n (A.slen x_User)) (A.slen x_Box)) = (A.num .sub .i64 n (A.slen x_User)) - (ByteArray.size x_Box : Int) := by
      rw [slen_eq hA x_Box]; exact sub_i64 hA (by omega) (by omega)
    refine go_reg ?_
    refine run_aops hA 2 _ _ _ _ (by cbv) ?_
    refine ops_done ?_
    refine go_cond rfl (fun c2 => ?_) (fun c2 => ?_)
    · skip
      have ec2 : (A.num .sub .i64 (A.num .sub .i64 n (A.slen x_User)) (A.slen x_Box)) < 0 := lss_t hA c2
      refine go_seq ?_
      refine go_reg ?_
      refine run_aops hA 1 _ _ _ _ (by cbv) ?_
      refine ops_done ?_
      refine go_ret ⟨_, by cbv, ?_⟩
      show _ = (PV.int .i64 (-1))
      show PV.int _ _ = PV.int _ _
      refine congrArg (PV.int .i64) ?_
      simp only [zsLook]
      rw [chain_str w0 ec1]
      exact chain_strN w1 ec2
    · skip
      have ec2 : 0 ≤ (A.num .sub .i64 (A.num .sub .i64 n (A.slen x_User)) (A.slen x_Box)) := lss_f hA c2
      refine go_skip ?_
      refine go_seq ?_
      refine go_reg ?_
      refine run_aops hA 3 _ _ _ _ (by cbv) ?_
      obtain ⟨v22_3, hv22_3, hc4⟩ : ∃ (v22_3 : Int), v22_3 = (chain (A.num .sub .i64 (A.num .sub .i64 n (A.slen x_User)) (A.slen x_Box)) (zsIntS x_Uids)) ∧ Real Tryd.prog 51 [.sl 1 x_Uids_r, .int .i64 (A.num .sub .i64 (A.num .sub .i64 n (A.slen x_User)) (A.slen x_Box))] (.int .i64 v22_3) := ⟨_, rfl, by subst hx_Uids_r; exact r_laws_szIntS A hA x_Uids (A.num .sub .i64 (A.num .sub .i64 n (A.slen x_User)) (A.slen x_Box)) (by omega) (by omega) (fun k h => hk k (by simp only [zsLook, List.mem_append]; simp only [h, true_or, or_true]))⟩
      refine ops_callV rfl rfl (by cbv) (by cbv) hc4 (.inr rfl) (by cbv) ?_
      have bv22_3 := chain_bd hv22_3 (by omega)
      refine run_aops hA 1 _ _ _ _ (by cbv) ?_
      refine ops_done ?_
      refine go_seq ?_
      refine go_seq ?_
      refine go_reg ?_
      refine run_aops hA 2 _ _ _ _ (by cbv) ?_
      refine ops_done ?_
      refine go_cond rfl (fun c5 => ?_) (fun c5 => ?_)
      · skip
        have ec5 : v22_3 < 0 := lss_t hA c5
        refine go_seq ?_
        refine go_reg ?_
        refine run_aops hA 1 _ _ _ _ (by cbv) ?_
        refine ops_done ?_
        refine go_ret ⟨_, by cbv, ?_⟩
        show _ = (PV.int .i64 (-1))
        show PV.int _ _ = PV.int _ _
        refine congrArg (PV.int .i64) ?_
        simp only [zsLook]
        rw [chain_str w0 ec1]
        rw [chain_str w1 ec2]
        exact chain_subN (by omega) hv22_3 ec5
      · skip
        have ec5 : 0 ≤ v22_3 := lss_f hA c5
        refine go_skip ?_
        refine go_seq ?_
        refine go_reg ?_
        refine run_aops hA 2 _ _ _ _ (by cbv) ?_
        refine ops_done ?_
        refine go_ret ⟨_, by cbv, ?_⟩
        show _ = (PV.int .i64 v22_3)
        show PV.int _ _ = PV.int _ _
        refine congrArg (PV.int .i64) ?_
        simp only [zsLook]
        rw [chain_str w0 ec1]
        rw [chain_str w1 ec2]
        rw [chain_sub hv22_3 ec5]
        rfl

theorem r_laws_szSession (A : Alg) (hA : A = std) (x : GSession) (n : Int) (h1 : 0 ≤ n) (h2 : n ≤ 1048576) (hk : ∀ k ∈ zsSession x, (k : Int) ≤ 9223372036854775807) : Real Tryd.prog 24 [.agg (eSession x), .int .i64 n] (.int .i64 (chain n (zsSession x))) := by
  obtain ⟨x_Kind, x_In, x_Out, x_Over, ⟨x_Bring_State, x_Bring_From, x_Bring_To, x_Bring_Data⟩, ⟨x_Fetch_State, x_Fetch_User, x_Fetch_Mails, x_Fetch_Gone⟩, ⟨x_Look_State, x_Look_User, x_Look_Box, x_Look_Valid, x_Look_Uids⟩⟩ := x
  obtain ⟨x_Bring_To_r, hx_Bring_To_r⟩ : ∃ r, r = x_Bring_To.map eString := ⟨_, rfl⟩
  have lx_Bring_To_r : A.rlen x_Bring_To_r = (List.length x_Bring_To : Int) := rlen_map hA hx_Bring_To_r
  obtain ⟨x_Bring_Data_r, hx_Bring_Data_r⟩ : ∃ r, r = x_Bring_Data.map eString := ⟨_, rfl⟩
  have lx_Bring_Data_r : A.rlen x_Bring_Data_r = (List.length x_Bring_Data : Int) := rlen_map hA hx_Bring_Data_r
  obtain ⟨x_Fetch_Mails_r, hx_Fetch_Mails_r⟩ : ∃ r, r = x_Fetch_Mails.map eMail := ⟨_, rfl⟩
  have lx_Fetch_Mails_r : A.rlen x_Fetch_Mails_r = (List.length x_Fetch_Mails : Int) := rlen_map hA hx_Fetch_Mails_r
  obtain ⟨x_Fetch_Gone_r, hx_Fetch_Gone_r⟩ : ∃ r, r = x_Fetch_Gone.map eBool := ⟨_, rfl⟩
  have lx_Fetch_Gone_r : A.rlen x_Fetch_Gone_r = (List.length x_Fetch_Gone : Int) := rlen_map hA hx_Fetch_Gone_r
  obtain ⟨x_Look_Uids_r, hx_Look_Uids_r⟩ : ∃ r, r = x_Look_Uids.map eInt := ⟨_, rfl⟩
  have lx_Look_Uids_r : A.rlen x_Look_Uids_r = (List.length x_Look_Uids : Int) := rlen_map hA hx_Look_Uids_r
  refine real_args (args' := [.agg [.int .i64 x_Kind, .str x_In, .str x_Out, .bool x_Over, .int .i64 x_Bring_State, .str x_Bring_From, .sl 1 x_Bring_To_r, .sl 1 x_Bring_Data_r, .int .i64 x_Fetch_State, .str x_Fetch_User, .sl 3 x_Fetch_Mails_r, .sl 1 x_Fetch_Gone_r, .int .i64 x_Look_State, .str x_Look_User, .str x_Look_Box, .int .i64 x_Look_Valid, .sl 1 x_Look_Uids_r], .int .i64 n]) (by subst hx_Bring_To_r hx_Bring_Data_r hx_Fetch_Mails_r hx_Fetch_Gone_r hx_Look_Uids_r; rfl) ?_
  have hk0 : (ByteArray.size x_In : Int) ≤ 9223372036854775807 := hk _ (by simp [zsSession])
  have hk1 : (ByteArray.size x_Out : Int) ≤ 9223372036854775807 := hk _ (by simp [zsSession])
  refine real tyOk Tryd.func24 (by kernel_rfl) (afun_of rfl ?_)
  refine go_seq ?_
  refine go_reg ?_
  refine run_aops hA 2 _ _ _ _ (by cbv) ?_
  refine ops_done ?_
  refine go_seq ?_
  refine go_reg ?_
  refine run_aops hA 6 _ _ _ _ (by cbv) ?_
  refine ops_done ?_
  refine go_seq ?_
  refine go_seq ?_
  have w0 : (A.num .sub .i64 n (A.slen x_In)) = n - (ByteArray.size x_In : Int) := by
    rw [slen_eq hA x_In]; exact sub_i64 hA (by omega) (by omega)
  refine go_reg ?_
  refine run_aops hA 2 _ _ _ _ (by cbv) ?_
  refine ops_done ?_
  refine go_cond rfl (fun c1 => ?_) (fun c1 => ?_)
  · skip
    have ec1 : (A.num .sub .i64 n (A.slen x_In)) < 0 := lss_t hA c1
    refine go_seq ?_
    refine go_reg ?_
    refine run_aops hA 1 _ _ _ _ (by cbv) ?_
    refine ops_done ?_
    refine go_ret ⟨_, by cbv, ?_⟩
    show _ = (PV.int .i64 (-1))
    show PV.int _ _ = PV.int _ _
    refine congrArg (PV.int .i64) ?_
    simp only [zsSession]
    exact chain_strN w0 ec1
  · skip
    have ec1 : 0 ≤ (A.num .sub .i64 n (A.slen x_In)) := lss_f hA c1
    refine go_skip ?_
    refine go_seq ?_
    refine go_reg ?_
    refine run_aops hA 6 _ _ _ _ (by cbv) ?_
    refine ops_done ?_
    refine go_seq ?_
    refine go_seq ?_
    have w1 : (A.num .sub .i64 (A.num .sub .i64 n (A.slen x_In)) (A.slen x_Out)) = (A.num .sub .i64 n (A.slen x_In)) - (ByteArray.size x_Out : Int) := by
      rw [slen_eq hA x_Out]; exact sub_i64 hA (by omega) (by omega)
    refine go_reg ?_
    refine run_aops hA 2 _ _ _ _ (by cbv) ?_
    refine ops_done ?_
    refine go_cond rfl (fun c2 => ?_) (fun c2 => ?_)
    · skip
      have ec2 : (A.num .sub .i64 (A.num .sub .i64 n (A.slen x_In)) (A.slen x_Out)) < 0 := lss_t hA c2
      refine go_seq ?_
      refine go_reg ?_
      refine run_aops hA 1 _ _ _ _ (by cbv) ?_
      refine ops_done ?_
      refine go_ret ⟨_, by cbv, ?_⟩
      show _ = (PV.int .i64 (-1))
      show PV.int _ _ = PV.int _ _
      refine congrArg (PV.int .i64) ?_
      simp only [zsSession]
      rw [chain_str w0 ec1]
      exact chain_strN w1 ec2
    · skip
      have ec2 : 0 ≤ (A.num .sub .i64 (A.num .sub .i64 n (A.slen x_In)) (A.slen x_Out)) := lss_f hA c2
      refine go_skip ?_
      refine go_seq ?_
      refine go_reg ?_
      refine run_aops hA 3 _ _ _ _ (by cbv) ?_
      obtain ⟨v22_3, hv22_3, hc4⟩ : ∃ (v22_3 : Int), v22_3 = (chain (A.num .sub .i64 (A.num .sub .i64 n (A.slen x_In)) (A.slen x_Out)) (zsBring (⟨x_Bring_State, x_Bring_From, x_Bring_To, x_Bring_Data⟩ : GBring))) ∧ Real Tryd.prog 36 [.agg [.int .i64 x_Bring_State, .str x_Bring_From, .sl 1 x_Bring_To_r, .sl 1 x_Bring_Data_r], .int .i64 (A.num .sub .i64 (A.num .sub .i64 n (A.slen x_In)) (A.slen x_Out))] (.int .i64 v22_3) := ⟨_, rfl, by subst hx_Bring_To_r hx_Bring_Data_r; exact r_laws_szBring A hA (⟨x_Bring_State, x_Bring_From, x_Bring_To, x_Bring_Data⟩ : GBring) (A.num .sub .i64 (A.num .sub .i64 n (A.slen x_In)) (A.slen x_Out)) (by omega) (by omega) (fun k h => hk k (by simp only [zsSession, List.mem_append]; simp only [h, true_or, or_true]))⟩
      refine ops_callV rfl rfl (by cbv) (by cbv) hc4 (.inr rfl) (by cbv) ?_
      have bv22_3 := chain_bd hv22_3 (by omega)
      refine run_aops hA 1 _ _ _ _ (by cbv) ?_
      refine ops_done ?_
      refine go_seq ?_
      refine go_seq ?_
      refine go_reg ?_
      refine run_aops hA 2 _ _ _ _ (by cbv) ?_
      refine ops_done ?_
      refine go_cond rfl (fun c5 => ?_) (fun c5 => ?_)
      · skip
        have ec5 : v22_3 < 0 := lss_t hA c5
        refine go_seq ?_
        refine go_reg ?_
        refine run_aops hA 1 _ _ _ _ (by cbv) ?_
        refine ops_done ?_
        refine go_ret ⟨_, by cbv, ?_⟩
        show _ = (PV.int .i64 (-1))
        show PV.int _ _ = PV.int _ _
        refine congrArg (PV.int .i64) ?_
        simp only [zsSession]
        rw [chain_str w0 ec1]
        rw [chain_str w1 ec2]
        exact chain_subN (by omega) hv22_3 ec5
      · skip
        have ec5 : 0 ≤ v22_3 := lss_f hA c5
        refine go_skip ?_
        refine go_seq ?_
        refine go_reg ?_
        refine run_aops hA 3 _ _ _ _ (by cbv) ?_
        obtain ⟨v28_6, hv28_6, hc7⟩ : ∃ (v28_6 : Int), v28_6 = (chain v22_3 (zsFetch (⟨x_Fetch_State, x_Fetch_User, x_Fetch_Mails, x_Fetch_Gone⟩ : GFetch))) ∧ Real Tryd.prog 37 [.agg [.int .i64 x_Fetch_State, .str x_Fetch_User, .sl 3 x_Fetch_Mails_r, .sl 1 x_Fetch_Gone_r], .int .i64 v22_3] (.int .i64 v28_6) := ⟨_, rfl, by subst hx_Fetch_Mails_r hx_Fetch_Gone_r; exact r_laws_szFetch A hA (⟨x_Fetch_State, x_Fetch_User, x_Fetch_Mails, x_Fetch_Gone⟩ : GFetch) v22_3 (by omega) (by omega) (fun k h => hk k (by simp only [zsSession, List.mem_append]; simp only [h, true_or, or_true]))⟩
        refine ops_callV rfl rfl (by cbv) (by cbv) hc7 (.inr rfl) (by cbv) ?_
        have bv28_6 := chain_bd hv28_6 (by omega)
        refine run_aops hA 1 _ _ _ _ (by cbv) ?_
        refine ops_done ?_
        refine go_seq ?_
        refine go_seq ?_
        refine go_reg ?_
        refine run_aops hA 2 _ _ _ _ (by cbv) ?_
        refine ops_done ?_
        refine go_cond rfl (fun c8 => ?_) (fun c8 => ?_)
        · skip
          have ec8 : v28_6 < 0 := lss_t hA c8
          refine go_seq ?_
          refine go_reg ?_
          refine run_aops hA 1 _ _ _ _ (by cbv) ?_
          refine ops_done ?_
          refine go_ret ⟨_, by cbv, ?_⟩
          show _ = (PV.int .i64 (-1))
          show PV.int _ _ = PV.int _ _
          refine congrArg (PV.int .i64) ?_
          simp only [zsSession]
          rw [chain_str w0 ec1]
          rw [chain_str w1 ec2]
          rw [chain_sub hv22_3 ec5]
          exact chain_subN (by omega) hv28_6 ec8
        · skip
          have ec8 : 0 ≤ v28_6 := lss_f hA c8
          refine go_skip ?_
          refine go_seq ?_
          refine go_reg ?_
          refine run_aops hA 3 _ _ _ _ (by cbv) ?_
          obtain ⟨v34_9, hv34_9, hc10⟩ : ∃ (v34_9 : Int), v34_9 = (chain v28_6 (zsLook (⟨x_Look_State, x_Look_User, x_Look_Box, x_Look_Valid, x_Look_Uids⟩ : GLook))) ∧ Real Tryd.prog 38 [.agg [.int .i64 x_Look_State, .str x_Look_User, .str x_Look_Box, .int .i64 x_Look_Valid, .sl 1 x_Look_Uids_r], .int .i64 v28_6] (.int .i64 v34_9) := ⟨_, rfl, by subst hx_Look_Uids_r; exact r_laws_szLook A hA (⟨x_Look_State, x_Look_User, x_Look_Box, x_Look_Valid, x_Look_Uids⟩ : GLook) v28_6 (by omega) (by omega) (fun k h => hk k (by simp only [zsSession, List.mem_append]; simp only [h, true_or, or_true]))⟩
          refine ops_callV rfl rfl (by cbv) (by cbv) hc10 (.inr rfl) (by cbv) ?_
          have bv34_9 := chain_bd hv34_9 (by omega)
          refine run_aops hA 1 _ _ _ _ (by cbv) ?_
          refine ops_done ?_
          refine go_seq ?_
          refine go_seq ?_
          refine go_reg ?_
          refine run_aops hA 2 _ _ _ _ (by cbv) ?_
          refine ops_done ?_
          refine go_cond rfl (fun c11 => ?_) (fun c11 => ?_)
          · skip
            have ec11 : v34_9 < 0 := lss_t hA c11
            refine go_seq ?_
            refine go_reg ?_
            refine run_aops hA 1 _ _ _ _ (by cbv) ?_
            refine ops_done ?_
            refine go_ret ⟨_, by cbv, ?_⟩
            show _ = (PV.int .i64 (-1))
            show PV.int _ _ = PV.int _ _
            refine congrArg (PV.int .i64) ?_
            simp only [zsSession]
            rw [chain_str w0 ec1]
            rw [chain_str w1 ec2]
            rw [chain_sub hv22_3 ec5]
            rw [chain_sub hv28_6 ec8]
            exact chain_subN (by omega) hv34_9 ec11
          · skip
            have ec11 : 0 ≤ v34_9 := lss_f hA c11
            refine go_skip ?_
            refine go_seq ?_
            refine go_reg ?_
            refine run_aops hA 2 _ _ _ _ (by cbv) ?_
            refine ops_done ?_
            refine go_ret ⟨_, by cbv, ?_⟩
            show _ = (PV.int .i64 v34_9)
            show PV.int _ _ = PV.int _ _
            refine congrArg (PV.int .i64) ?_
            simp only [zsSession]
            rw [chain_str w0 ec1]
            rw [chain_str w1 ec2]
            rw [chain_sub hv22_3 ec5]
            rw [chain_sub hv28_6 ec8]
            rw [chain_sub hv34_9 ec11]
            rfl

def S10_1 (p0 : List (List PV)) (p1 : Int) (p2 : Int) : St := { sl := [.sl 17 p0, .int .i64 p1, .bad, .bad, .bad, .int .i64 p2, .bad, .bad, .bad, .bad, .bad, .bad, .bad, .bad, .bad, .bad, .bad, .bad, .bad, .bad, .bad, .bad, .bad, .bad, .bad, .bad, .bad], bl := [] }
theorem r_laws_szSessionS (A : Alg) (hA : A = std) (xs : List GSession) (n : Int) (h1 : 0 ≤ n) (h2 : n ≤ 1048576) (hk : ∀ k ∈ zsSessionS xs, (k : Int) ≤ 9223372036854775807) : Real Tryd.prog 10 [.sl 17 (List.map eSession xs), .int .i64 n] (.int .i64 (chain n (zsSessionS xs))) := by
  obtain ⟨xs_r, hxs_r⟩ : ∃ r, r = xs.map eSession := ⟨_, rfl⟩
  have lxs_r : A.rlen xs_r = (List.length xs : Int) := rlen_map hA hxs_r
  refine real_args (args' := [.sl 17 xs_r, .int .i64 n]) (by subst hxs_r; rfl) ?_
  have hlen : (List.length xs : Int) ≤ 9223372036854775807 := hk _ (by simp [zsSessionS])
  refine real tyOk Tryd.func10 (by kernel_rfl) (afun_of rfl ?_)
  refine go_seq ?_
  refine go_reg ?_
  refine run_aops hA 1 _ _ _ _ (by cbv) ?_
  refine ops_done ?_
  refine go_seq ?_
  refine go_reg ?_
  refine run_aops hA 5 _ _ _ _ (by cbv) ?_
  refine ops_done ?_
  refine go_seq ?_
  refine go_seq ?_
  have w0 : A.num .sub .i64 n (A.rlen xs_r) = n - (List.length xs : Int) := by
    rw [lxs_r]; exact sub_i64 hA (by omega) (by omega)
  refine go_reg ?_
  refine run_aops hA 2 _ _ _ _ (by cbv) ?_
  refine ops_done ?_
  refine go_cond rfl (fun c1 => ?_) (fun c1 => ?_)
  · skip
    have ec1 : (A.num .sub .i64 n (A.rlen xs_r)) < 0 := lss_t hA c1
    refine go_seq ?_
    refine go_reg ?_
    refine run_aops hA 1 _ _ _ _ (by cbv) ?_
    refine ops_done ?_
    refine go_ret ⟨_, by cbv, ?_⟩
    show _ = (PV.int .i64 (-1))
    refine congrArg (PV.int .i64) ?_
    rw [zsSessionS, chain_cons, if_pos (by omega)]
  · skip
    have ec1 : 0 ≤ (A.num .sub .i64 n (A.rlen xs_r)) := lss_f hA c1
    refine go_skip ?_
    refine go_seq ?_
    refine go_seq ?_
    refine go_reg ?_
    refine run_aops hA 1 _ _ _ _ (by cbv) ?_
    refine ops_done ?_
    refine go_block ?_
    refine go_loopE (fun σ m => ∃ (i : Nat) (L : Int) (n5 : Int), σ = (S10_1 xs_r L n5) ∧ (n5 = (i : Int) ∧ i ≤ List.length xs ∧ 0 ≤ L ∧ L ≤ 1048576 ∧ L = chain (n - (List.length xs : Int)) ((xs.take i).flatMap zsSession)) ∧ m = List.length xs - i) _ [] [0, 1, 5] [] (S10_1 xs_r (A.num .sub .i64 n (A.rlen xs_r)) 0) rfl (by cbv) ⟨0, (A.num .sub .i64 n (A.rlen xs_r)), 0, rfl, ?_, rfl⟩ (fun σ m hI => ?_)
    · skip
      exact ⟨rfl, Nat.zero_le _, by omega, by omega, w0⟩
    obtain ⟨i, L, n5, rfl, ⟨hn5, hi, hL0, hL1, hL⟩, rfl⟩ := hI
    refine go_seq ?_
    refine go_seq ?_
    refine go_reg ?_
    refine run_aops hA 4 _ _ _ _ (by cbv) ?_
    refine ops_done ?_
    refine go_cond rfl (fun c2 => ?_) (fun c2 => ?_)
    · skip
      have ec2 : n5 < (A.rlen xs_r) := lss_t hA c2
      refine go_skip ?_
      refine go_seq ?_
      refine go_block ?_
      refine go_seq ?_
      refine go_reg ?_
      refine run_aops hA 2 _ _ _ _ (by cbv) ?_
      have h0x3 : (0 : Int) ≤ n5 := by
        omega
      have hlx3 : (Int.toNat n5) < List.length xs := by
        omega
      obtain ⟨x3, hx3⟩ : ∃ x, (xs)[(Int.toNat n5)]? = some x := ⟨_, List.getElem?_eq_getElem hlx3⟩
      have hmx3 := List.mem_of_getElem? hx3
      obtain ⟨x3_Kind, x3_In, x3_Out, x3_Over, ⟨x3_Bring_State, x3_Bring_From, x3_Bring_To, x3_Bring_Data⟩, ⟨x3_Fetch_State, x3_Fetch_User, x3_Fetch_Mails, x3_Fetch_Gone⟩, ⟨x3_Look_State, x3_Look_User, x3_Look_Box, x3_Look_Valid, x3_Look_Uids⟩⟩ := x3
      obtain ⟨x3_Bring_To_r, hx3_Bring_To_r⟩ : ∃ r, r = x3_Bring_To.map eString := ⟨_, rfl⟩
      have lx3_Bring_To_r : A.rlen x3_Bring_To_r = (List.length x3_Bring_To : Int) := rlen_map hA hx3_Bring_To_r
      obtain ⟨x3_Bring_Data_r, hx3_Bring_Data_r⟩ : ∃ r, r = x3_Bring_Data.map eString := ⟨_, rfl⟩
      have lx3_Bring_Data_r : A.rlen x3_Bring_Data_r = (List.length x3_Bring_Data : Int) := rlen_map hA hx3_Bring_Data_r
      obtain ⟨x3_Fetch_Mails_r, hx3_Fetch_Mails_r⟩ : ∃ r, r = x3_Fetch_Mails.map eMail := ⟨_, rfl⟩
      have lx3_Fetch_Mails_r : A.rlen x3_Fetch_Mails_r = (List.length x3_Fetch_Mails : Int) := rlen_map hA hx3_Fetch_Mails_r
      obtain ⟨x3_Fetch_Gone_r, hx3_Fetch_Gone_r⟩ : ∃ r, r = x3_Fetch_Gone.map eBool := ⟨_, rfl⟩
      have lx3_Fetch_Gone_r : A.rlen x3_Fetch_Gone_r = (List.length x3_Fetch_Gone : Int) := rlen_map hA hx3_Fetch_Gone_r
      obtain ⟨x3_Look_Uids_r, hx3_Look_Uids_r⟩ : ∃ r, r = x3_Look_Uids.map eInt := ⟨_, rfl⟩
      have lx3_Look_Uids_r : A.rlen x3_Look_Uids_r = (List.length x3_Look_Uids : Int) := rlen_map hA hx3_Look_Uids_r
      have hrx3 : xs_r[(Int.toNat n5)]? = some [.int .i64 x3_Kind, .str x3_In, .str x3_Out, .bool x3_Over, .int .i64 x3_Bring_State, .str x3_Bring_From, .sl 1 x3_Bring_To_r, .sl 1 x3_Bring_Data_r, .int .i64 x3_Fetch_State, .str x3_Fetch_User, .sl 3 x3_Fetch_Mails_r, .sl 1 x3_Fetch_Gone_r, .int .i64 x3_Look_State, .str x3_Look_User, .str x3_Look_Box, .int .i64 x3_Look_Valid, .sl 1 x3_Look_Uids_r] := by
        subst hx3_Bring_To_r hx3_Bring_Data_r hx3_Fetch_Mails_r hx3_Fetch_Gone_r hx3_Look_Uids_r; exact map_at eSession hxs_r hx3
      have hix3 : xs[i]? = some (⟨x3_Kind, x3_In, x3_Out, x3_Over, ⟨x3_Bring_State, x3_Bring_From, x3_Bring_To, x3_Bring_Data⟩, ⟨x3_Fetch_State, x3_Fetch_User, x3_Fetch_Mails, x3_Fetch_Gone⟩, ⟨x3_Look_State, x3_Look_User, x3_Look_Box, x3_Look_Valid, x3_Look_Uids⟩⟩ : GSession) := by
        have h := hx3; rw [hn5] at h; exact h
      have hkx := fun (k : Nat) h => hk k (List.mem_cons_of_mem _ (List.mem_flatMap.2 ⟨_, hmx3, h⟩))
      refine ops_step rfl rfl (idx_sl rfl rfl rfl rfl rfl h0x3 rfl hrx3) ?_
      refine run_aops hA 2 _ _ _ _ (by cbv) ?_
      obtain ⟨v23_4, hv23_4, hc5⟩ : ∃ (v23_4 : Int), v23_4 = (chain L (zsSession (⟨x3_Kind, x3_In, x3_Out, x3_Over, ⟨x3_Bring_State, x3_Bring_From, x3_Bring_To, x3_Bring_Data⟩, ⟨x3_Fetch_State, x3_Fetch_User, x3_Fetch_Mails, x3_Fetch_Gone⟩, ⟨x3_Look_State, x3_Look_User, x3_Look_Box, x3_Look_Valid, x3_Look_Uids⟩⟩ : GSession))) ∧ Real Tryd.prog 24 [.agg [.int .i64 x3_Kind, .str x3_In, .str x3_Out, .bool x3_Over, .int .i64 x3_Bring_State, .str x3_Bring_From, .sl 1 x3_Bring_To_r, .sl 1 x3_Bring_Data_r, .int .i64 x3_Fetch_State, .str x3_Fetch_User, .sl 3 x3_Fetch_Mails_r, .sl 1 x3_Fetch_Gone_r, .int .i64 x3_Look_State, .str x3_Look_User, .str x3_Look_Box, .int .i64 x3_Look_Valid, .sl 1 x3_Look_Uids_r], .int .i64 L] (.int .i64 v23_4) := ⟨_, rfl, by subst hx3_Bring_To_r hx3_Bring_Data_r hx3_Fetch_Mails_r hx3_Fetch_Gone_r hx3_Look_Uids_r; exact r_laws_szSession A hA (⟨x3_Kind, x3_In, x3_Out, x3_Over, ⟨x3_Bring_State, x3_Bring_From, x3_Bring_To, x3_Bring_Data⟩, ⟨x3_Fetch_State, x3_Fetch_User, x3_Fetch_Mails, x3_Fetch_Gone⟩, ⟨x3_Look_State, x3_Look_User, x3_Look_Box, x3_Look_Valid, x3_Look_Uids⟩⟩ : GSession) L (by omega) (by omega) hkx⟩
      refine ops_callV rfl rfl (by cbv) (by cbv) hc5 (.inr rfl) (by cbv) ?_
      have bv23_4 := chain_bd hv23_4 (by omega)
      refine run_aops hA 1 _ _ _ _ (by cbv) ?_
      refine ops_done ?_
      refine go_seq ?_
      skip
      refine go_reg ?_
      refine run_aops hA 2 _ _ _ _ (by cbv) ?_
      refine ops_done ?_
      refine go_cond rfl (fun c6 => ?_) (fun c6 => ?_)
      · skip
        have ec6 : v23_4 < 0 := lss_t hA c6
        refine go_seq ?_
        refine go_reg ?_
        refine run_aops hA 1 _ _ _ _ (by cbv) ?_
        refine ops_done ?_
        refine go_ret ⟨_, by cbv, ?_⟩
        show _ = (PV.int .i64 (-1))
        refine congrArg (PV.int .i64) ?_
        rw [zsSessionS, chain_cons, if_neg (by omega), flat_split zsSession xs (i + 1), take_flat zsSession xs hix3, List.append_assoc, chain_sub hL hL0]
        exact chain_subN (by omega) hv23_4 ec6
      · skip
        have ec6 : 0 ≤ v23_4 := lss_f hA c6
        refine go_skip ?_
        refine go_reg ?_
        refine run_aops hA 3 _ _ _ _ (by cbv) ?_
        refine ops_done ?_
        refine ⟨(S10_1 xs_r v23_4 (A.num .add .i64 n5 1)), List.length xs - (i + 1), ?_, by cbv, i + 1, v23_4, (A.num .add .i64 n5 1), rfl, ?_, rfl⟩
        · skip
          omega
        · skip
          refine ⟨by rw [add_i64 hA (by omega) (by omega)]; omega, by omega, by omega, by omega, ?_⟩
          rw [take_flat zsSession xs hix3, chain_sub hL hL0]
          exact hv23_4
    · skip
      have ec2 : (A.rlen xs_r) ≤ n5 := lss_f hA c2
      refine go_exit ⟨fun _ => ?_, fun h => absurd rfl h⟩
      refine go_seq ?_
      refine go_reg ?_
      refine run_aops hA 2 _ _ _ _ (by cbv) ?_
      refine ops_done ?_
      refine go_ret ⟨_, by cbv, ?_⟩
      show _ = (PV.int .i64 L)
      refine congrArg (PV.int .i64) ?_
      rw [zsSessionS, chain_cons, if_neg (by omega), hL, List.take_of_length_le (by omega)]
end Go.Av
