/- Walks: eq of boxes and lists of sessions. -/
import Derived.Test.YtjbokkoiicoahaaDoorTy
namespace Go.Av
open Go Go.Proofs
set_option maxRecDepth 100000
set_option maxHeartbeats 4000000
set_option linter.unusedVariables false
set_option linter.unusedSimpArgs false
theorem r_laws_eqMail (A : Alg) (hA : A = std) (x : GMail) (hk : ∀ k ∈ zsMail x, (k : Int) ≤ 4611686018427387904) : Real Tryd.prog 35 [.agg (eMail x), .agg (eMail x)] (.bool true) := by
  obtain ⟨x_Uid, x_Flags, x_Text⟩ := x
  refine real_args (args' := [.agg [.int .i64 x_Uid, .int .i64 x_Flags, .str x_Text], .agg [.int .i64 x_Uid, .int .i64 x_Flags, .str x_Text]]) (by rfl) ?_
  refine real tyOk Tryd.func35 (by kernel_rfl) (afun_of rfl ?_)
  refine go_seq ?_
  refine go_reg ?_
  refine run_aops hA 3 _ _ _ _ (by cbv) ?_
  refine ops_done ?_
  refine go_seq ?_
  refine go_seq ?_
  refine go_reg ?_
  refine run_aops hA 5 _ _ _ _ (by cbv) ?_
  refine ops_done ?_
  refine go_cond rfl (fun c1 => ?_) (fun c1 => ?_)
  · skip
    exact absurd (show (A.cmp .neq x_Uid x_Uid) = true from c1) (by rw [show (A.cmp .neq x_Uid x_Uid) = false from by subst hA; simp [std]]; decide)
  · skip
    refine go_skip ?_
    refine go_seq ?_
    refine go_seq ?_
    refine go_reg ?_
    refine run_aops hA 5 _ _ _ _ (by cbv) ?_
    refine ops_done ?_
    refine go_cond rfl (fun c2 => ?_) (fun c2 => ?_)
    · skip
      exact absurd (show (A.cmp .neq x_Flags x_Flags) = true from c2) (by rw [show (A.cmp .neq x_Flags x_Flags) = false from by subst hA; simp [std]]; decide)
    · skip
      refine go_skip ?_
      refine go_seq ?_
      refine go_seq ?_
      refine go_reg ?_
      refine run_aops hA 5 _ _ _ _ (by cbv) ?_
      refine ops_done ?_
      refine go_cond rfl (fun c3 => ?_) (fun c3 => ?_)
      · skip
        exact absurd (show (A.scmp .neq x_Text x_Text) = true from c3) (by rw [show (A.scmp .neq x_Text x_Text) = false from by subst hA; simp [std]]; decide)
      · skip
        refine go_skip ?_
        refine go_seq ?_
        refine go_reg ?_
        refine run_aops hA 1 _ _ _ _ (by cbv) ?_
        refine ops_done ?_
        refine go_ret ⟨_, by cbv, ?_⟩
        show _ = (PV.bool true)
        rfl

def S23_1 (p0 : List (List PV)) (p1 : Int) : St := { sl := [.sl 3 p0, .sl 3 p0, .bad, .bad, .bad, .int .i64 p1, .bad, .bad, .bad, .bad, .bad, .bad, .bad, .bad, .bad, .bad, .bad, .bad, .bad, .bad, .bad, .bad, .bad, .bad, .bad, .bad, .bad], bl := [] }
theorem r_laws_eqMailS (A : Alg) (hA : A = std) (xs : List GMail) (hk : ∀ k ∈ zsMailS xs, (k : Int) ≤ 4611686018427387904) : Real Tryd.prog 23 [.sl 3 (List.map eMail xs), .sl 3 (List.map eMail xs)] (.bool true) := by
  obtain ⟨xs_r, hxs_r⟩ : ∃ r, r = xs.map eMail := ⟨_, rfl⟩
  have lxs_r : A.rlen xs_r = (List.length xs : Int) := rlen_map hA hxs_r
  refine real_args (args' := [.sl 3 xs_r, .sl 3 xs_r]) (by subst hxs_r; rfl) ?_
  have hlen : (List.length xs : Int) ≤ 4611686018427387904 := hk _ (by simp [zsMailS])
  refine real tyOk Tryd.func23 (by kernel_rfl) (afun_of rfl ?_)
  refine go_seq ?_
  refine go_reg ?_
  refine run_aops hA 1 _ _ _ _ (by cbv) ?_
  refine ops_done ?_
  refine go_seq ?_
  refine go_seq ?_
  refine go_reg ?_
  refine run_aops hA 5 _ _ _ _ (by cbv) ?_
  refine ops_done ?_
  refine go_cond rfl (fun c1 => ?_) (fun c1 => ?_)
  · skip
    exact absurd (show (A.cmp .neq (A.rlen xs_r) (A.rlen xs_r)) = true from c1) (by rw [show (A.cmp .neq (A.rlen xs_r) (A.rlen xs_r)) = false from by subst hA; simp [std]]; decide)
  · skip
    refine go_skip ?_
    refine go_seq ?_
    refine go_seq ?_
    refine go_reg ?_
    refine run_aops hA 1 _ _ _ _ (by cbv) ?_
    refine ops_done ?_
    refine go_block ?_
    refine go_loopE (fun σ m => ∃ (i : Nat) (n5 : Int), σ = (S23_1 xs_r n5) ∧ (n5 = (i : Int) ∧ i ≤ List.length xs) ∧ m = List.length xs - i) _ [] [0, 1, 5] [] (S23_1 xs_r 0) rfl (by cbv) ⟨0, 0, rfl, ?_, rfl⟩ (fun σ m hI => ?_)
    · skip
      exact ⟨rfl, Nat.zero_le _⟩
    obtain ⟨i, n5, rfl, ⟨hn5, hi⟩, rfl⟩ := hI
    refine go_seq ?_
    refine go_seq ?_
    refine go_reg ?_
    refine run_aops hA 4 _ _ _ _ (by cbv) ?_
    refine ops_done ?_
    refine go_cond rfl (fun c2 => ?_) (fun c2 => ?_)
    · skip
      have ec2 : n5 < (A.rlen xs_r) := lss_t hA c2
      refine go_skip ?_
      refine go_seq ?_
      refine go_block ?_
      refine go_seq ?_
      refine go_draw (by cbv) ?_
      refine run_dops hA 2 _ _ _ _ (by cbv) ?_
      have h0x3 : (0 : Int) ≤ n5 := by
        omega
      have hlx3 : (Int.toNat n5) < List.length xs := by
        omega
      obtain ⟨x3, hx3⟩ : ∃ x, (xs)[(Int.toNat n5)]? = some x := ⟨_, List.getElem?_eq_getElem hlx3⟩
      have hmx3 := List.mem_of_getElem? hx3
      obtain ⟨x3_Uid, x3_Flags, x3_Text⟩ := x3
      have hrx3 : xs_r[(Int.toNat n5)]? = some [.int .i64 x3_Uid, .int .i64 x3_Flags, .str x3_Text] := by
        exact map_at eMail hxs_r hx3
      have hkx := fun (k : Nat) h => hk k (List.mem_cons_of_mem _ (List.mem_flatMap.2 ⟨_, hmx3, h⟩))
      refine dops_step rfl rfl rfl (idx_sl rfl rfl rfl rfl rfl h0x3 rfl hrx3) ?_
      refine run_dops hA 3 _ _ _ _ (by cbv) ?_
      refine dops_step rfl rfl rfl (idx_sl rfl rfl rfl rfl rfl h0x3 rfl hrx3) ?_
      refine run_dops hA 1 _ _ _ _ (by cbv) ?_
      have hc5 : Real Tryd.prog 35 [.agg [.int .i64 x3_Uid, .int .i64 x3_Flags, .str x3_Text], .agg [.int .i64 x3_Uid, .int .i64 x3_Flags, .str x3_Text]] (.bool true) := by exact r_laws_eqMail A hA (⟨x3_Uid, x3_Flags, x3_Text⟩ : GMail) hkx
      refine dops_callV rfl rfl (by cbv) (by cbv) hc5 (.inr rfl) ?_
      refine run_dops hA 1 _ _ _ _ (by cbv) ?_
      refine dops_done ?_
      refine go_cond rfl (fun c6 => ?_) (fun c6 => ?_)
      · skip
        exact absurd (show (A.bnot true) = true from c6) (by rw [show (A.bnot true) = false from by subst hA; rfl]; decide)
      · skip
        refine go_skip ?_
        refine go_reg ?_
        refine run_aops hA 3 _ _ _ _ (by cbv) ?_
        refine ops_done ?_
        refine ⟨(S23_1 xs_r (A.num .add .i64 n5 1)), List.length xs - (i + 1), ?_, by cbv, i + 1, (A.num .add .i64 n5 1), rfl, ?_, rfl⟩
        · skip
          omega
        · skip
          exact ⟨by rw [add_i64 hA (by omega) (by omega)]; omega, by omega⟩
    · skip
      have ec2 : (A.rlen xs_r) ≤ n5 := lss_f hA c2
      refine go_exit ⟨fun _ => ?_, fun h => absurd rfl h⟩
      refine go_seq ?_
      refine go_reg ?_
      refine run_aops hA 1 _ _ _ _ (by cbv) ?_
      refine ops_done ?_
      refine go_ret ⟨_, by cbv, ?_⟩
      show _ = (PV.bool true)
      rfl

theorem r_laws_eqBox (A : Alg) (hA : A = std) (x : GBox) (hk : ∀ k ∈ zsBox x, (k : Int) ≤ 4611686018427387904) : Real Tryd.prog 9 [.agg (eBox x), .agg (eBox x)] (.bool true) := by
  obtain ⟨x_Valid, x_User, x_Name, x_Next, x_Mails⟩ := x
  obtain ⟨x_Mails_r, hx_Mails_r⟩ : ∃ r, r = x_Mails.map eMail := ⟨_, rfl⟩
  have lx_Mails_r : A.rlen x_Mails_r = (List.length x_Mails : Int) := rlen_map hA hx_Mails_r
  refine real_args (args' := [.agg [.int .i64 x_Valid, .str x_User, .str x_Name, .int .i64 x_Next, .sl 3 x_Mails_r], .agg [.int .i64 x_Valid, .str x_User, .str x_Name, .int .i64 x_Next, .sl 3 x_Mails_r]]) (by subst hx_Mails_r; rfl) ?_
  refine real tyOk Tryd.func9 (by kernel_rfl) (afun_of rfl ?_)
  refine go_seq ?_
  refine go_reg ?_
  refine run_aops hA 3 _ _ _ _ (by cbv) ?_
  refine ops_done ?_
  refine go_seq ?_
  refine go_seq ?_
  refine go_reg ?_
  refine run_aops hA 5 _ _ _ _ (by cbv) ?_
  refine ops_done ?_
  refine go_cond rfl (fun c1 => ?_) (fun c1 => ?_)
  · skip
    exact absurd (show (A.cmp .neq x_Valid x_Valid) = true from c1) (by rw [show (A.cmp .neq x_Valid x_Valid) = false from by subst hA; simp [std]]; decide)
  · skip
    refine go_skip ?_
    refine go_seq ?_
    refine go_seq ?_
    refine go_reg ?_
    refine run_aops hA 5 _ _ _ _ (by cbv) ?_
    refine ops_done ?_
    refine go_cond rfl (fun c2 => ?_) (fun c2 => ?_)
    · skip
      exact absurd (show (A.scmp .neq x_User x_User) = true from c2) (by rw [show (A.scmp .neq x_User x_User) = false from by subst hA; simp [std]]; decide)
    · skip
      refine go_skip ?_
      refine go_seq ?_
      refine go_seq ?_
      refine go_reg ?_
      refine run_aops hA 5 _ _ _ _ (by cbv) ?_
      refine ops_done ?_
      refine go_cond rfl (fun c3 => ?_) (fun c3 => ?_)
      · skip
        exact absurd (show (A.scmp .neq x_Name x_Name) = true from c3) (by rw [show (A.scmp .neq x_Name x_Name) = false from by subst hA; simp [std]]; decide)
      · skip
        refine go_skip ?_
        refine go_seq ?_
        refine go_seq ?_
        refine go_reg ?_
        refine run_aops hA 5 _ _ _ _ (by cbv) ?_
        refine ops_done ?_
        refine go_cond rfl (fun c4 => ?_) (fun c4 => ?_)
        · skip
          exact absurd (show (A.cmp .neq x_Next x_Next) = true from c4) (by rw [show (A.cmp .neq x_Next x_Next) = false from by subst hA; simp [std]]; decide)
        · skip
          refine go_skip ?_
          refine go_seq ?_
          refine go_seq ?_
          refine go_reg ?_
          refine run_aops hA 4 _ _ _ _ (by cbv) ?_
          have hc6 : Real Tryd.prog 23 [.sl 3 x_Mails_r, .sl 3 x_Mails_r] (.bool true) := by subst hx_Mails_r; exact r_laws_eqMailS A hA x_Mails (fun k h => hk k (by simp only [zsBox, List.mem_append]; simp only [h, true_or, or_true]))
          refine ops_callV rfl rfl (by cbv) (by cbv) hc6 (.inr rfl) (by cbv) ?_
          refine run_aops hA 1 _ _ _ _ (by cbv) ?_
          refine ops_done ?_
          refine go_cond rfl (fun c7 => ?_) (fun c7 => ?_)
          · skip
            exact absurd (show (A.bnot true) = true from c7) (by rw [show (A.bnot true) = false from by subst hA; rfl]; decide)
          · skip
            refine go_skip ?_
            refine go_seq ?_
            refine go_reg ?_
            refine run_aops hA 1 _ _ _ _ (by cbv) ?_
            refine ops_done ?_
            refine go_ret ⟨_, by cbv, ?_⟩
            show _ = (PV.bool true)
            rfl

def S59_1 (p0 : List (List PV)) (p1 : Int) : St := { sl := [.sl 1 p0, .sl 1 p0, .bad, .bad, .bad, .int .i64 p1, .bad, .bad, .bad, .bad, .bad, .bad, .bad, .bad, .bad, .bad, .bad, .bad, .bad, .bad, .bad, .bad, .bad, .bad, .bad, .bad], bl := [] }
theorem r_laws_eqStringS (A : Alg) (hA : A = std) (xs : List ByteArray) (hk : ∀ k ∈ zsStringS xs, (k : Int) ≤ 4611686018427387904) : Real Tryd.prog 59 [.sl 1 (List.map eString xs), .sl 1 (List.map eString xs)] (.bool true) := by
  obtain ⟨xs_r, hxs_r⟩ : ∃ r, r = xs.map eString := ⟨_, rfl⟩
  have lxs_r : A.rlen xs_r = (List.length xs : Int) := rlen_map hA hxs_r
  refine real_args (args' := [.sl 1 xs_r, .sl 1 xs_r]) (by subst hxs_r; rfl) ?_
  have hlen : (List.length xs : Int) ≤ 4611686018427387904 := hk _ (by simp [zsStringS])
  refine real tyOk Tryd.func59 (by kernel_rfl) (afun_of rfl ?_)
  refine go_seq ?_
  refine go_reg ?_
  refine run_aops hA 1 _ _ _ _ (by cbv) ?_
  refine ops_done ?_
  refine go_seq ?_
  refine go_seq ?_
  refine go_reg ?_
  refine run_aops hA 5 _ _ _ _ (by cbv) ?_
  refine ops_done ?_
  refine go_cond rfl (fun c1 => ?_) (fun c1 => ?_)
  · skip
    exact absurd (show (A.cmp .neq (A.rlen xs_r) (A.rlen xs_r)) = true from c1) (by rw [show (A.cmp .neq (A.rlen xs_r) (A.rlen xs_r)) = false from by subst hA; simp [std]]; decide)
  · skip
    refine go_skip ?_
    refine go_seq ?_
    refine go_seq ?_
    refine go_reg ?_
    refine run_aops hA 1 _ _ _ _ (by cbv) ?_
    refine ops_done ?_
    refine go_block ?_
    refine go_loopE (fun σ m => ∃ (i : Nat) (n5 : Int), σ = (S59_1 xs_r n5) ∧ (n5 = (i : Int) ∧ i ≤ List.length xs) ∧ m = List.length xs - i) _ [] [0, 1, 5] [] (S59_1 xs_r 0) rfl (by cbv) ⟨0, 0, rfl, ?_, rfl⟩ (fun σ m hI => ?_)
    · skip
      exact ⟨rfl, Nat.zero_le _⟩
    obtain ⟨i, n5, rfl, ⟨hn5, hi⟩, rfl⟩ := hI
    refine go_seq ?_
    refine go_seq ?_
    refine go_reg ?_
    refine run_aops hA 4 _ _ _ _ (by cbv) ?_
    refine ops_done ?_
    refine go_cond rfl (fun c2 => ?_) (fun c2 => ?_)
    · skip
      have ec2 : n5 < (A.rlen xs_r) := lss_t hA c2
      refine go_skip ?_
      refine go_seq ?_
      refine go_block ?_
      refine go_seq ?_
      refine go_draw (by cbv) ?_
      refine run_dops hA 2 _ _ _ _ (by cbv) ?_
      have h0x3 : (0 : Int) ≤ n5 := by
        omega
      have hlx3 : (Int.toNat n5) < List.length xs := by
        omega
      obtain ⟨x3, hx3⟩ : ∃ x, (xs)[(Int.toNat n5)]? = some x := ⟨_, List.getElem?_eq_getElem hlx3⟩
      have hmx3 := List.mem_of_getElem? hx3
      have hrx3 : xs_r[(Int.toNat n5)]? = some [.str x3] := by
        exact map_at eString hxs_r hx3
      refine dops_step rfl rfl rfl (idx_sl rfl rfl rfl rfl rfl h0x3 rfl hrx3) ?_
      refine run_dops hA 3 _ _ _ _ (by cbv) ?_
      refine dops_step rfl rfl rfl (idx_sl rfl rfl rfl rfl rfl h0x3 rfl hrx3) ?_
      refine run_dops hA 2 _ _ _ _ (by cbv) ?_
      refine dops_done ?_
      refine go_cond rfl (fun c4 => ?_) (fun c4 => ?_)
      · skip
        exact absurd (show (A.scmp .neq x3 x3) = true from c4) (by rw [show (A.scmp .neq x3 x3) = false from by subst hA; simp [std]]; decide)
      · skip
        refine go_skip ?_
        refine go_reg ?_
        refine run_aops hA 3 _ _ _ _ (by cbv) ?_
        refine ops_done ?_
        refine ⟨(S59_1 xs_r (A.num .add .i64 n5 1)), List.length xs - (i + 1), ?_, by cbv, i + 1, (A.num .add .i64 n5 1), rfl, ?_, rfl⟩
        · skip
          omega
        · skip
          exact ⟨by rw [add_i64 hA (by omega) (by omega)]; omega, by omega⟩
    · skip
      have ec2 : (A.rlen xs_r) ≤ n5 := lss_f hA c2
      refine go_exit ⟨fun _ => ?_, fun h => absurd rfl h⟩
      refine go_seq ?_
      refine go_reg ?_
      refine run_aops hA 1 _ _ _ _ (by cbv) ?_
      refine ops_done ?_
      refine go_ret ⟨_, by cbv, ?_⟩
      show _ = (PV.bool true)
      rfl

theorem r_laws_eqBring (A : Alg) (hA : A = std) (x : GBring) (hk : ∀ k ∈ zsBring x, (k : Int) ≤ 4611686018427387904) : Real Tryd.prog 44 [.agg (eBring x), .agg (eBring x)] (.bool true) := by
  obtain ⟨x_State, x_From, x_To, x_Data⟩ := x
  obtain ⟨x_To_r, hx_To_r⟩ : ∃ r, r = x_To.map eString := ⟨_, rfl⟩
  have lx_To_r : A.rlen x_To_r = (List.length x_To : Int) := rlen_map hA hx_To_r
  obtain ⟨x_Data_r, hx_Data_r⟩ : ∃ r, r = x_Data.map eString := ⟨_, rfl⟩
  have lx_Data_r : A.rlen x_Data_r = (List.length x_Data : Int) := rlen_map hA hx_Data_r
  refine real_args (args' := [.agg [.int .i64 x_State, .str x_From, .sl 1 x_To_r, .sl 1 x_Data_r], .agg [.int .i64 x_State, .str x_From, .sl 1 x_To_r, .sl 1 x_Data_r]]) (by subst hx_To_r hx_Data_r; rfl) ?_
  refine real tyOk Tryd.func44 (by kernel_rfl) (afun_of rfl ?_)
  refine go_seq ?_
  refine go_reg ?_
  refine run_aops hA 3 _ _ _ _ (by cbv) ?_
  refine ops_done ?_
  refine go_seq ?_
  refine go_seq ?_
  refine go_reg ?_
  refine run_aops hA 5 _ _ _ _ (by cbv) ?_
  refine ops_done ?_
  refine go_cond rfl (fun c1 => ?_) (fun c1 => ?_)
  · skip
    exact absurd (show (A.cmp .neq x_State x_State) = true from c1) (by rw [show (A.cmp .neq x_State x_State) = false from by subst hA; simp [std]]; decide)
  · skip
    refine go_skip ?_
    refine go_seq ?_
    refine go_seq ?_
    refine go_reg ?_
    refine run_aops hA 5 _ _ _ _ (by cbv) ?_
    refine ops_done ?_
    refine go_cond rfl (fun c2 => ?_) (fun c2 => ?_)
    · skip
      exact absurd (show (A.scmp .neq x_From x_From) = true from c2) (by rw [show (A.scmp .neq x_From x_From) = false from by subst hA; simp [std]]; decide)
    · skip
      refine go_skip ?_
      refine go_seq ?_
      refine go_seq ?_
      refine go_reg ?_
      refine run_aops hA 4 _ _ _ _ (by cbv) ?_
      have hc4 : Real Tryd.prog 59 [.sl 1 x_To_r, .sl 1 x_To_r] (.bool true) := by subst hx_To_r; exact r_laws_eqStringS A hA x_To (fun k h => hk k (by simp only [zsBring, List.mem_append]; simp only [h, true_or, or_true]))
      refine ops_callV rfl rfl (by cbv) (by cbv) hc4 (.inr rfl) (by cbv) ?_
      refine run_aops hA 1 _ _ _ _ (by cbv) ?_
      refine ops_done ?_
      refine go_cond rfl (fun c5 => ?_) (fun c5 => ?_)
      · skip
        exact absurd (show (A.bnot true) = true from c5) (by rw [show (A.bnot true) = false from by subst hA; rfl]; decide)
      · skip
        refine go_skip ?_
        refine go_seq ?_
        refine go_seq ?_
        refine go_reg ?_
        refine run_aops hA 4 _ _ _ _ (by cbv) ?_
        have hc7 : Real Tryd.prog 59 [.sl 1 x_Data_r, .sl 1 x_Data_r] (.bool true) := by subst hx_Data_r; exact r_laws_eqStringS A hA x_Data (fun k h => hk k (by simp only [zsBring, List.mem_append]; simp only [h, true_or, or_true]))
        refine ops_callV rfl rfl (by cbv) (by cbv) hc7 (.inr rfl) (by cbv) ?_
        refine run_aops hA 1 _ _ _ _ (by cbv) ?_
        refine ops_done ?_
        refine go_cond rfl (fun c8 => ?_) (fun c8 => ?_)
        · skip
          exact absurd (show (A.bnot true) = true from c8) (by rw [show (A.bnot true) = false from by subst hA; rfl]; decide)
        · skip
          refine go_skip ?_
          refine go_seq ?_
          refine go_reg ?_
          refine run_aops hA 1 _ _ _ _ (by cbv) ?_
          refine ops_done ?_
          refine go_ret ⟨_, by cbv, ?_⟩
          show _ = (PV.bool true)
          rfl

def S60_1 (p0 : List (List PV)) (p1 : Int) : St := { sl := [.sl 1 p0, .sl 1 p0, .bad, .bad, .bad, .int .i64 p1, .bad, .bad, .bad, .bad, .bad, .bad, .bad, .bad, .bad, .bad, .bad, .bad, .bad, .bad, .bad, .bad, .bad, .bad, .bad, .bad], bl := [] }
theorem r_laws_eqBoolS (A : Alg) (hA : A = std) (xs : List Bool) (hk : ∀ k ∈ zsBoolS xs, (k : Int) ≤ 4611686018427387904) : Real Tryd.prog 60 [.sl 1 (List.map eBool xs), .sl 1 (List.map eBool xs)] (.bool true) := by
  obtain ⟨xs_r, hxs_r⟩ : ∃ r, r = xs.map eBool := ⟨_, rfl⟩
  have lxs_r : A.rlen xs_r = (List.length xs : Int) := rlen_map hA hxs_r
  refine real_args (args' := [.sl 1 xs_r, .sl 1 xs_r]) (by subst hxs_r; rfl) ?_
  have hlen : (List.length xs : Int) ≤ 4611686018427387904 := hk _ (by simp [zsBoolS])
  refine real tyOk Tryd.func60 (by kernel_rfl) (afun_of rfl ?_)
  refine go_seq ?_
  refine go_reg ?_
  refine run_aops hA 1 _ _ _ _ (by cbv) ?_
  refine ops_done ?_
  refine go_seq ?_
  refine go_seq ?_
  refine go_reg ?_
  refine run_aops hA 5 _ _ _ _ (by cbv) ?_
  refine ops_done ?_
  refine go_cond rfl (fun c1 => ?_) (fun c1 => ?_)
  · skip
    exact absurd (show (A.cmp .neq (A.rlen xs_r) (A.rlen xs_r)) = true from c1) (by rw [show (A.cmp .neq (A.rlen xs_r) (A.rlen xs_r)) = false from by subst hA; simp [std]]; decide)
  · skip
    refine go_skip ?_
    refine go_seq ?_
    refine go_seq ?_
    refine go_reg ?_
    refine run_aops hA 1 _ _ _ _ (by cbv) ?_
    refine ops_done ?_
    refine go_block ?_
    refine go_loopE (fun σ m => ∃ (i : Nat) (n5 : Int), σ = (S60_1 xs_r n5) ∧ (n5 = (i : Int) ∧ i ≤ List.length xs) ∧ m = List.length xs - i) _ [] [0, 1, 5] [] (S60_1 xs_r 0) rfl (by cbv) ⟨0, 0, rfl, ?_, rfl⟩ (fun σ m hI => ?_)
    · skip
      exact ⟨rfl, Nat.zero_le _⟩
    obtain ⟨i, n5, rfl, ⟨hn5, hi⟩, rfl⟩ := hI
    refine go_seq ?_
    refine go_seq ?_
    refine go_reg ?_
    refine run_aops hA 4 _ _ _ _ (by cbv) ?_
    refine ops_done ?_
    refine go_cond rfl (fun c2 => ?_) (fun c2 => ?_)
    · skip
      have ec2 : n5 < (A.rlen xs_r) := lss_t hA c2
      refine go_skip ?_
      refine go_seq ?_
      refine go_block ?_
      refine go_seq ?_
      refine go_draw (by cbv) ?_
      refine run_dops hA 2 _ _ _ _ (by cbv) ?_
      have h0x3 : (0 : Int) ≤ n5 := by
        omega
      have hlx3 : (Int.toNat n5) < List.length xs := by
        omega
      obtain ⟨x3, hx3⟩ : ∃ x, (xs)[(Int.toNat n5)]? = some x := ⟨_, List.getElem?_eq_getElem hlx3⟩
      have hmx3 := List.mem_of_getElem? hx3
      have hrx3 : xs_r[(Int.toNat n5)]? = some [.bool x3] := by
        exact map_at eBool hxs_r hx3
      refine dops_step rfl rfl rfl (idx_sl rfl rfl rfl rfl rfl h0x3 rfl hrx3) ?_
      refine run_dops hA 3 _ _ _ _ (by cbv) ?_
      refine dops_step rfl rfl rfl (idx_sl rfl rfl rfl rfl rfl h0x3 rfl hrx3) ?_
      refine run_dops hA 2 _ _ _ _ (by cbv) ?_
      refine dops_done ?_
      refine go_cond rfl (fun c4 => ?_) (fun c4 => ?_)
      · skip
        exact absurd (show (A.bnot (A.beq x3 x3)) = true from c4) (by rw [show (A.bnot (A.beq x3 x3)) = false from by subst hA; simp [std]]; decide)
      · skip
        refine go_skip ?_
        refine go_reg ?_
        refine run_aops hA 3 _ _ _ _ (by cbv) ?_
        refine ops_done ?_
        refine ⟨(S60_1 xs_r (A.num .add .i64 n5 1)), List.length xs - (i + 1), ?_, by cbv, i + 1, (A.num .add .i64 n5 1), rfl, ?_, rfl⟩
        · skip
          omega
        · skip
          exact ⟨by rw [add_i64 hA (by omega) (by omega)]; omega, by omega⟩
    · skip
      have ec2 : (A.rlen xs_r) ≤ n5 := lss_f hA c2
      refine go_exit ⟨fun _ => ?_, fun h => absurd rfl h⟩
      refine go_seq ?_
      refine go_reg ?_
      refine run_aops hA 1 _ _ _ _ (by cbv) ?_
      refine ops_done ?_
      refine go_ret ⟨_, by cbv, ?_⟩
      show _ = (PV.bool true)
      rfl

theorem r_laws_eqFetch (A : Alg) (hA : A = std) (x : GFetch) (hk : ∀ k ∈ zsFetch x, (k : Int) ≤ 4611686018427387904) : Real Tryd.prog 45 [.agg (eFetch x), .agg (eFetch x)] (.bool true) := by
  obtain ⟨x_State, x_User, x_Mails, x_Gone⟩ := x
  obtain ⟨x_Mails_r, hx_Mails_r⟩ : ∃ r, r = x_Mails.map eMail := ⟨_, rfl⟩
  have lx_Mails_r : A.rlen x_Mails_r = (List.length x_Mails : Int) := rlen_map hA hx_Mails_r
  obtain ⟨x_Gone_r, hx_Gone_r⟩ : ∃ r, r = x_Gone.map eBool := ⟨_, rfl⟩
  have lx_Gone_r : A.rlen x_Gone_r = (List.length x_Gone : Int) := rlen_map hA hx_Gone_r
  refine real_args (args' := [.agg [.int .i64 x_State, .str x_User, .sl 3 x_Mails_r, .sl 1 x_Gone_r], .agg [.int .i64 x_State, .str x_User, .sl 3 x_Mails_r, .sl 1 x_Gone_r]]) (by subst hx_Mails_r hx_Gone_r; rfl) ?_
  refine real tyOk Tryd.func45 (by kernel_rfl) (afun_of rfl ?_)
  refine go_seq ?_
  refine go_reg ?_
  refine run_aops hA 3 _ _ _ _ (by cbv) ?_
  refine ops_done ?_
  refine go_seq ?_
  refine go_seq ?_
  refine go_reg ?_
  refine run_aops hA 5 _ _ _ _ (by cbv) ?_
  refine ops_done ?_
  refine go_cond rfl (fun c1 => ?_) (fun c1 => ?_)
  · skip
    exact absurd (show (A.cmp .neq x_State x_State) = true from c1) (by rw [show (A.cmp .neq x_State x_State) = false from by subst hA; simp [std]]; decide)
  · skip
    refine go_skip ?_
    refine go_seq ?_
    refine go_seq ?_
    refine go_reg ?_
    refine run_aops hA 5 _ _ _ _ (by cbv) ?_
    refine ops_done ?_
    refine go_cond rfl (fun c2 => ?_) (fun c2 => ?_)
    · skip
      exact absurd (show (A.scmp .neq x_User x_User) = true from c2) (by rw [show (A.scmp .neq x_User x_User) = false from by subst hA; simp [std]]; decide)
    · skip
      refine go_skip ?_
      refine go_seq ?_
      refine go_seq ?_
      refine go_reg ?_
      refine run_aops hA 4 _ _ _ _ (by cbv) ?_
      have hc4 : Real Tryd.prog 23 [.sl 3 x_Mails_r, .sl 3 x_Mails_r] (.bool true) := by subst hx_Mails_r; exact r_laws_eqMailS A hA x_Mails (fun k h => hk k (by simp only [zsFetch, List.mem_append]; simp only [h, true_or, or_true]))
      refine ops_callV rfl rfl (by cbv) (by cbv) hc4 (.inr rfl) (by cbv) ?_
      refine run_aops hA 1 _ _ _ _ (by cbv) ?_
      refine ops_done ?_
      refine go_cond rfl (fun c5 => ?_) (fun c5 => ?_)
      · skip
        exact absurd (show (A.bnot true) = true from c5) (by rw [show (A.bnot true) = false from by subst hA; rfl]; decide)
      · skip
        refine go_skip ?_
        refine go_seq ?_
        refine go_seq ?_
        refine go_reg ?_
        refine run_aops hA 4 _ _ _ _ (by cbv) ?_
        have hc7 : Real Tryd.prog 60 [.sl 1 x_Gone_r, .sl 1 x_Gone_r] (.bool true) := by subst hx_Gone_r; exact r_laws_eqBoolS A hA x_Gone (fun k h => hk k (by simp only [zsFetch, List.mem_append]; simp only [h, true_or, or_true]))
        refine ops_callV rfl rfl (by cbv) (by cbv) hc7 (.inr rfl) (by cbv) ?_
        refine run_aops hA 1 _ _ _ _ (by cbv) ?_
        refine ops_done ?_
        refine go_cond rfl (fun c8 => ?_) (fun c8 => ?_)
        · skip
          exact absurd (show (A.bnot true) = true from c8) (by rw [show (A.bnot true) = false from by subst hA; rfl]; decide)
        · skip
          refine go_skip ?_
          refine go_seq ?_
          refine go_reg ?_
          refine run_aops hA 1 _ _ _ _ (by cbv) ?_
          refine ops_done ?_
          refine go_ret ⟨_, by cbv, ?_⟩
          show _ = (PV.bool true)
          rfl

def S61_1 (p0 : List (List PV)) (p1 : Int) : St := { sl := [.sl 1 p0, .sl 1 p0, .bad, .bad, .bad, .int .i64 p1, .bad, .bad, .bad, .bad, .bad, .bad, .bad, .bad, .bad, .bad, .bad, .bad, .bad, .bad, .bad, .bad, .bad, .bad, .bad, .bad], bl := [] }
theorem r_laws_eqIntS (A : Alg) (hA : A = std) (xs : List Int) (hk : ∀ k ∈ zsIntS xs, (k : Int) ≤ 4611686018427387904) : Real Tryd.prog 61 [.sl 1 (List.map eInt xs), .sl 1 (List.map eInt xs)] (.bool true) := by
  obtain ⟨xs_r, hxs_r⟩ : ∃ r, r = xs.map eInt := ⟨_, rfl⟩
  have lxs_r : A.rlen xs_r = (List.length xs : Int) := rlen_map hA hxs_r
  refine real_args (args' := [.sl 1 xs_r, .sl 1 xs_r]) (by subst hxs_r; rfl) ?_
  have hlen : (List.length xs : Int) ≤ 4611686018427387904 := hk _ (by simp [zsIntS])
  refine real tyOk Tryd.func61 (by kernel_rfl) (afun_of rfl ?_)
  refine go_seq ?_
  refine go_reg ?_
  refine run_aops hA 1 _ _ _ _ (by cbv) ?_
  refine ops_done ?_
  refine go_seq ?_
  refine go_seq ?_
  refine go_reg ?_
  refine run_aops hA 5 _ _ _ _ (by cbv) ?_
  refine ops_done ?_
  refine go_cond rfl (fun c1 => ?_) (fun c1 => ?_)
  · skip
    exact absurd (show (A.cmp .neq (A.rlen xs_r) (A.rlen xs_r)) = true from c1) (by rw [show (A.cmp .neq (A.rlen xs_r) (A.rlen xs_r)) = false from by subst hA; simp [std]]; decide)
  · skip
    refine go_skip ?_
    refine go_seq ?_
    refine go_seq ?_
    refine go_reg ?_
    refine run_aops hA 1 _ _ _ _ (by cbv) ?_
    refine ops_done ?_
    refine go_block ?_
    refine go_loopE (fun σ m => ∃ (i : Nat) (n5 : Int), σ = (S61_1 xs_r n5) ∧ (n5 = (i : Int) ∧ i ≤ List.length xs) ∧ m = List.length xs - i) _ [] [0, 1, 5] [] (S61_1 xs_r 0) rfl (by cbv) ⟨0, 0, rfl, ?_, rfl⟩ (fun σ m hI => ?_)
    · skip
      exact ⟨rfl, Nat.zero_le _⟩
    obtain ⟨i, n5, rfl, ⟨hn5, hi⟩, rfl⟩ := hI
    refine go_seq ?_
    refine go_seq ?_
    refine go_reg ?_
    refine run_aops hA 4 _ _ _ _ (by cbv) ?_
    refine ops_done ?_
    refine go_cond rfl (fun c2 => ?_) (fun c2 => ?_)
    · skip
      have ec2 : n5 < (A.rlen xs_r) := lss_t hA c2
      refine go_skip ?_
      refine go_seq ?_
      refine go_block ?_
      refine go_seq ?_
      refine go_draw (by cbv) ?_
      refine run_dops hA 2 _ _ _ _ (by cbv) ?_
      have h0x3 : (0 : Int) ≤ n5 := by
        omega
      have hlx3 : (Int.toNat n5) < List.length xs := by
        omega
      obtain ⟨x3, hx3⟩ : ∃ x, (xs)[(Int.toNat n5)]? = some x := ⟨_, List.getElem?_eq_getElem hlx3⟩
      have hmx3 := List.mem_of_getElem? hx3
      have hrx3 : xs_r[(Int.toNat n5)]? = some [.int .i64 x3] := by
        exact map_at eInt hxs_r hx3
      refine dops_step rfl rfl rfl (idx_sl rfl rfl rfl rfl rfl h0x3 rfl hrx3) ?_
      refine run_dops hA 3 _ _ _ _ (by cbv) ?_
      refine dops_step rfl rfl rfl (idx_sl rfl rfl rfl rfl rfl h0x3 rfl hrx3) ?_
      refine run_dops hA 2 _ _ _ _ (by cbv) ?_
      refine dops_done ?_
      refine go_cond rfl (fun c4 => ?_) (fun c4 => ?_)
      · skip
        exact absurd (show (A.cmp .neq x3 x3) = true from c4) (by rw [show (A.cmp .neq x3 x3) = false from by subst hA; simp [std]]; decide)
      · skip
        refine go_skip ?_
        refine go_reg ?_
        refine run_aops hA 3 _ _ _ _ (by cbv) ?_
        refine ops_done ?_
        refine ⟨(S61_1 xs_r (A.num .add .i64 n5 1)), List.length xs - (i + 1), ?_, by cbv, i + 1, (A.num .add .i64 n5 1), rfl, ?_, rfl⟩
        · skip
          omega
        · skip
          exact ⟨by rw [add_i64 hA (by omega) (by omega)]; omega, by omega⟩
    · skip
      have ec2 : (A.rlen xs_r) ≤ n5 := lss_f hA c2
      refine go_exit ⟨fun _ => ?_, fun h => absurd rfl h⟩
      refine go_seq ?_
      refine go_reg ?_
      refine run_aops hA 1 _ _ _ _ (by cbv) ?_
      refine ops_done ?_
      refine go_ret ⟨_, by cbv, ?_⟩
      show _ = (PV.bool true)
      rfl

theorem r_laws_eqLook (A : Alg) (hA : A = std) (x : GLook) (hk : ∀ k ∈ zsLook x, (k : Int) ≤ 4611686018427387904) : Real Tryd.prog 46 [.agg (eLook x), .agg (eLook x)] (.bool true) := by
  obtain ⟨x_State, x_User, x_Box, x_Valid, x_Uids⟩ := x
  obtain ⟨x_Uids_r, hx_Uids_r⟩ : ∃ r, r = x_Uids.map eInt := ⟨_, rfl⟩
  have lx_Uids_r : A.rlen x_Uids_r = (List.length x_Uids : Int) := rlen_map hA hx_Uids_r
  refine real_args (args' := [.agg [.int .i64 x_State, .str x_User, .str x_Box, .int .i64 x_Valid, .sl 1 x_Uids_r], .agg [.int .i64 x_State, .str x_User, .str x_Box, .int .i64 x_Valid, .sl 1 x_Uids_r]]) (by subst hx_Uids_r; rfl) ?_
  refine real tyOk Tryd.func46 (by kernel_rfl) (afun_of rfl ?_)
  refine go_seq ?_
  refine go_reg ?_
  refine run_aops hA 3 _ _ _ _ (by cbv) ?_
  refine ops_done ?_
  refine go_seq ?_
  refine go_seq ?_
  refine go_reg ?_
  refine run_aops hA 5 _ _ _ _ (by cbv) ?_
  refine ops_done ?_
  refine go_cond rfl (fun c1 => ?_) (fun c1 => ?_)
  · skip
    exact absurd (show (A.cmp .neq x_State x_State) = true from c1) (by rw [show (A.cmp .neq x_State x_State) = false from by subst hA; simp [std]]; decide)
  · skip
    refine go_skip ?_
    refine go_seq ?_
    refine go_seq ?_
    refine go_reg ?_
    refine run_aops hA 5 _ _ _ _ (by cbv) ?_
    refine ops_done ?_
    refine go_cond rfl (fun c2 => ?_) (fun c2 => ?_)
    · skip
      exact absurd (show (A.scmp .neq x_User x_User) = true from c2) (by rw [show (A.scmp .neq x_User x_User) = false from by subst hA; simp [std]]; decide)
    · skip
      refine go_skip ?_
      refine go_seq ?_
      refine go_seq ?_
      refine go_reg ?_
      refine run_aops hA 5 _ _ _ _ (by cbv) ?_
      refine ops_done ?_
      refine go_cond rfl (fun c3 => ?_) (fun c3 => ?_)
      · skip
        exact absurd (show (A.scmp .neq x_Box x_Box) = true from c3) (by rw [show (A.scmp .neq x_Box x_Box) = false from by subst hA; simp [std]]; decide)
      · skip
        refine go_skip ?_
        refine go_seq ?_
        refine go_seq ?_
        refine go_reg ?_
        refine run_aops hA 5 _ _ _ _ (by cbv) ?_
        refine ops_done ?_
        refine go_cond rfl (fun c4 => ?_) (fun c4 => ?_)
        · skip
          exact absurd (show (A.cmp .neq x_Valid x_Valid) = true from c4) (by rw [show (A.cmp .neq x_Valid x_Valid) = false from by subst hA; simp [std]]; decide)
        · skip
          refine go_skip ?_
          refine go_seq ?_
          refine go_seq ?_
          refine go_reg ?_
          refine run_aops hA 4 _ _ _ _ (by cbv) ?_
          have hc6 : Real Tryd.prog 61 [.sl 1 x_Uids_r, .sl 1 x_Uids_r] (.bool true) := by subst hx_Uids_r; exact r_laws_eqIntS A hA x_Uids (fun k h => hk k (by simp only [zsLook, List.mem_append]; simp only [h, true_or, or_true]))
          refine ops_callV rfl rfl (by cbv) (by cbv) hc6 (.inr rfl) (by cbv) ?_
          refine run_aops hA 1 _ _ _ _ (by cbv) ?_
          refine ops_done ?_
          refine go_cond rfl (fun c7 => ?_) (fun c7 => ?_)
          · skip
            exact absurd (show (A.bnot true) = true from c7) (by rw [show (A.bnot true) = false from by subst hA; rfl]; decide)
          · skip
            refine go_skip ?_
            refine go_seq ?_
            refine go_reg ?_
            refine run_aops hA 1 _ _ _ _ (by cbv) ?_
            refine ops_done ?_
            refine go_ret ⟨_, by cbv, ?_⟩
            show _ = (PV.bool true)
            rfl

theorem r_laws_eqSession (A : Alg) (hA : A = std) (x : GSession) (hk : ∀ k ∈ zsSession x, (k : Int) ≤ 4611686018427387904) : Real Tryd.prog 28 [.agg (eSession x), .agg (eSession x)] (.bool true) := by
  obtain ⟨x_Kind, x_In, x_Out, x_Over, ⟨x_Bring_State, x_Bring_From, x_Bring_To, x_Bring_Data⟩, ⟨x_Fetch_State, x_Fetch_User, x_Fetch_Mails, x_Fetch_Gone⟩, ⟨x_Look_State, x_Look_User, x_Look_Box, x_Look_Valid, x_Look_Uids⟩⟩ := x
  obtain ⟨x_Bring_To_r, hx_Bring_To_r⟩ : ∃ r, r = x_Bring_To.map eString := ⟨_, rfl⟩
  have lx_Bring_To_r : A.rlen x_Bring_To_r = (List.length x_Bring_To : Int) := rlen_map hA hx_Bring_To_r
  obtain ⟨x_Bring_Data_r, hx_Bring_Data_r⟩ : ∃ r, r = x_Bring_Data.map eString := ⟨_, rfl⟩
  have lx_Bring_Data_r : A.rlen x_Bring_Data_r = (List.length x_Bring_Data : Int) := rlen_map hA hx_Bring_Data_r
  obtain ⟨x_Fetch_Mails_r, hx_Fetch_Mails_r⟩ : ∃ r, r = x_Fetch_Mails.map eMail := ⟨_, rfl⟩
  have lx_Fetch_Mails_r : A.rlen x_Fetch_Mails_r = (List.length x_Fetch_Mails : Int) := rlen_map hA hx_Fetch_Mails_r
  obtain ⟨x_Fetch_Gone_r, hx_Fetch_Gone_r⟩ : ∃ r, r = x_Fetch_Gone.map eBool := ⟨_, rfl⟩
  have lx_Fetch_Gone_r : A.rlen x_Fetch_Gone_r = (List.length x_Fetch_Gone : Int) := rlen_map hA hx_Fetch_Gone_r
  obtain ⟨x_Look_Uids_r, hx_Look_Uids_r⟩ : ∃ r, r = x_Look_Uids.map eInt := ⟨_, rfl⟩
  have lx_Look_Uids_r : A.rlen x_Look_Uids_r = (List.length x_Look_Uids : Int) := rlen_map hA hx_Look_Uids_r
  refine real_args (args' := [.agg [.int .i64 x_Kind, .str x_In, .str x_Out, .bool x_Over, .int .i64 x_Bring_State, .str x_Bring_From, .sl 1 x_Bring_To_r, .sl 1 x_Bring_Data_r, .int .i64 x_Fetch_State, .str x_Fetch_User, .sl 3 x_Fetch_Mails_r, .sl 1 x_Fetch_Gone_r, .int .i64 x_Look_State, .str x_Look_User, .str x_Look_Box, .int .i64 x_Look_Valid, .sl 1 x_Look_Uids_r], .agg [.int .i64 x_Kind, .str x_In, .str x_Out, .bool x_Over, .int .i64 x_Bring_State, .str x_Bring_From, .sl 1 x_Bring_To_r, .sl 1 x_Bring_Data_r, .int .i64 x_Fetch_State, .str x_Fetch_User, .sl 3 x_Fetch_Mails_r, .sl 1 x_Fetch_Gone_r, .int .i64 x_Look_State, .str x_Look_User, .str x_Look_Box, .int .i64 x_Look_Valid, .sl 1 x_Look_Uids_r]]) (by subst hx_Bring_To_r hx_Bring_Data_r hx_Fetch_Mails_r hx_Fetch_Gone_r hx_Look_Uids_r; rfl) ?_
  refine real tyOk Tryd.func28 (by kernel_rfl) (afun_of rfl ?_)
  refine go_seq ?_
  refine go_reg ?_
  refine run_aops hA 3 _ _ _ _ (by cbv) ?_
  refine ops_done ?_
  refine go_seq ?_
  refine go_seq ?_
  refine go_reg ?_
  refine run_aops hA 5 _ _ _ _ (by cbv) ?_
  refine ops_done ?_
  refine go_cond rfl (fun c1 => ?_) (fun c1 => ?_)
  · skip
    exact absurd (show (A.cmp .neq x_Kind x_Kind) = true from c1) (by rw [show (A.cmp .neq x_Kind x_Kind) = false from by subst hA; simp [std]]; decide)
  · skip
    refine go_skip ?_
    refine go_seq ?_
    refine go_seq ?_
    refine go_reg ?_
    refine run_aops hA 5 _ _ _ _ (by cbv) ?_
    refine ops_done ?_
    refine go_cond rfl (fun c2 => ?_) (fun c2 => ?_)
    · skip
      exact absurd (show (A.scmp .neq x_In x_In) = true from c2) (by rw [show (A.scmp .neq x_In x_In) = false from by subst hA; simp [std]]; decide)
    · skip
      refine go_skip ?_
      refine go_seq ?_
      refine go_seq ?_
      refine go_reg ?_
      refine run_aops hA 5 _ _ _ _ (by cbv) ?_
      refine ops_done ?_
      refine go_cond rfl (fun c3 => ?_) (fun c3 => ?_)
      · skip
        exact absurd (show (A.scmp .neq x_Out x_Out) = true from c3) (by rw [show (A.scmp .neq x_Out x_Out) = false from by subst hA; simp [std]]; decide)
      · skip
        refine go_skip ?_
        refine go_seq ?_
        refine go_seq ?_
        refine go_reg ?_
        refine run_aops hA 5 _ _ _ _ (by cbv) ?_
        refine ops_done ?_
        refine go_cond rfl (fun c4 => ?_) (fun c4 => ?_)
        · skip
          exact absurd (show (A.bnot (A.beq x_Over x_Over)) = true from c4) (by rw [show (A.bnot (A.beq x_Over x_Over)) = false from by subst hA; simp [std]]; decide)
        · skip
          refine go_skip ?_
          refine go_seq ?_
          refine go_seq ?_
          refine go_reg ?_
          refine run_aops hA 4 _ _ _ _ (by cbv) ?_
          have hc6 : Real Tryd.prog 44 [.agg [.int .i64 x_Bring_State, .str x_Bring_From, .sl 1 x_Bring_To_r, .sl 1 x_Bring_Data_r], .agg [.int .i64 x_Bring_State, .str x_Bring_From, .sl 1 x_Bring_To_r, .sl 1 x_Bring_Data_r]] (.bool true) := by subst hx_Bring_To_r hx_Bring_Data_r; exact r_laws_eqBring A hA (⟨x_Bring_State, x_Bring_From, x_Bring_To, x_Bring_Data⟩ : GBring) (fun k h => hk k (by simp only [zsSession, List.mem_append]; simp only [h, true_or, or_true]))
          refine ops_callV rfl rfl (by cbv) (by cbv) hc6 (.inr rfl) (by cbv) ?_
          refine run_aops hA 1 _ _ _ _ (by cbv) ?_
          refine ops_done ?_
          refine go_cond rfl (fun c7 => ?_) (fun c7 => ?_)
          · skip
            exact absurd (show (A.bnot true) = true from c7) (by rw [show (A.bnot true) = false from by subst hA; rfl]; decide)
          · skip
            refine go_skip ?_
            refine go_seq ?_
            refine go_seq ?_
            refine go_reg ?_
            refine run_aops hA 4 _ _ _ _ (by cbv) ?_
            have hc9 : Real Tryd.prog 45 [.agg [.int .i64 x_Fetch_State, .str x_Fetch_User, .sl 3 x_Fetch_Mails_r, .sl 1 x_Fetch_Gone_r], .agg [.int .i64 x_Fetch_State, .str x_Fetch_User, .sl 3 x_Fetch_Mails_r, .sl 1 x_Fetch_Gone_r]] (.bool true) := by subst hx_Fetch_Mails_r hx_Fetch_Gone_r; exact r_laws_eqFetch A hA (⟨x_Fetch_State, x_Fetch_User, x_Fetch_Mails, x_Fetch_Gone⟩ : GFetch) (fun k h => hk k (by simp only [zsSession, List.mem_append]; simp only [h, true_or, or_true]))
            refine ops_callV rfl rfl (by cbv) (by cbv) hc9 (.inr rfl) (by cbv) ?_
            refine run_aops hA 1 _ _ _ _ (by cbv) ?_
            refine ops_done ?_
            refine go_cond rfl (fun c10 => ?_) (fun c10 => ?_)
            · skip
              exact absurd (show (A.bnot true) = true from c10) (by rw [show (A.bnot true) = false from by subst hA; rfl]; decide)
            · skip
              refine go_skip ?_
              refine go_seq ?_
              refine go_seq ?_
              refine go_reg ?_
              refine run_aops hA 4 _ _ _ _ (by cbv) ?_
              have hc12 : Real Tryd.prog 46 [.agg [.int .i64 x_Look_State, .str x_Look_User, .str x_Look_Box, .int .i64 x_Look_Valid, .sl 1 x_Look_Uids_r], .agg [.int .i64 x_Look_State, .str x_Look_User, .str x_Look_Box, .int .i64 x_Look_Valid, .sl 1 x_Look_Uids_r]] (.bool true) := by subst hx_Look_Uids_r; exact r_laws_eqLook A hA (⟨x_Look_State, x_Look_User, x_Look_Box, x_Look_Valid, x_Look_Uids⟩ : GLook) (fun k h => hk k (by simp only [zsSession, List.mem_append]; simp only [h, true_or, or_true]))
              refine ops_callV rfl rfl (by cbv) (by cbv) hc12 (.inr rfl) (by cbv) ?_
              refine run_aops hA 1 _ _ _ _ (by cbv) ?_
              refine ops_done ?_
              refine go_cond rfl (fun c13 => ?_) (fun c13 => ?_)
              · skip
                exact absurd (show (A.bnot true) = true from c13) (by rw [show (A.bnot true) = false from by subst hA; rfl]; decide)
              · skip
                refine go_skip ?_
                refine go_seq ?_
                refine go_reg ?_
                refine run_aops hA 1 _ _ _ _ (by cbv) ?_
                refine ops_done ?_
                refine go_ret ⟨_, by cbv, ?_⟩
                show _ = (PV.bool true)
                rfl

def S14_1 (p0 : List (List PV)) (p1 : Int) : St := { sl := [.sl 17 p0, .sl 17 p0, .bad, .bad, .bad, .int .i64 p1, .bad, .bad, .bad, .bad, .bad, .bad, .bad, .bad, .bad, .bad, .bad, .bad, .bad, .bad, .bad, .bad, .bad, .bad, .bad, .bad, .bad], bl := [] }
theorem r_laws_eqSessionS (A : Alg) (hA : A = std) (xs : List GSession) (hk : ∀ k ∈ zsSessionS xs, (k : Int) ≤ 4611686018427387904) : Real Tryd.prog 14 [.sl 17 (List.map eSession xs), .sl 17 (List.map eSession xs)] (.bool true) := by
  obtain ⟨xs_r, hxs_r⟩ : ∃ r, r = xs.map eSession := ⟨_, rfl⟩
  have lxs_r : A.rlen xs_r = (List.length xs : Int) := rlen_map hA hxs_r
  refine real_args (args' := [.sl 17 xs_r, .sl 17 xs_r]) (by subst hxs_r; rfl) ?_
  have hlen : (List.length xs : Int) ≤ 4611686018427387904 := hk _ (by simp [zsSessionS])
  refine real tyOk Tryd.func14 (by kernel_rfl) (afun_of rfl ?_)
  refine go_seq ?_
  refine go_reg ?_
  refine run_aops hA 1 _ _ _ _ (by cbv) ?_
  refine ops_done ?_
  refine go_seq ?_
  refine go_seq ?_
  refine go_reg ?_
  refine run_aops hA 5 _ _ _ _ (by cbv) ?_
  refine ops_done ?_
  refine go_cond rfl (fun c1 => ?_) (fun c1 => ?_)
  · skip
    exact absurd (show (A.cmp .neq (A.rlen xs_r) (A.rlen xs_r)) = true from c1) (by rw [show (A.cmp .neq (A.rlen xs_r) (A.rlen xs_r)) = false from by subst hA; simp [std]]; decide)
  · skip
    refine go_skip ?_
    refine go_seq ?_
    refine go_seq ?_
    refine go_reg ?_
    refine run_aops hA 1 _ _ _ _ (by cbv) ?_
    refine ops_done ?_
    refine go_block ?_
    refine go_loopE (fun σ m => ∃ (i : Nat) (n5 : Int), σ = (S14_1 xs_r n5) ∧ (n5 = (i : Int) ∧ i ≤ List.length xs) ∧ m = List.length xs - i) _ [] [0, 1, 5] [] (S14_1 xs_r 0) rfl (by cbv) ⟨0, 0, rfl, ?_, rfl⟩ (fun σ m hI => ?_)
    · skip
      exact ⟨rfl, Nat.zero_le _⟩
    obtain ⟨i, n5, rfl, ⟨hn5, hi⟩, rfl⟩ := hI
    refine go_seq ?_
    refine go_seq ?_
    refine go_reg ?_
    refine run_aops hA 4 _ _ _ _ (by cbv) ?_
    refine ops_done ?_
    refine go_cond rfl (fun c2 => ?_) (fun c2 => ?_)
    · skip
      have ec2 : n5 < (A.rlen xs_r) := lss_t hA c2
      refine go_skip ?_
      refine go_seq ?_
      refine go_block ?_
      refine go_seq ?_
      refine go_draw (by cbv) ?_
      refine run_dops hA 2 _ _ _ _ (by cbv) ?_
      have h0x3 : (0 : Int) ≤ n5 := by
        omega
      have hlx3 : (Int.toNat n5) < List.length xs := by
        omega
      obtain ⟨x3, hx3⟩ : ∃ x, (xs)[(Int.toNat n5)]? = some x := ⟨_, List.getElem?_eq_getElem hlx3⟩
      have hmx3 := List.mem_of_getElem? hx3
      obtain ⟨x3_Kind, x3_In, x3_Out, x3_Over, ⟨x3_Bring_State, x3_Bring_From, x3_Bring_To, x3_Bring_Data⟩, ⟨x3_Fetch_State, x3_Fetch_User, x3_Fetch_Mails, x3_Fetch_Gone⟩, ⟨x3_Look_State, x3_Look_User, x3_Look_Box, x3_Look_Valid, x3_Look_Uids⟩⟩ := x3
      obtain ⟨x3_Bring_To_r, hx3_Bring_To_r⟩ : ∃ r, r = x3_Bring_To.map eString := ⟨_, rfl⟩
      have lx3_Bring_To_r : A.rlen x3_Bring_To_r = (List.length x3_Bring_To : Int) := rlen_map hA hx3_Bring_To_r
      obtain ⟨x3_Bring_Data_r, hx3_Bring_Data_r⟩ : ∃ r, r = x3_Bring_Data.map eString := ⟨_, rfl⟩
      have lx3_Bring_Data_r : A.rlen x3_Bring_Data_r = (List.length x3_Bring_Data : Int) := rlen_map hA hx3_Bring_Data_r
      obtain ⟨x3_Fetch_Mails_r, hx3_Fetch_Mails_r⟩ : ∃ r, r = x3_Fetch_Mails.map eMail := ⟨_, rfl⟩
      have lx3_Fetch_Mails_r : A.rlen x3_Fetch_Mails_r = (List.length x3_Fetch_Mails : Int) := rlen_map hA hx3_Fetch_Mails_r
      obtain ⟨x3_Fetch_Gone_r, hx3_Fetch_Gone_r⟩ : ∃ r, r = x3_Fetch_Gone.map eBool := ⟨_, rfl⟩
      have lx3_Fetch_Gone_r : A.rlen x3_Fetch_Gone_r = (List.length x3_Fetch_Gone : Int) := rlen_map hA hx3_Fetch_Gone_r
      obtain ⟨x3_Look_Uids_r, hx3_Look_Uids_r⟩ : ∃ r, r = x3_Look_Uids.map eInt := ⟨_, rfl⟩
      have lx3_Look_Uids_r : A.rlen x3_Look_Uids_r = (List.length x3_Look_Uids : Int) := rlen_map hA hx3_Look_Uids_r
      have hrx3 : xs_r[(Int.toNat n5)]? = some [.int .i64 x3_Kind, .str x3_In, .str x3_Out, .bool x3_Over, .int .i64 x3_Bring_State, .str x3_Bring_From, .sl 1 x3_Bring_To_r, .sl 1 x3_Bring_Data_r, .int .i64 x3_Fetch_State, .str x3_Fetch_User, .sl 3 x3_Fetch_Mails_r, .sl 1 x3_Fetch_Gone_r, .int .i64 x3_Look_State, .str x3_Look_User, .str x3_Look_Box, .int .i64 x3_Look_Valid, .sl 1 x3_Look_Uids_r] := by
        subst hx3_Bring_To_r hx3_Bring_Data_r hx3_Fetch_Mails_r hx3_Fetch_Gone_r hx3_Look_Uids_r; exact map_at eSession hxs_r hx3
      have hkx := fun (k : Nat) h => hk k (List.mem_cons_of_mem _ (List.mem_flatMap.2 ⟨_, hmx3, h⟩))
      refine dops_step rfl rfl rfl (idx_sl rfl rfl rfl rfl rfl h0x3 rfl hrx3) ?_
      refine run_dops hA 3 _ _ _ _ (by cbv) ?_
      refine dops_step rfl rfl rfl (idx_sl rfl rfl rfl rfl rfl h0x3 rfl hrx3) ?_
      refine run_dops hA 1 _ _ _ _ (by cbv) ?_
      have hc5 : Real Tryd.prog 28 [.agg [.int .i64 x3_Kind, .str x3_In, .str x3_Out, .bool x3_Over, .int .i64 x3_Bring_State, .str x3_Bring_From, .sl 1 x3_Bring_To_r, .sl 1 x3_Bring_Data_r, .int .i64 x3_Fetch_State, .str x3_Fetch_User, .sl 3 x3_Fetch_Mails_r, .sl 1 x3_Fetch_Gone_r, .int .i64 x3_Look_State, .str x3_Look_User, .str x3_Look_Box, .int .i64 x3_Look_Valid, .sl 1 x3_Look_Uids_r], .agg [.int .i64 x3_Kind, .str x3_In, .str x3_Out, .bool x3_Over, .int .i64 x3_Bring_State, .str x3_Bring_From, .sl 1 x3_Bring_To_r, .sl 1 x3_Bring_Data_r, .int .i64 x3_Fetch_State, .str x3_Fetch_User, .sl 3 x3_Fetch_Mails_r, .sl 1 x3_Fetch_Gone_r, .int .i64 x3_Look_State, .str x3_Look_User, .str x3_Look_Box, .int .i64 x3_Look_Valid, .sl 1 x3_Look_Uids_r]] (.bool true) := by subst hx3_Bring_To_r hx3_Bring_Data_r hx3_Fetch_Mails_r hx3_Fetch_Gone_r hx3_Look_Uids_r; exact r_laws_eqSession A hA (⟨x3_Kind, x3_In, x3_Out, x3_Over, ⟨x3_Bring_State, x3_Bring_From, x3_Bring_To, x3_Bring_Data⟩, ⟨x3_Fetch_State, x3_Fetch_User, x3_Fetch_Mails, x3_Fetch_Gone⟩, ⟨x3_Look_State, x3_Look_User, x3_Look_Box, x3_Look_Valid, x3_Look_Uids⟩⟩ : GSession) hkx
      refine dops_callV rfl rfl (by cbv) (by cbv) hc5 (.inr rfl) ?_
      refine run_dops hA 1 _ _ _ _ (by cbv) ?_
      refine dops_done ?_
      refine go_cond rfl (fun c6 => ?_) (fun c6 => ?_)
      · skip
        exact absurd (show (A.bnot true) = true from c6) (by rw [show (A.bnot true) = false from by subst hA; rfl]; decide)
      · skip
        refine go_skip ?_
        refine go_reg ?_
        refine run_aops hA 3 _ _ _ _ (by cbv) ?_
        refine ops_done ?_
        refine ⟨(S14_1 xs_r (A.num .add .i64 n5 1)), List.length xs - (i + 1), ?_, by cbv, i + 1, (A.num .add .i64 n5 1), rfl, ?_, rfl⟩
        · skip
          omega
        · skip
          exact ⟨by rw [add_i64 hA (by omega) (by omega)]; omega, by omega⟩
    · skip
      have ec2 : (A.rlen xs_r) ≤ n5 := lss_f hA c2
      refine go_exit ⟨fun _ => ?_, fun h => absurd rfl h⟩
      refine go_seq ?_
      refine go_reg ?_
      refine run_aops hA 1 _ _ _ _ (by cbv) ?_
      refine ops_done ?_
      refine go_ret ⟨_, by cbv, ?_⟩
      show _ = (PV.bool true)
      rfl
end Go.Av
