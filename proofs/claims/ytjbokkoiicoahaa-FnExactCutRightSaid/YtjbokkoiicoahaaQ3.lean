/- Walks: eq of cuts. -/
import Derived.Test.YtjbokkoiicoahaaTy
namespace Go.Av
open Go Go.Proofs
set_option maxRecDepth 100000
set_option maxHeartbeats 4000000
set_option linter.unusedVariables false
set_option linter.unusedSimpArgs false
theorem r_laws_eqMail (A : Alg) (hA : A = std) (x : GMail) (hk : ∀ k ∈ zsMail x, (k : Int) ≤ 4611686018427387904) : Real Try.prog 145 [.agg (eMail x), .agg (eMail x)] (.bool true) := by
  obtain ⟨x_Uid, x_Flags, x_Text⟩ := x
  refine real_args (args' := [.agg [.int .i64 x_Uid, .int .i64 x_Flags, .str x_Text], .agg [.int .i64 x_Uid, .int .i64 x_Flags, .str x_Text]]) (by rfl) ?_
  refine real tyOk Try.func145 (by kernel_rfl) (afun_of rfl ?_)
  refine go_seq ?_
  refine go_reg ?_
  refine run_aops hA 3 _ _ _ _ (by cbv) ?_
  refine ops_done ?_
  refine go_seq ?_
  refine go_seq ?_
  refine go_reg ?_
  refine run_aops hA 5 _ _ _ _ (by cbv) ?_
  refine ops_done ?_
  refine go_cond rfl (fun c1 => ?_) (fun c1 => ?_)
  · skip
    exact absurd (show (A.cmp .neq x_Uid x_Uid) = true from c1) (by rw [show (A.cmp .neq x_Uid x_Uid) = false from by subst hA; simp [std]]; decide)
  · skip
    refine go_skip ?_
    refine go_seq ?_
    refine go_seq ?_
    refine go_reg ?_
    refine run_aops hA 5 _ _ _ _ (by cbv) ?_
    refine ops_done ?_
    refine go_cond rfl (fun c2 => ?_) (fun c2 => ?_)
    · skip
      exact absurd (show (A.cmp .neq x_Flags x_Flags) = true from c2) (by rw [show (A.cmp .neq x_Flags x_Flags) = false from by subst hA; simp [std]]; decide)
    · skip
      refine go_skip ?_
      refine go_seq ?_
      refine go_seq ?_
      refine go_reg ?_
      refine run_aops hA 5 _ _ _ _ (by cbv) ?_
      refine ops_done ?_
      refine go_cond rfl (fun c3 => ?_) (fun c3 => ?_)
      · skip
        exact absurd (show (A.scmp .neq x_Text x_Text) = true from c3) (by rw [show (A.scmp .neq x_Text x_Text) = false from by subst hA; simp [std]]; decide)
      · skip
        refine go_skip ?_
        refine go_seq ?_
        refine go_reg ?_
        refine run_aops hA 1 _ _ _ _ (by cbv) ?_
        refine ops_done ?_
        refine go_ret ⟨_, by cbv, ?_⟩
        show _ = (PV.bool true)
        rfl

def S128_1 (p0 : List (List PV)) (p1 : Int) : St := { sl := [.sl 3 p0, .sl 3 p0, .bad, .bad, .bad, .int .i64 p1, .bad, .bad, .bad, .bad, .bad, .bad, .bad, .bad, .bad, .bad, .bad, .bad, .bad, .bad, .bad, .bad, .bad, .bad, .bad, .bad, .bad], bl := [] }
theorem r_laws_eqMailS (A : Alg) (hA : A = std) (xs : List GMail) (hk : ∀ k ∈ zsMailS xs, (k : Int) ≤ 4611686018427387904) : Real Try.prog 128 [.sl 3 (List.map eMail xs), .sl 3 (List.map eMail xs)] (.bool true) := by
  obtain ⟨xs_r, hxs_r⟩ : ∃ r, r = xs.map eMail := ⟨_, rfl⟩
  have lxs_r : A.rlen xs_r = (List.length xs : Int) := rlen_map hA hxs_r
  refine real_args (args' := [.sl 3 xs_r, .sl 3 xs_r]) (by subst hxs_r; rfl) ?_
  have hlen : (List.length xs : Int) ≤ 4611686018427387904 := hk _ (by simp [zsMailS])
  refine real tyOk Try.func128 (by kernel_rfl) (afun_of rfl ?_)
  refine go_seq ?_
  refine go_reg ?_
  refine run_aops hA 1 _ _ _ _ (by cbv) ?_
  refine ops_done ?_
  refine go_seq ?_
  refine go_seq ?_
  refine go_reg ?_
  refine run_aops hA 5 _ _ _ _ (by cbv) ?_
  refine ops_done ?_
  refine go_cond rfl (fun c1 => ?_) (fun c1 => ?_)
  · skip
    exact absurd (show (A.cmp .neq (A.rlen xs_r) (A.rlen xs_r)) = true from c1) (by rw [show (A.cmp .neq (A.rlen xs_r) (A.rlen xs_r)) = false from by subst hA; simp [std]]; decide)
  · skip
    refine go_skip ?_
    refine go_seq ?_
    refine go_seq ?_
    refine go_reg ?_
    refine run_aops hA 1 _ _ _ _ (by cbv) ?_
    refine ops_done ?_
    refine go_block ?_
    refine go_loopE (fun σ m => ∃ (i : Nat) (n5 : Int), σ = (S128_1 xs_r n5) ∧ (n5 = (i : Int) ∧ i ≤ List.length xs) ∧ m = List.length xs - i) _ [] [0, 1, 5] [] (S128_1 xs_r 0) rfl (by cbv) ⟨0, 0, rfl, ?_, rfl⟩ (fun σ m hI => ?_)
    · skip
      exact ⟨rfl, Nat.zero_le _⟩
    obtain ⟨i, n5, rfl, ⟨hn5, hi⟩, rfl⟩ := hI
    refine go_seq ?_
    refine go_seq ?_
    refine go_reg ?_
    refine run_aops hA 4 _ _ _ _ (by cbv) ?_
    refine ops_done ?_
    refine go_cond rfl (fun c2 => ?_) (fun c2 => ?_)
    · skip
      have ec2 : n5 < (A.rlen xs_r) := lss_t hA c2
      refine go_skip ?_
      refine go_seq ?_
      refine go_block ?_
      refine go_seq ?_
      refine go_draw (by cbv) ?_
      refine run_dops hA 2 _ _ _ _ (by cbv) ?_
      have h0x3 : (0 : Int) ≤ n5 := by
        omega
      have hlx3 : (Int.toNat n5) < List.length xs := by
        omega
      obtain ⟨x3, hx3⟩ : ∃ x, (xs)[(Int.toNat n5)]? = some x := ⟨_, List.getElem?_eq_getElem hlx3⟩
      have hmx3 := List.mem_of_getElem? hx3
      obtain ⟨x3_Uid, x3_Flags, x3_Text⟩ := x3
      have hrx3 : xs_r[(Int.toNat n5)]? = some [.int .i64 x3_Uid, .int .i64 x3_Flags, .str x3_Text] := by
        exact map_at eMail hxs_r hx3
      have hkx := fun (k : Nat) h => hk k (List.mem_cons_of_mem _ (List.mem_flatMap.2 ⟨_, hmx3, h⟩))
      refine dops_step rfl rfl rfl (idx_sl rfl rfl rfl rfl rfl h0x3 rfl hrx3) ?_
      refine run_dops hA 3 _ _ _ _ (by cbv) ?_
      refine dops_step rfl rfl rfl (idx_sl rfl rfl rfl rfl rfl h0x3 rfl hrx3) ?_
      refine run_dops hA 1 _ _ _ _ (by cbv) ?_
      have hc5 : Real Try.prog 145 [.agg [.int .i64 x3_Uid, .int .i64 x3_Flags, .str x3_Text], .agg [.int .i64 x3_Uid, .int .i64 x3_Flags, .str x3_Text]] (.bool true) := by exact r_laws_eqMail A hA (⟨x3_Uid, x3_Flags, x3_Text⟩ : GMail) hkx
      refine dops_callV rfl rfl (by cbv) (by cbv) hc5 (.inr rfl) ?_
      refine run_dops hA 1 _ _ _ _ (by cbv) ?_
      refine dops_done ?_
      refine go_cond rfl (fun c6 => ?_) (fun c6 => ?_)
      · skip
        exact absurd (show (A.bnot true) = true from c6) (by rw [show (A.bnot true) = false from by subst hA; rfl]; decide)
      · skip
        refine go_skip ?_
        refine go_reg ?_
        refine run_aops hA 3 _ _ _ _ (by cbv) ?_
        refine ops_done ?_
        refine ⟨(S128_1 xs_r (A.num .add .i64 n5 1)), List.length xs - (i + 1), ?_, by cbv, i + 1, (A.num .add .i64 n5 1), rfl, ?_, rfl⟩
        · skip
          omega
        · skip
          exact ⟨by rw [add_i64 hA (by omega) (by omega)]; omega, by omega⟩
    · skip
      have ec2 : (A.rlen xs_r) ≤ n5 := lss_f hA c2
      refine go_exit ⟨fun _ => ?_, fun h => absurd rfl h⟩
      refine go_seq ?_
      refine go_reg ?_
      refine run_aops hA 1 _ _ _ _ (by cbv) ?_
      refine ops_done ?_
      refine go_ret ⟨_, by cbv, ?_⟩
      show _ = (PV.bool true)
      rfl

theorem r_laws_eqBox (A : Alg) (hA : A = std) (x : GBox) (hk : ∀ k ∈ zsBox x, (k : Int) ≤ 4611686018427387904) : Real Try.prog 123 [.agg (eBox x), .agg (eBox x)] (.bool true) := by
  obtain ⟨x_Valid, x_User, x_Name, x_Next, x_Mails⟩ := x
  obtain ⟨x_Mails_r, hx_Mails_r⟩ : ∃ r, r = x_Mails.map eMail := ⟨_, rfl⟩
  have lx_Mails_r : A.rlen x_Mails_r = (List.length x_Mails : Int) := rlen_map hA hx_Mails_r
  refine real_args (args' := [.agg [.int .i64 x_Valid, .str x_User, .str x_Name, .int .i64 x_Next, .sl 3 x_Mails_r], .agg [.int .i64 x_Valid, .str x_User, .str x_Name, .int .i64 x_Next, .sl 3 x_Mails_r]]) (by subst hx_Mails_r; rfl) ?_
  refine real tyOk Try.func123 (by kernel_rfl) (afun_of rfl ?_)
  refine go_seq ?_
  refine go_reg ?_
  refine run_aops hA 3 _ _ _ _ (by cbv) ?_
  refine ops_done ?_
  refine go_seq ?_
  refine go_seq ?_
  refine go_reg ?_
  refine run_aops hA 5 _ _ _ _ (by cbv) ?_
  refine ops_done ?_
  refine go_cond rfl (fun c1 => ?_) (fun c1 => ?_)
  · skip
    exact absurd (show (A.cmp .neq x_Valid x_Valid) = true from c1) (by rw [show (A.cmp .neq x_Valid x_Valid) = false from by subst hA; simp [std]]; decide)
  · skip
    refine go_skip ?_
    refine go_seq ?_
    refine go_seq ?_
    refine go_reg ?_
    refine run_aops hA 5 _ _ _ _ (by cbv) ?_
    refine ops_done ?_
    refine go_cond rfl (fun c2 => ?_) (fun c2 => ?_)
    · skip
      exact absurd (show (A.scmp .neq x_User x_User) = true from c2) (by rw [show (A.scmp .neq x_User x_User) = false from by subst hA; simp [std]]; decide)
    · skip
      refine go_skip ?_
      refine go_seq ?_
      refine go_seq ?_
      refine go_reg ?_
      refine run_aops hA 5 _ _ _ _ (by cbv) ?_
      refine ops_done ?_
      refine go_cond rfl (fun c3 => ?_) (fun c3 => ?_)
      · skip
        exact absurd (show (A.scmp .neq x_Name x_Name) = true from c3) (by rw [show (A.scmp .neq x_Name x_Name) = false from by subst hA; simp [std]]; decide)
      · skip
        refine go_skip ?_
        refine go_seq ?_
        refine go_seq ?_
        refine go_reg ?_
        refine run_aops hA 5 _ _ _ _ (by cbv) ?_
        refine ops_done ?_
        refine go_cond rfl (fun c4 => ?_) (fun c4 => ?_)
        · skip
          exact absurd (show (A.cmp .neq x_Next x_Next) = true from c4) (by rw [show (A.cmp .neq x_Next x_Next) = false from by subst hA; simp [std]]; decide)
        · skip
          refine go_skip ?_
          refine go_seq ?_
          refine go_seq ?_
          refine go_reg ?_
          refine run_aops hA 4 _ _ _ _ (by cbv) ?_
          have hc6 : Real Try.prog 128 [.sl 3 x_Mails_r, .sl 3 x_Mails_r] (.bool true) := by subst hx_Mails_r; exact r_laws_eqMailS A hA x_Mails (fun k h => hk k (by simp only [zsBox, List.mem_append]; simp only [h, true_or, or_true]))
          refine ops_callV rfl rfl (by cbv) (by cbv) hc6 (.inr rfl) (by cbv) ?_
          refine run_aops hA 1 _ _ _ _ (by cbv) ?_
          refine ops_done ?_
          refine go_cond rfl (fun c7 => ?_) (fun c7 => ?_)
          · skip
            exact absurd (show (A.bnot true) = true from c7) (by rw [show (A.bnot true) = false from by subst hA; rfl]; decide)
          · skip
            refine go_skip ?_
            refine go_seq ?_
            refine go_reg ?_
            refine run_aops hA 1 _ _ _ _ (by cbv) ?_
            refine ops_done ?_
            refine go_ret ⟨_, by cbv, ?_⟩
            show _ = (PV.bool true)
            rfl

def S84_1 (p0 : List (List PV)) (p1 : Int) : St := { sl := [.sl 5 p0, .sl 5 p0, .bad, .bad, .bad, .int .i64 p1, .bad, .bad, .bad, .bad, .bad, .bad, .bad, .bad, .bad, .bad, .bad, .bad, .bad, .bad, .bad, .bad, .bad, .bad, .bad, .bad, .bad], bl := [] }
theorem r_laws_eqBoxS (A : Alg) (hA : A = std) (xs : List GBox) (hk : ∀ k ∈ zsBoxS xs, (k : Int) ≤ 4611686018427387904) : Real Try.prog 84 [.sl 5 (List.map eBox xs), .sl 5 (List.map eBox xs)] (.bool true) := by
  obtain ⟨xs_r, hxs_r⟩ : ∃ r, r = xs.map eBox := ⟨_, rfl⟩
  have lxs_r : A.rlen xs_r = (List.length xs : Int) := rlen_map hA hxs_r
  refine real_args (args' := [.sl 5 xs_r, .sl 5 xs_r]) (by subst hxs_r; rfl) ?_
  have hlen : (List.length xs : Int) ≤ 4611686018427387904 := hk _ (by simp [zsBoxS])
  refine real tyOk Try.func84 (by kernel_rfl) (afun_of rfl ?_)
  refine go_seq ?_
  refine go_reg ?_
  refine run_aops hA 1 _ _ _ _ (by cbv) ?_
  refine ops_done ?_
  refine go_seq ?_
  refine go_seq ?_
  refine go_reg ?_
  refine run_aops hA 5 _ _ _ _ (by cbv) ?_
  refine ops_done ?_
  refine go_cond rfl (fun c1 => ?_) (fun c1 => ?_)
  · skip
    exact absurd (show (A.cmp .neq (A.rlen xs_r) (A.rlen xs_r)) = true from c1) (by rw [show (A.cmp .neq (A.rlen xs_r) (A.rlen xs_r)) = false from by subst hA; simp [std]]; decide)
  · skip
    refine go_skip ?_
    refine go_seq ?_
    refine go_seq ?_
    refine go_reg ?_
    refine run_aops hA 1 _ _ _ _ (by cbv) ?_
    refine ops_done ?_
    refine go_block ?_
    refine go_loopE (fun σ m => ∃ (i : Nat) (n5 : Int), σ = (S84_1 xs_r n5) ∧ (n5 = (i : Int) ∧ i ≤ List.length xs) ∧ m = List.length xs - i) _ [] [0, 1, 5] [] (S84_1 xs_r 0) rfl (by cbv) ⟨0, 0, rfl, ?_, rfl⟩ (fun σ m hI => ?_)
    · skip
      exact ⟨rfl, Nat.zero_le _⟩
    obtain ⟨i, n5, rfl, ⟨hn5, hi⟩, rfl⟩ := hI
    refine go_seq ?_
    refine go_seq ?_
    refine go_reg ?_
    refine run_aops hA 4 _ _ _ _ (by cbv) ?_
    refine ops_done ?_
    refine go_cond rfl (fun c2 => ?_) (fun c2 => ?_)
    · skip
      have ec2 : n5 < (A.rlen xs_r) := lss_t hA c2
      refine go_skip ?_
      refine go_seq ?_
      refine go_block ?_
      refine go_seq ?_
      refine go_draw (by cbv) ?_
      refine run_dops hA 2 _ _ _ _ (by cbv) ?_
      have h0x3 : (0 : Int) ≤ n5 := by
        omega
      have hlx3 : (Int.toNat n5) < List.length xs := by
        omega
      obtain ⟨x3, hx3⟩ : ∃ x, (xs)[(Int.toNat n5)]? = some x := ⟨_, List.getElem?_eq_getElem hlx3⟩
      have hmx3 := List.mem_of_getElem? hx3
      obtain ⟨x3_Valid, x3_User, x3_Name, x3_Next, x3_Mails⟩ := x3
      obtain ⟨x3_Mails_r, hx3_Mails_r⟩ : ∃ r, r = x3_Mails.map eMail := ⟨_, rfl⟩
      have lx3_Mails_r : A.rlen x3_Mails_r = (List.length x3_Mails : Int) := rlen_map hA hx3_Mails_r
      have hrx3 : xs_r[(Int.toNat n5)]? = some [.int .i64 x3_Valid, .str x3_User, .str x3_Name, .int .i64 x3_Next, .sl 3 x3_Mails_r] := by
        subst hx3_Mails_r; exact map_at eBox hxs_r hx3
      have hkx := fun (k : Nat) h => hk k (List.mem_cons_of_mem _ (List.mem_flatMap.2 ⟨_, hmx3, h⟩))
      refine dops_step rfl rfl rfl (idx_sl rfl rfl rfl rfl rfl h0x3 rfl hrx3) ?_
      refine run_dops hA 3 _ _ _ _ (by cbv) ?_
      refine dops_step rfl rfl rfl (idx_sl rfl rfl rfl rfl rfl h0x3 rfl hrx3) ?_
      refine run_dops hA 1 _ _ _ _ (by cbv) ?_
      have hc5 : Real Try.prog 123 [.agg [.int .i64 x3_Valid, .str x3_User, .str x3_Name, .int .i64 x3_Next, .sl 3 x3_Mails_r], .agg [.int .i64 x3_Valid, .str x3_User, .str x3_Name, .int .i64 x3_Next, .sl 3 x3_Mails_r]] (.bool true) := by subst hx3_Mails_r; exact r_laws_eqBox A hA (⟨x3_Valid, x3_User, x3_Name, x3_Next, x3_Mails⟩ : GBox) hkx
      refine dops_callV rfl rfl (by cbv) (by cbv) hc5 (.inr rfl) ?_
      refine run_dops hA 1 _ _ _ _ (by cbv) ?_
      refine dops_done ?_
      refine go_cond rfl (fun c6 => ?_) (fun c6 => ?_)
      · skip
        exact absurd (show (A.bnot true) = true from c6) (by rw [show (A.bnot true) = false from by subst hA; rfl]; decide)
      · skip
        refine go_skip ?_
        refine go_reg ?_
        refine run_aops hA 3 _ _ _ _ (by cbv) ?_
        refine ops_done ?_
        refine ⟨(S84_1 xs_r (A.num .add .i64 n5 1)), List.length xs - (i + 1), ?_, by cbv, i + 1, (A.num .add .i64 n5 1), rfl, ?_, rfl⟩
        · skip
          omega
        · skip
          exact ⟨by rw [add_i64 hA (by omega) (by omega)]; omega, by omega⟩
    · skip
      have ec2 : (A.rlen xs_r) ≤ n5 := lss_f hA c2
      refine go_exit ⟨fun _ => ?_, fun h => absurd rfl h⟩
      refine go_seq ?_
      refine go_reg ?_
      refine run_aops hA 1 _ _ _ _ (by cbv) ?_
      refine ops_done ?_
      refine go_ret ⟨_, by cbv, ?_⟩
      show _ = (PV.bool true)
      rfl

theorem r_laws_eqState (A : Alg) (hA : A = std) (x : GState) (hk : ∀ k ∈ zsState x, (k : Int) ≤ 4611686018427387904) : Real Try.prog 51 [.agg (eState x), .agg (eState x)] (.bool true) := by
  obtain ⟨x_Boxes⟩ := x
  obtain ⟨x_Boxes_r, hx_Boxes_r⟩ : ∃ r, r = x_Boxes.map eBox := ⟨_, rfl⟩
  have lx_Boxes_r : A.rlen x_Boxes_r = (List.length x_Boxes : Int) := rlen_map hA hx_Boxes_r
  refine real_args (args' := [.agg [.sl 5 x_Boxes_r], .agg [.sl 5 x_Boxes_r]]) (by subst hx_Boxes_r; rfl) ?_
  refine real tyOk Try.func51 (by kernel_rfl) (afun_of rfl ?_)
  refine go_seq ?_
  refine go_reg ?_
  refine run_aops hA 3 _ _ _ _ (by cbv) ?_
  refine ops_done ?_
  refine go_seq ?_
  refine go_seq ?_
  refine go_reg ?_
  refine run_aops hA 4 _ _ _ _ (by cbv) ?_
  have hc2 : Real Try.prog 84 [.sl 5 x_Boxes_r, .sl 5 x_Boxes_r] (.bool true) := by subst hx_Boxes_r; exact r_laws_eqBoxS A hA x_Boxes (fun k h => hk k (by simp only [zsState, List.mem_append]; simp only [h, true_or, or_true]))
  refine ops_callV rfl rfl (by cbv) (by cbv) hc2 (.inr rfl) (by cbv) ?_
  refine run_aops hA 1 _ _ _ _ (by cbv) ?_
  refine ops_done ?_
  refine go_cond rfl (fun c3 => ?_) (fun c3 => ?_)
  · skip
    exact absurd (show (A.bnot true) = true from c3) (by rw [show (A.bnot true) = false from by subst hA; rfl]; decide)
  · skip
    refine go_skip ?_
    refine go_seq ?_
    refine go_reg ?_
    refine run_aops hA 1 _ _ _ _ (by cbv) ?_
    refine ops_done ?_
    refine go_ret ⟨_, by cbv, ?_⟩
    show _ = (PV.bool true)
    rfl

theorem r_laws_eqCut (A : Alg) (hA : A = std) (x : GCut) (hk : ∀ k ∈ zsCut x, (k : Int) ≤ 4611686018427387904) : Real Try.prog 19 [.agg (eCut x), .agg (eCut x)] (.bool true) := by
  obtain ⟨⟨x_Before_Boxes⟩, ⟨x_After_Boxes⟩, ⟨x_Risen_Boxes⟩, x_Ok, x_Clash⟩ := x
  obtain ⟨x_Before_Boxes_r, hx_Before_Boxes_r⟩ : ∃ r, r = x_Before_Boxes.map eBox := ⟨_, rfl⟩
  have lx_Before_Boxes_r : A.rlen x_Before_Boxes_r = (List.length x_Before_Boxes : Int) := rlen_map hA hx_Before_Boxes_r
  obtain ⟨x_After_Boxes_r, hx_After_Boxes_r⟩ : ∃ r, r = x_After_Boxes.map eBox := ⟨_, rfl⟩
  have lx_After_Boxes_r : A.rlen x_After_Boxes_r = (List.length x_After_Boxes : Int) := rlen_map hA hx_After_Boxes_r
  obtain ⟨x_Risen_Boxes_r, hx_Risen_Boxes_r⟩ : ∃ r, r = x_Risen_Boxes.map eBox := ⟨_, rfl⟩
  have lx_Risen_Boxes_r : A.rlen x_Risen_Boxes_r = (List.length x_Risen_Boxes : Int) := rlen_map hA hx_Risen_Boxes_r
  refine real_args (args' := [.agg [.sl 5 x_Before_Boxes_r, .sl 5 x_After_Boxes_r, .sl 5 x_Risen_Boxes_r, .bool x_Ok, .bool x_Clash], .agg [.sl 5 x_Before_Boxes_r, .sl 5 x_After_Boxes_r, .sl 5 x_Risen_Boxes_r, .bool x_Ok, .bool x_Clash]]) (by subst hx_Before_Boxes_r hx_After_Boxes_r hx_Risen_Boxes_r; rfl) ?_
  refine real tyOk Try.func19 (by kernel_rfl) (afun_of rfl ?_)
  refine go_seq ?_
  refine go_reg ?_
  refine run_aops hA 3 _ _ _ _ (by cbv) ?_
  refine ops_done ?_
  refine go_seq ?_
  refine go_seq ?_
  refine go_reg ?_
  refine run_aops hA 4 _ _ _ _ (by cbv) ?_
  have hc2 : Real Try.prog 51 [.agg [.sl 5 x_Before_Boxes_r], .agg [.sl 5 x_Before_Boxes_r]] (.bool true) := by subst hx_Before_Boxes_r; exact r_laws_eqState A hA (⟨x_Before_Boxes⟩ : GState) (fun k h => hk k (by simp only [zsCut, List.mem_append]; simp only [h, true_or, or_true]))
  refine ops_callV rfl rfl (by cbv) (by cbv) hc2 (.inr rfl) (by cbv) ?_
  refine run_aops hA 1 _ _ _ _ (by cbv) ?_
  refine ops_done ?_
  refine go_cond rfl (fun c3 => ?_) (fun c3 => ?_)
  · skip
    exact absurd (show (A.bnot true) = true from c3) (by rw [show (A.bnot true) = false from by subst hA; rfl]; decide)
  · skip
    refine go_skip ?_
    refine go_seq ?_
    refine go_seq ?_
    refine go_reg ?_
    refine run_aops hA 4 _ _ _ _ (by cbv) ?_
    have hc5 : Real Try.prog 51 [.agg [.sl 5 x_After_Boxes_r], .agg [.sl 5 x_After_Boxes_r]] (.bool true) := by subst hx_After_Boxes_r; exact r_laws_eqState A hA (⟨x_After_Boxes⟩ : GState) (fun k h => hk k (by simp only [zsCut, List.mem_append]; simp only [h, true_or, or_true]))
    refine ops_callV rfl rfl (by cbv) (by cbv) hc5 (.inr rfl) (by cbv) ?_
    refine run_aops hA 1 _ _ _ _ (by cbv) ?_
    refine ops_done ?_
    refine go_cond rfl (fun c6 => ?_) (fun c6 => ?_)
    · skip
      exact absurd (show (A.bnot true) = true from c6) (by rw [show (A.bnot true) = false from by subst hA; rfl]; decide)
    · skip
      refine go_skip ?_
      refine go_seq ?_
      refine go_seq ?_
      refine go_reg ?_
      refine run_aops hA 4 _ _ _ _ (by cbv) ?_
      have hc8 : Real Try.prog 51 [.agg [.sl 5 x_Risen_Boxes_r], .agg [.sl 5 x_Risen_Boxes_r]] (.bool true) := by subst hx_Risen_Boxes_r; exact r_laws_eqState A hA (⟨x_Risen_Boxes⟩ : GState) (fun k h => hk k (by simp only [zsCut, List.mem_append]; simp only [h, true_or, or_true]))
      refine ops_callV rfl rfl (by cbv) (by cbv) hc8 (.inr rfl) (by cbv) ?_
      refine run_aops hA 1 _ _ _ _ (by cbv) ?_
      refine ops_done ?_
      refine go_cond rfl (fun c9 => ?_) (fun c9 => ?_)
      · skip
        exact absurd (show (A.bnot true) = true from c9) (by rw [show (A.bnot true) = false from by subst hA; rfl]; decide)
      · skip
        refine go_skip ?_
        refine go_seq ?_
        refine go_seq ?_
        refine go_reg ?_
        refine run_aops hA 5 _ _ _ _ (by cbv) ?_
        refine ops_done ?_
        refine go_cond rfl (fun c10 => ?_) (fun c10 => ?_)
        · skip
          exact absurd (show (A.bnot (A.beq x_Ok x_Ok)) = true from c10) (by rw [show (A.bnot (A.beq x_Ok x_Ok)) = false from by subst hA; simp [std]]; decide)
        · skip
          refine go_skip ?_
          refine go_seq ?_
          refine go_seq ?_
          refine go_reg ?_
          refine run_aops hA 5 _ _ _ _ (by cbv) ?_
          refine ops_done ?_
          refine go_cond rfl (fun c11 => ?_) (fun c11 => ?_)
          · skip
            exact absurd (show (A.bnot (A.beq x_Clash x_Clash)) = true from c11) (by rw [show (A.bnot (A.beq x_Clash x_Clash)) = false from by subst hA; simp [std]]; decide)
          · skip
            refine go_skip ?_
            refine go_seq ?_
            refine go_reg ?_
            refine run_aops hA 1 _ _ _ _ (by cbv) ?_
            refine ops_done ?_
            refine go_ret ⟨_, by cbv, ?_⟩
            show _ = (PV.bool true)
            rfl
end Go.Av
