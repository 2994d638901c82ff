/- Walks: the law of ShowBox. -/
import Derived.Test.YtjbokkoiicoahaaDoorG4
import Derived.Test.YtjbokkoiicoahaaDoorV1
import Derived.Test.YtjbokkoiicoahaaDoorV2
import Derived.Test.YtjbokkoiicoahaaDoorV3
namespace Go.Av
open Go Go.Proofs
set_option maxRecDepth 100000
set_option maxHeartbeats 4000000
set_option linter.unusedVariables false
set_option linter.unusedSimpArgs false
theorem r_laws_FnExactShowBox (A : Alg) (hA : A = std) (aB : GBox) (haB : ∀ k ∈ zsBox aB, (k : Int) ≤ 9223372036854775807) (hr : rgBox aB) : Real Tryd.prog 3 [.agg (eBox aB)] (.bool true) := by
  obtain ⟨aB_Valid, aB_User, aB_Name, aB_Next, aB_Mails⟩ := aB
  obtain ⟨aB_Mails_r, haB_Mails_r⟩ : ∃ r, r = aB_Mails.map eMail := ⟨_, rfl⟩
  have laB_Mails_r : A.rlen aB_Mails_r = (List.length aB_Mails : Int) := rlen_map hA haB_Mails_r
  refine real_args (args' := [.agg [.int .i64 aB_Valid, .str aB_User, .str aB_Name, .int .i64 aB_Next, .sl 3 aB_Mails_r]]) (by subst haB_Mails_r; rfl) ?_
  refine real tyOk Tryd.func3 (by kernel_rfl) (afun_of rfl ?_)
  refine go_seq ?_
  refine go_reg ?_
  refine run_aops hA 2 _ _ _ _ (by cbv) ?_
  refine ops_done ?_
  refine go_seq ?_
  refine go_reg ?_
  refine run_aops hA 1 _ _ _ _ (by cbv) ?_
  refine ops_done ?_
  refine go_seq ?_
  refine go_reg ?_
  refine run_aops hA 2 _ _ _ _ (by cbv) ?_
  obtain ⟨v9_1, hv9_1, hc2⟩ : ∃ (v9_1 : Int), v9_1 = (chain 1048576 (zsBox (⟨aB_Valid, aB_User, aB_Name, aB_Next, aB_Mails⟩ : GBox))) ∧ Real Tryd.prog 5 [.agg [.int .i64 aB_Valid, .str aB_User, .str aB_Name, .int .i64 aB_Next, .sl 3 aB_Mails_r], .int .i64 1048576] (.int .i64 v9_1) := ⟨_, rfl, by subst haB_Mails_r; exact r_laws_szBox A hA (⟨aB_Valid, aB_User, aB_Name, aB_Next, aB_Mails⟩ : GBox) 1048576 (by omega) (by omega) haB⟩
  refine ops_callV rfl rfl (by cbv) (by cbv) hc2 (.inr rfl) (by cbv) ?_
  have bv9_1 := chain_bd hv9_1 (by omega)
  refine run_aops hA 1 _ _ _ _ (by cbv) ?_
  refine ops_done ?_
  refine go_seq ?_
  refine go_seq ?_
  refine go_reg ?_
  refine run_aops hA 2 _ _ _ _ (by cbv) ?_
  refine ops_done ?_
  refine go_cond rfl (fun c3 => ?_) (fun c3 => ?_)
  · skip
    have ec3 : v9_1 < 0 := lss_t hA c3
    refine go_seq ?_
    refine go_reg ?_
    refine run_aops hA 1 _ _ _ _ (by cbv) ?_
    refine ops_done ?_
    refine go_ret ⟨_, by cbv, ?_⟩
    show _ = (PV.bool true)
    rfl
  · skip
    have ec3 : 0 ≤ v9_1 := lss_f hA c3
    refine go_skip ?_
    refine go_seq ?_
    have jaB : ∀ k ∈ zsBox (⟨aB_Valid, aB_User, aB_Name, aB_Next, aB_Mails⟩ : GBox), k ≤ 1048576 := fun k hk => by
      have := chain_all _ _ (show 0 ≤ chain _ _ from hv9_1 ▸ (by omega : (0 : Int) ≤ v9_1)) k hk
      omega
    have iaB : ∀ k ∈ zsBox (⟨aB_Valid, aB_User, aB_Name, aB_Next, aB_Mails⟩ : GBox), (k : Int) ≤ 4611686018427387904 := fun k hk => by have := jaB k hk; omega
    refine go_reg ?_
    refine run_aops hA 1 _ _ _ _ (by cbv) ?_
    obtain ⟨v13_4_Mails, hv13_4_Mails, hc5⟩ : ∃ (v13_4_Mails : List (List PV)), v13_4_Mails = List.map eoMail aB_Mails ∧ Real Tryd.prog 7 [.agg [.int .i64 aB_Valid, .str aB_User, .str aB_Name, .int .i64 aB_Next, .sl 3 aB_Mails_r]] (.agg [.int .i64 aB_Valid, .str aB_User, .str aB_Name, .int .i64 aB_Next, .ow 3 v13_4_Mails]) := ⟨_, rfl, by subst haB_Mails_r; exact r_laws_toBox A hA (⟨aB_Valid, aB_User, aB_Name, aB_Next, aB_Mails⟩ : GBox) jaB⟩
    have lv13_4_Mails : A.rlen v13_4_Mails = (List.length aB_Mails : Int) := rlen_map hA hv13_4_Mails
    refine ops_callV rfl rfl (by cbv) (by cbv) hc5 (.inr rfl) (by cbv) ?_
    obtain ⟨v14_6, hv14_6, hc7⟩ : ∃ (v14_6 : ByteArray), v14_6 = (boxT (⟨aB_Valid, aB_User, aB_Name, aB_Next, aB_Mails⟩ : GBox)) ∧ Real Tryd.prog 6 [.agg [.int .i64 aB_Valid, .str aB_User, .str aB_Name, .int .i64 aB_Next, .sl 3 (eraseR v13_4_Mails)]] (.str v14_6) := ⟨_, rfl, by subst hv13_4_Mails; simp only [erR_Mail]; exact r_spec_ShowBox A hA (⟨aB_Valid, aB_User, aB_Name, aB_Next, aB_Mails⟩ : GBox) (by assumption) (by assumption)⟩
    refine ops_callV rfl rfl (by cbv) (by cbv) hc7 (.inl trivial) (by cbv) ?_
    refine run_aops hA 1 _ _ _ _ (by cbv) ?_
    refine ops_done ?_
    refine go_seq ?_
    refine go_reg ?_
    refine run_aops hA 1 _ _ _ _ (by cbv) ?_
    obtain ⟨v16_8_Mails, hv16_8_Mails, hc9⟩ : ∃ (v16_8_Mails : List (List PV)), v16_8_Mails = List.map eoMail aB_Mails ∧ Real Tryd.prog 7 [.agg [.int .i64 aB_Valid, .str aB_User, .str aB_Name, .int .i64 aB_Next, .sl 3 aB_Mails_r]] (.agg [.int .i64 aB_Valid, .str aB_User, .str aB_Name, .int .i64 aB_Next, .ow 3 v16_8_Mails]) := ⟨_, rfl, by subst haB_Mails_r; exact r_laws_toBox A hA (⟨aB_Valid, aB_User, aB_Name, aB_Next, aB_Mails⟩ : GBox) jaB⟩
    have lv16_8_Mails : A.rlen v16_8_Mails = (List.length aB_Mails : Int) := rlen_map hA hv16_8_Mails
    refine ops_callV rfl rfl (by cbv) (by cbv) hc9 (.inr rfl) (by cbv) ?_
    refine run_aops hA 2 _ _ _ _ (by cbv) ?_
    refine ops_done ?_
    refine go_seq ?_
    refine go_reg ?_
    refine run_aops hA 1 _ _ _ _ (by cbv) ?_
    obtain ⟨v18_10, hv18_10, hc11⟩ : ∃ (v18_10 : ByteArray), v18_10 = (boxT (⟨aB_Valid, aB_User, aB_Name, aB_Next, aB_Mails⟩ : GBox)) ∧ Real Tryd.prog 8 [.agg [.int .i64 aB_Valid, .str aB_User, .str aB_Name, .int .i64 aB_Next, .sl 3 (eraseR v16_8_Mails)]] (.str v18_10) := ⟨_, rfl, by subst hv16_8_Mails; simp only [erR_Mail]; exact r_impl_ShowBox A hA (⟨aB_Valid, aB_User, aB_Name, aB_Next, aB_Mails⟩ : GBox) (by assumption) (by assumption)⟩
    refine ops_callV rfl rfl (by cbv) (by cbv) hc11 (.inl trivial) (by cbv) ?_
    refine run_aops hA 1 _ _ _ _ (by cbv) ?_
    refine ops_done ?_
    refine go_seq ?_
    refine go_seq ?_
    refine go_reg ?_
    refine run_aops hA 3 _ _ _ _ (by cbv) ?_
    refine ops_done ?_
    refine go_cond rfl (fun c12 => ?_) (fun c12 => ?_)
    · skip
      exact absurd (show (A.scmp .neq v18_10 v14_6) = true from c12) (by rw [show (A.scmp .neq v18_10 v14_6) = false from by subst hA; simp [std, hv18_10, hv14_6]]; decide)
    · skip
      refine go_skip ?_
      refine go_seq ?_
      refine go_seq ?_
      refine go_draw (by cbv) ?_
      refine run_dops hA 2 _ _ _ _ (by cbv) ?_
      obtain ⟨v24_13_Mails, hv24_13_Mails, hc14⟩ : ∃ (v24_13_Mails : List (List PV)), v24_13_Mails = List.map eoMail aB_Mails ∧ Real Tryd.prog 7 [.agg [.int .i64 aB_Valid, .str aB_User, .str aB_Name, .int .i64 aB_Next, .sl 3 aB_Mails_r]] (.agg [.int .i64 aB_Valid, .str aB_User, .str aB_Name, .int .i64 aB_Next, .ow 3 v24_13_Mails]) := ⟨_, rfl, by subst haB_Mails_r; exact r_laws_toBox A hA (⟨aB_Valid, aB_User, aB_Name, aB_Next, aB_Mails⟩ : GBox) jaB⟩
      have lv24_13_Mails : A.rlen v24_13_Mails = (List.length aB_Mails : Int) := rlen_map hA hv24_13_Mails
      refine dops_callV rfl rfl (by cbv) (by cbv) hc14 (.inr rfl) ?_
      have hc16 : Real Tryd.prog 9 [.agg [.int .i64 aB_Valid, .str aB_User, .str aB_Name, .int .i64 aB_Next, .sl 3 (eraseR v16_8_Mails)], .agg [.int .i64 aB_Valid, .str aB_User, .str aB_Name, .int .i64 aB_Next, .sl 3 (eraseR v24_13_Mails)]] (.bool true) := by subst hv16_8_Mails hv24_13_Mails; simp only [erR_Mail]; exact r_laws_eqBox A hA (⟨aB_Valid, aB_User, aB_Name, aB_Next, aB_Mails⟩ : GBox) iaB
      refine dops_callV rfl rfl (by cbv) (by cbv) hc16 (.inl trivial) ?_
      refine run_dops hA 1 _ _ _ _ (by cbv) ?_
      refine dops_done ?_
      refine go_cond rfl (fun c17 => ?_) (fun c17 => ?_)
      · skip
        exact absurd (show (A.bnot true) = true from c17) (by rw [show (A.bnot true) = false from by subst hA; rfl]; decide)
      · skip
        refine go_skip ?_
        refine go_seq ?_
        refine go_reg ?_
        refine run_aops hA 1 _ _ _ _ (by cbv) ?_
        refine ops_done ?_
        refine go_ret ⟨_, by cbv, ?_⟩
        show _ = (PV.bool true)
        rfl
end Go.Av
