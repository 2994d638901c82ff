/- Walks: the law of ShowTalk. -/
import Derived.Test.YtjbokkoiicoahaaDoorG5
import Derived.Test.YtjbokkoiicoahaaDoorV1
import Derived.Test.YtjbokkoiicoahaaDoorV2
import Derived.Test.YtjbokkoiicoahaaDoorV3
namespace Go.Av
open Go Go.Proofs
set_option maxRecDepth 100000
set_option maxHeartbeats 4000000
set_option linter.unusedVariables false
set_option linter.unusedSimpArgs false
theorem r_laws_FnExactShowTalk (A : Alg) (hA : A = std) (aT : List GSession) (haT : ∀ k ∈ zsSessionS aT, (k : Int) ≤ 9223372036854775807) (hr : ∀ x ∈ aT, rgSession x) : Real Tryd.prog 4 [.sl 17 (List.map eSession aT)] (.bool true) := by
  obtain ⟨aT_r, haT_r⟩ : ∃ r, r = aT.map eSession := ⟨_, rfl⟩
  have laT_r : A.rlen aT_r = (List.length aT : Int) := rlen_map hA haT_r
  refine real_args (args' := [.sl 17 aT_r]) (by subst haT_r; rfl) ?_
  refine real tyOk Tryd.func4 (by kernel_rfl) (afun_of rfl ?_)
  refine go_seq ?_
  refine go_reg ?_
  refine run_aops hA 1 _ _ _ _ (by cbv) ?_
  refine ops_done ?_
  refine go_seq ?_
  refine go_reg ?_
  refine run_aops hA 1 _ _ _ _ (by cbv) ?_
  refine ops_done ?_
  refine go_seq ?_
  refine go_reg ?_
  refine run_aops hA 2 _ _ _ _ (by cbv) ?_
  obtain ⟨v9_1, hv9_1, hc2⟩ : ∃ (v9_1 : Int), v9_1 = (chain 1048576 (zsSessionS aT)) ∧ Real Tryd.prog 10 [.sl 17 aT_r, .int .i64 1048576] (.int .i64 v9_1) := ⟨_, rfl, by subst haT_r; exact r_laws_szSessionS A hA aT 1048576 (by omega) (by omega) haT⟩
  refine ops_callV rfl rfl (by cbv) (by cbv) hc2 (.inr rfl) (by cbv) ?_
  have bv9_1 := chain_bd hv9_1 (by omega)
  refine run_aops hA 1 _ _ _ _ (by cbv) ?_
  refine ops_done ?_
  refine go_seq ?_
  refine go_seq ?_
  refine go_reg ?_
  refine run_aops hA 2 _ _ _ _ (by cbv) ?_
  refine ops_done ?_
  refine go_cond rfl (fun c3 => ?_) (fun c3 => ?_)
  · skip
    have ec3 : v9_1 < 0 := lss_t hA c3
    refine go_seq ?_
    refine go_reg ?_
    refine run_aops hA 1 _ _ _ _ (by cbv) ?_
    refine ops_done ?_
    refine go_ret ⟨_, by cbv, ?_⟩
    show _ = (PV.bool true)
    rfl
  · skip
    have ec3 : 0 ≤ v9_1 := lss_f hA c3
    refine go_skip ?_
    refine go_seq ?_
    have jaT : ∀ k ∈ zsSessionS aT, k ≤ 1048576 := fun k hk => by
      have := chain_all _ _ (show 0 ≤ chain _ _ from hv9_1 ▸ (by omega : (0 : Int) ≤ v9_1)) k hk
      omega
    have iaT : ∀ k ∈ zsSessionS aT, (k : Int) ≤ 4611686018427387904 := fun k hk => by have := jaT k hk; omega
    refine go_reg ?_
    refine run_aops hA 1 _ _ _ _ (by cbv) ?_
    obtain ⟨v13_4, hv13_4, hc5⟩ : ∃ (v13_4 : List (List PV)), v13_4 = List.map eoSession aT ∧ Real Tryd.prog 12 [.sl 17 aT_r] (.ow 17 v13_4) := ⟨_, rfl, by subst haT_r; exact r_laws_toSessionS A hA aT jaT⟩
    have lv13_4 : A.rlen v13_4 = (List.length aT : Int) := rlen_map hA hv13_4
    refine ops_callV rfl rfl (by cbv) (by cbv) hc5 (.inr rfl) (by cbv) ?_
    obtain ⟨v14_6, hv14_6, hc7⟩ : ∃ (v14_6 : ByteArray), v14_6 = (talkC aT) ∧ Real Tryd.prog 11 [.sl 17 (eraseR v13_4)] (.str v14_6) := ⟨_, rfl, by subst hv13_4; simp only [erR_Session]; exact r_spec_ShowTalk A hA aT (by assumption) (by assumption)⟩
    refine ops_callV rfl rfl (by cbv) (by cbv) hc7 (.inl trivial) (by cbv) ?_
    refine run_aops hA 1 _ _ _ _ (by cbv) ?_
    refine ops_done ?_
    refine go_seq ?_
    refine go_reg ?_
    refine run_aops hA 1 _ _ _ _ (by cbv) ?_
    obtain ⟨v16_8, hv16_8, hc9⟩ : ∃ (v16_8 : List (List PV)), v16_8 = List.map eoSession aT ∧ Real Tryd.prog 12 [.sl 17 aT_r] (.ow 17 v16_8) := ⟨_, rfl, by subst haT_r; exact r_laws_toSessionS A hA aT jaT⟩
    have lv16_8 : A.rlen v16_8 = (List.length aT : Int) := rlen_map hA hv16_8
    refine ops_callV rfl rfl (by cbv) (by cbv) hc9 (.inr rfl) (by cbv) ?_
    refine run_aops hA 1 _ _ _ _ (by cbv) ?_
    refine ops_done ?_
    refine go_seq ?_
    refine go_reg ?_
    refine run_aops hA 1 _ _ _ _ (by cbv) ?_
    obtain ⟨v18_10, hv18_10, hc11⟩ : ∃ (v18_10 : ByteArray), v18_10 = (talkC aT) ∧ Real Tryd.prog 13 [.sl 17 (eraseR v16_8)] (.str v18_10) := ⟨_, rfl, by subst hv16_8; simp only [erR_Session]; exact r_impl_ShowTalk A hA aT (by assumption) (by assumption)⟩
    refine ops_callV rfl rfl (by cbv) (by cbv) hc11 (.inl trivial) (by cbv) ?_
    refine run_aops hA 1 _ _ _ _ (by cbv) ?_
    refine ops_done ?_
    refine go_seq ?_
    refine go_seq ?_
    refine go_reg ?_
    refine run_aops hA 3 _ _ _ _ (by cbv) ?_
    refine ops_done ?_
    refine go_cond rfl (fun c12 => ?_) (fun c12 => ?_)
    · skip
      exact absurd (show (A.scmp .neq v18_10 v14_6) = true from c12) (by rw [show (A.scmp .neq v18_10 v14_6) = false from by subst hA; simp [std, hv18_10, hv14_6]]; decide)
    · skip
      refine go_skip ?_
      refine go_seq ?_
      refine go_seq ?_
      refine go_reg ?_
      refine run_aops hA 2 _ _ _ _ (by cbv) ?_
      obtain ⟨v24_13, hv24_13, hc14⟩ : ∃ (v24_13 : List (List PV)), v24_13 = List.map eoSession aT ∧ Real Tryd.prog 12 [.sl 17 aT_r] (.ow 17 v24_13) := ⟨_, rfl, by subst haT_r; exact r_laws_toSessionS A hA aT jaT⟩
      have lv24_13 : A.rlen v24_13 = (List.length aT : Int) := rlen_map hA hv24_13
      refine ops_callV rfl rfl (by cbv) (by cbv) hc14 (.inr rfl) (by cbv) ?_
      have hc16 : Real Tryd.prog 14 [.sl 17 (eraseR v16_8), .sl 17 (eraseR v24_13)] (.bool true) := by subst hv16_8 hv24_13; simp only [erR_Session]; exact r_laws_eqSessionS A hA aT iaT
      refine ops_callV rfl rfl (by cbv) (by cbv) hc16 (.inl trivial) (by cbv) ?_
      refine run_aops hA 1 _ _ _ _ (by cbv) ?_
      refine ops_done ?_
      refine go_cond rfl (fun c17 => ?_) (fun c17 => ?_)
      · skip
        exact absurd (show (A.bnot true) = true from c17) (by rw [show (A.bnot true) = false from by subst hA; rfl]; decide)
      · skip
        refine go_skip ?_
        refine go_seq ?_
        refine go_reg ?_
        refine run_aops hA 1 _ _ _ _ (by cbv) ?_
        refine ops_done ?_
        refine go_ret ⟨_, by cbv, ?_⟩
        show _ = (PV.bool true)
        rfl
end Go.Av
