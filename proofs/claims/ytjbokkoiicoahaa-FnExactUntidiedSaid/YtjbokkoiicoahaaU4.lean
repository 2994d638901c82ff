/- Walks: the law of Untidied. -/
import Derived.Test.YtjbokkoiicoahaaU1
import Derived.Test.YtjbokkoiicoahaaU2
import Derived.Test.YtjbokkoiicoahaaU3
namespace Go.Av
open Go Go.Proofs
set_option maxRecDepth 100000
set_option maxHeartbeats 4000000
set_option linter.unusedVariables false
set_option linter.unusedSimpArgs false
theorem r_laws_FnExactUntidied (A : Alg) (hA : A = std) (aEvents : List GEvent) (haEvents : ∀ k ∈ zsEventS aEvents, (k : Int) ≤ 9223372036854775807) : Real Try.prog 3 [.sl 4 (List.map eEvent aEvents)] (.bool true) := by
  obtain ⟨aEvents_r, haEvents_r⟩ : ∃ r, r = aEvents.map eEvent := ⟨_, rfl⟩
  have laEvents_r : A.rlen aEvents_r = (List.length aEvents : Int) := rlen_map hA haEvents_r
  refine real_args (args' := [.sl 4 aEvents_r]) (by subst haEvents_r; rfl) ?_
  refine real tyOk Try.func3 (by kernel_rfl) (afun_of rfl ?_)
  refine go_seq ?_
  refine go_reg ?_
  refine run_aops hA 1 _ _ _ _ (by cbv) ?_
  refine ops_done ?_
  refine go_seq ?_
  refine go_reg ?_
  refine run_aops hA 1 _ _ _ _ (by cbv) ?_
  refine ops_done ?_
  refine go_seq ?_
  refine go_reg ?_
  refine run_aops hA 2 _ _ _ _ (by cbv) ?_
  obtain ⟨v13_1, hv13_1, hc2⟩ : ∃ (v13_1 : Int), v13_1 = (chain 1048576 (zsEventS aEvents)) ∧ Real Try.prog 8 [.sl 4 aEvents_r, .int .i64 1048576] (.int .i64 v13_1) := ⟨_, rfl, by subst haEvents_r; exact r_laws_szEventS A hA aEvents 1048576 (by omega) (by omega) haEvents⟩
  refine ops_callV rfl rfl (by cbv) (by cbv) hc2 (.inr rfl) (by cbv) ?_
  have bv13_1 := chain_bd hv13_1 (by omega)
  refine run_aops hA 1 _ _ _ _ (by cbv) ?_
  refine ops_done ?_
  refine go_seq ?_
  refine go_seq ?_
  refine go_reg ?_
  refine run_aops hA 2 _ _ _ _ (by cbv) ?_
  refine ops_done ?_
  refine go_cond rfl (fun c3 => ?_) (fun c3 => ?_)
  · skip
    have ec3 : v13_1 < 0 := lss_t hA c3
    refine go_seq ?_
    refine go_reg ?_
    refine run_aops hA 1 _ _ _ _ (by cbv) ?_
    refine ops_done ?_
    refine go_ret ⟨_, by cbv, ?_⟩
    show _ = (PV.bool true)
    rfl
  · skip
    have ec3 : 0 ≤ v13_1 := lss_f hA c3
    refine go_skip ?_
    refine go_seq ?_
    have jaEvents : ∀ k ∈ zsEventS aEvents, k ≤ 1048576 := fun k hk => by
      have := chain_all _ _ (show 0 ≤ chain _ _ from hv13_1 ▸ (by omega : (0 : Int) ≤ v13_1)) k hk
      omega
    have saEvents : ((zsEventS aEvents).sum : Int) ≤ 1048576 := chain_sum (show 0 ≤ chain _ _ from hv13_1 ▸ (by omega : (0 : Int) ≤ v13_1))
    have iaEvents : ∀ k ∈ zsEventS aEvents, (k : Int) ≤ 4611686018427387904 := fun k hk => by have := jaEvents k hk; omega
    have cap1 : 1 + cnEventS aEvents ≤ 1099511627776 := by have := cnEventS_les aEvents; omega
    have cap2 : 1 + cnEventS (unt aEvents) ≤ 1099511627776 := by have := cn_unt aEvents; omega
    have iu := unt_zs iaEvents
    refine go_reg ?_
    refine run_aops hA 1 _ _ _ _ (by cbv) ?_
    obtain ⟨v17_4, hv17_4, hc5⟩ : ∃ (v17_4 : List (List PV)), v17_4 = List.map eoEvent aEvents ∧ Real Try.prog 10 [.sl 4 aEvents_r] (.ow 4 v17_4) := ⟨_, rfl, by subst haEvents_r; exact r_laws_toEventS A hA aEvents jaEvents⟩
    have lv17_4 : A.rlen v17_4 = (List.length aEvents : Int) := rlen_map hA hv17_4
    refine ops_callV rfl rfl (by cbv) (by cbv) hc5 (.inr rfl) (by cbv) ?_
    obtain ⟨v18_6, hv18_6, hc7⟩ : ∃ (v18_6 : List (List PV)), v18_6 = List.map eoEvent (unt aEvents) ∧ Real Try.prog 9 [.sl 4 (eraseR v17_4)] (.ow 4 v18_6) := ⟨_, rfl, by subst hv17_4; simp only [erR_Event]; exact r_spec_Untidied A hA aEvents jaEvents⟩
    have lv18_6 : A.rlen v18_6 = (List.length (unt aEvents) : Int) := rlen_map hA hv18_6
    refine ops_callV rfl rfl (by cbv) (by cbv) hc7 (.inl (by simp only [fresh, freshL, hv18_6, frR_Event, and_self])) (by cbv) ?_
    refine run_aops hA 1 _ _ _ _ (by cbv) ?_
    refine ops_done ?_
    refine go_seq ?_
    refine go_reg ?_
    refine run_aops hA 1 _ _ _ _ (by cbv) ?_
    obtain ⟨v20_8, hv20_8, hc9⟩ : ∃ (v20_8 : List (List PV)), v20_8 = List.map eoEvent aEvents ∧ Real Try.prog 10 [.sl 4 aEvents_r] (.ow 4 v20_8) := ⟨_, rfl, by subst haEvents_r; exact r_laws_toEventS A hA aEvents jaEvents⟩
    have lv20_8 : A.rlen v20_8 = (List.length aEvents : Int) := rlen_map hA hv20_8
    refine ops_callV rfl rfl (by cbv) (by cbv) hc9 (.inr rfl) (by cbv) ?_
    refine run_aops hA 1 _ _ _ _ (by cbv) ?_
    refine ops_done ?_
    refine go_seq ?_
    refine go_reg ?_
    refine run_aops hA 1 _ _ _ _ (by cbv) ?_
    obtain ⟨v22_10, hv22_10, hc11⟩ : ∃ (v22_10 : List (List PV)), v22_10 = List.map eoEvent (unt aEvents) ∧ Real Try.prog 11 [.sl 4 (eraseR v20_8)] (.ow 4 v22_10) := ⟨_, rfl, by subst hv20_8; simp only [erR_Event]; exact r_impl_Untidied A hA aEvents jaEvents⟩
    have lv22_10 : A.rlen v22_10 = (List.length (unt aEvents) : Int) := rlen_map hA hv22_10
    refine ops_callV rfl rfl (by cbv) (by cbv) hc11 (.inl (by simp only [fresh, freshL, hv22_10, frR_Event, and_self])) (by cbv) ?_
    refine run_aops hA 1 _ _ _ _ (by cbv) ?_
    refine ops_done ?_
    refine go_seq ?_
    refine go_seq ?_
    refine go_reg ?_
    refine run_aops hA 2 _ _ _ _ (by cbv) ?_
    have hc13 : Real Try.prog 12 [.sl 4 (eraseR v22_10), .sl 4 (eraseR v18_6)] (.bool true) := by subst hv22_10 hv18_6; simp only [erR_Event]; exact r_laws_eqEventS A hA (unt aEvents) iu
    refine ops_callV rfl rfl (by cbv) (by cbv) hc13 (.inl trivial) (by cbv) ?_
    refine run_aops hA 1 _ _ _ _ (by cbv) ?_
    refine ops_done ?_
    refine go_cond rfl (fun c14 => ?_) (fun c14 => ?_)
    · skip
      exact absurd (show (A.bnot true) = true from c14) (by rw [show (A.bnot true) = false from by subst hA; rfl]; decide)
    · skip
      refine go_skip ?_
      refine go_seq ?_
      refine go_seq ?_
      refine go_reg ?_
      refine run_aops hA 2 _ _ _ _ (by cbv) ?_
      obtain ⟨v29_15, hv29_15, hc16⟩ : ∃ (v29_15 : List (List PV)), v29_15 = List.map eoEvent aEvents ∧ Real Try.prog 10 [.sl 4 aEvents_r] (.ow 4 v29_15) := ⟨_, rfl, by subst haEvents_r; exact r_laws_toEventS A hA aEvents jaEvents⟩
      have lv29_15 : A.rlen v29_15 = (List.length aEvents : Int) := rlen_map hA hv29_15
      refine ops_callV rfl rfl (by cbv) (by cbv) hc16 (.inr rfl) (by cbv) ?_
      have hc18 : Real Try.prog 12 [.sl 4 (eraseR v20_8), .sl 4 (eraseR v29_15)] (.bool true) := by subst hv20_8 hv29_15; simp only [erR_Event]; exact r_laws_eqEventS A hA aEvents iaEvents
      refine ops_callV rfl rfl (by cbv) (by cbv) hc18 (.inl trivial) (by cbv) ?_
      refine run_aops hA 1 _ _ _ _ (by cbv) ?_
      refine ops_done ?_
      refine go_cond rfl (fun c19 => ?_) (fun c19 => ?_)
      · skip
        exact absurd (show (A.bnot true) = true from c19) (by rw [show (A.bnot true) = false from by subst hA; rfl]; decide)
      · skip
        refine go_skip ?_
        refine go_seq ?_
        refine go_reg ?_
        refine run_aops hA 1 _ _ _ _ (by cbv) ?_
        refine ops_done ?_
        refine go_seq ?_
        refine go_reg ?_
        refine run_aops hA 2 _ _ _ _ (by cbv) ?_
        obtain ⟨m20_0, m20, hm20_0, hm20, hcm20⟩ : ∃ (m20_0 : List (List PV)) (m20 : Int), m20_0 = List.map eoEvent (mkEventS 1 aEvents) ∧ m20 = 1 + cnEventS aEvents ∧ RealM Try.prog 13 [.ow 4 v20_8, .int .i64 1] [.ow 4 m20_0, .int .i64 1] (.int .i64 m20) := ⟨_, _, rfl, rfl, by subst hv20_8; exact m_laws_markEventS A hA aEvents 1 (by omega) (by omega)⟩
        have lm20_0 : A.rlen m20_0 = (List.length (mkEventS 1 aEvents) : Int) := rlen_map hA hm20_0
        have nnq21 := cnEventS_nn aEvents
        have nm20 : 0 ≤ m20 := by omega
        refine ops_callM rfl (by cbv) (by cbv) (by cbv) hcm20 rfl (by cbv) ?_
        refine run_aops hA 1 _ _ _ _ (by cbv) ?_
        refine ops_done ?_
        refine go_seq ?_
        refine go_seq ?_
        refine go_reg ?_
        refine run_aops hA 3 _ _ _ _ (by cbv) ?_
        refine ops_split 37 rfl (fun c22 => ?_) (fun c22 => ?_)
        · skip
          have ec22 : m20 < 0 := lss_t hA c22
          exact absurd ec22 (Int.not_lt.2 nm20)
        · skip
          have ec22 : 0 ≤ m20 := lss_f hA c22
          refine run_aops hA 2 _ _ _ _ (by cbv) ?_
          have hc24 : Real Try.prog 12 [.sl 4 (eraseR v22_10), .sl 4 (eraseR v18_6)] (.bool true) := by subst hv22_10 hv18_6; simp only [erR_Event]; exact r_laws_eqEventS A hA (unt aEvents) iu
          refine ops_callG rfl rfl rfl rfl (by cbv) (by cbv) hc24 (.inl trivial) (by cbv) ?_
          refine run_aops hA 2 _ _ _ _ (by cbv) ?_
          refine ops_done ?_
          refine go_cond rfl (fun c25 => ?_) (fun c25 => ?_)
          · skip
            exact absurd (show (A.bnot true) = true from c25) (by rw [show (A.bnot true) = false from by subst hA; rfl]; decide)
          · skip
            refine go_skip ?_
            refine go_seq ?_
            refine go_reg ?_
            refine run_aops hA 1 _ _ _ _ (by cbv) ?_
            refine ops_done ?_
            refine go_seq ?_
            refine go_reg ?_
            refine run_aops hA 2 _ _ _ _ (by cbv) ?_
            obtain ⟨m26_0, m26, hm26_0, hm26, hcm26⟩ : ∃ (m26_0 : List (List PV)) (m26 : Int), m26_0 = List.map eoEvent (mkEventS 1 (unt aEvents)) ∧ m26 = 1 + cnEventS (unt aEvents) ∧ RealM Try.prog 13 [.ow 4 v22_10, .int .i64 1] [.ow 4 m26_0, .int .i64 1] (.int .i64 m26) := ⟨_, _, rfl, rfl, by subst hv22_10; exact m_laws_markEventS A hA (unt aEvents) 1 (by omega) (by omega)⟩
            have lm26_0 : A.rlen m26_0 = (List.length (mkEventS 1 (unt aEvents)) : Int) := rlen_map hA hm26_0
            have nnq27 := cnEventS_nn (unt aEvents)
            have nm26 : 0 ≤ m26 := by omega
            refine ops_callM rfl (by cbv) (by cbv) (by cbv) hcm26 rfl (by cbv) ?_
            refine run_aops hA 1 _ _ _ _ (by cbv) ?_
            refine ops_done ?_
            refine go_seq ?_
            refine go_reg ?_
            refine run_aops hA 1 _ _ _ _ (by cbv) ?_
            refine ops_done ?_
            refine go_seq ?_
            refine go_reg ?_
            refine run_aops hA 2 _ _ _ _ (by cbv) ?_
            have nnq28 := cnEventS_nn (unt aEvents)
            obtain ⟨q28, hq28, hc29⟩ : ∃ q : Int, q = 1 + cnEventS (unt aEvents) ∧ Real Try.prog 14 [.sl 4 (eraseR m26_0), .int .i64 1] (.int .i64 q) := ⟨_, rfl, by
              subst hm26_0; simp only [erR_Event]; exact r_laws_heldEventS A hA (unt aEvents) 1 (by omega) (by omega)⟩
            have nq28 : 0 ≤ q28 := by omega
            refine ops_callV rfl rfl (by cbv) (by cbv) hc29 (.inl trivial) (by cbv) ?_
            refine run_aops hA 1 _ _ _ _ (by cbv) ?_
            refine ops_done ?_
            refine go_seq ?_
            refine go_seq ?_
            refine go_reg ?_
            refine run_aops hA 2 _ _ _ _ (by cbv) ?_
            refine ops_done ?_
            refine go_cond rfl (fun c30 => ?_) (fun c30 => ?_)
            · skip
              have ec30 : q28 < 0 := lss_t hA c30
              exact absurd ec30 (Int.not_lt.2 nq28)
            · skip
              have ec30 : 0 ≤ q28 := lss_f hA c30
              refine go_skip ?_
              refine go_seq ?_
              refine go_seq ?_
              refine go_reg ?_
              refine run_aops hA 3 _ _ _ _ (by cbv) ?_
              refine ops_done ?_
              refine go_cond rfl (fun c31 => ?_) (fun c31 => ?_)
              · skip
                exact absurd (show (A.cmp .neq q28 m26) = true from c31) (by rw [show (A.cmp .neq q28 m26) = false from by subst hA; simp [std, hq28, hm26]]; decide)
              · skip
                refine go_skip ?_
                refine go_seq ?_
                refine go_reg ?_
                refine run_aops hA 1 _ _ _ _ (by cbv) ?_
                obtain ⟨v55_32, hv55_32, hc33⟩ : ∃ (v55_32 : List (List PV)), v55_32 = List.map eoEvent aEvents ∧ Real Try.prog 10 [.sl 4 aEvents_r] (.ow 4 v55_32) := ⟨_, rfl, by subst haEvents_r; exact r_laws_toEventS A hA aEvents jaEvents⟩
                have lv55_32 : A.rlen v55_32 = (List.length aEvents : Int) := rlen_map hA hv55_32
                refine ops_callV rfl rfl (by cbv) (by cbv) hc33 (.inr rfl) (by cbv) ?_
                obtain ⟨v56_34, hv56_34, hc35⟩ : ∃ (v56_34 : List (List PV)), v56_34 = List.map eoEvent (unt aEvents) ∧ Real Try.prog 11 [.sl 4 (eraseR v55_32)] (.ow 4 v56_34) := ⟨_, rfl, by subst hv55_32; simp only [erR_Event]; exact r_impl_Untidied A hA aEvents jaEvents⟩
                have lv56_34 : A.rlen v56_34 = (List.length (unt aEvents) : Int) := rlen_map hA hv56_34
                refine ops_callV rfl rfl (by cbv) (by cbv) hc35 (.inl (by simp only [fresh, freshL, hv56_34, frR_Event, and_self])) (by cbv) ?_
                refine run_aops hA 1 _ _ _ _ (by cbv) ?_
                refine ops_done ?_
                refine go_seq ?_
                refine go_seq ?_
                refine go_reg ?_
                refine run_aops hA 2 _ _ _ _ (by cbv) ?_
                have hc37 : Real Try.prog 12 [.sl 4 (eraseR v56_34), .sl 4 (eraseR v18_6)] (.bool true) := by subst hv56_34 hv18_6; simp only [erR_Event]; exact r_laws_eqEventS A hA (unt aEvents) iu
                refine ops_callV rfl rfl (by cbv) (by cbv) hc37 (.inl trivial) (by cbv) ?_
                refine run_aops hA 1 _ _ _ _ (by cbv) ?_
                refine ops_done ?_
                refine go_cond rfl (fun c38 => ?_) (fun c38 => ?_)
                · skip
                  exact absurd (show (A.bnot true) = true from c38) (by rw [show (A.bnot true) = false from by subst hA; rfl]; decide)
                · skip
                  refine go_skip ?_
                  refine go_seq ?_
                  refine go_reg ?_
                  refine run_aops hA 1 _ _ _ _ (by cbv) ?_
                  refine ops_done ?_
                  refine go_seq ?_
                  refine go_reg ?_
                  refine run_aops hA 2 _ _ _ _ (by cbv) ?_
                  have nnq39 := cnEventS_nn (unt aEvents)
                  obtain ⟨q39, hq39, hc40⟩ : ∃ q : Int, q = 1 + cnEventS (unt aEvents) ∧ Real Try.prog 14 [.sl 4 (eraseR m26_0), .int .i64 1] (.int .i64 q) := ⟨_, rfl, by
                    subst hm26_0; simp only [erR_Event]; exact r_laws_heldEventS A hA (unt aEvents) 1 (by omega) (by omega)⟩
                  have nq39 : 0 ≤ q39 := by omega
                  refine ops_callV rfl rfl (by cbv) (by cbv) hc40 (.inl trivial) (by cbv) ?_
                  refine run_aops hA 1 _ _ _ _ (by cbv) ?_
                  refine ops_done ?_
                  refine go_seq ?_
                  refine go_seq ?_
                  refine go_reg ?_
                  refine run_aops hA 2 _ _ _ _ (by cbv) ?_
                  refine ops_done ?_
                  refine go_cond rfl (fun c41 => ?_) (fun c41 => ?_)
                  · skip
                    have ec41 : q39 < 0 := lss_t hA c41
                    exact absurd ec41 (Int.not_lt.2 nq39)
                  · skip
                    have ec41 : 0 ≤ q39 := lss_f hA c41
                    refine go_skip ?_
                    refine go_seq ?_
                    refine go_seq ?_
                    refine go_reg ?_
                    refine run_aops hA 3 _ _ _ _ (by cbv) ?_
                    refine ops_done ?_
                    refine go_cond rfl (fun c42 => ?_) (fun c42 => ?_)
                    · skip
                      exact absurd (show (A.cmp .neq q39 m26) = true from c42) (by rw [show (A.cmp .neq q39 m26) = false from by subst hA; simp [std, hq39, hm26]]; decide)
                    · skip
                      refine go_skip ?_
                      refine go_seq ?_
                      refine go_reg ?_
                      refine run_aops hA 1 _ _ _ _ (by cbv) ?_
                      refine ops_done ?_
                      refine go_ret ⟨_, by cbv, ?_⟩
                      show _ = (PV.bool true)
                      rfl
end Go.Av
