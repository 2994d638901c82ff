/- Walks: events, and the law of EventOk. -/
import Derived.Test.YtidedopnpjgkjaaW2
namespace Go.Av
open Go Go.Proofs
set_option maxRecDepth 100000
set_option maxHeartbeats 4000000
set_option linter.unusedVariables false
set_option linter.unusedSimpArgs false

theorem erase_encI : ∀ xs : List Int, eraseR (encI xs) = encI xs
  | [] => rfl
  | x :: xs => by
    show [erase (.int .i64 x)] :: eraseR (encI xs) = [.int .i64 x] :: encI xs
    rw [erase_encI xs]
    rfl

theorem real11 (A : Alg) (hA : A = std) (k at' : Int) (text : ByteArray) (ra : List (List PV)) (b : Bool) (hb : b = evOk k at' text ra.length) :
    Real Try.prog 11 [.agg [.int .i64 k, .int .i64 at', .str text, .sl 1 ra]] (.bool b) := by
  subst hb
  refine real tyOk Try.func11 (by kernel_rfl) (afun_of rfl ?_)
  refine go_seq ?_
  refine go_reg ?_
  refine run_aops hA 2 _ _ _ _ (by cbv) ?_
  refine ops_done ?_
  refine go_seq ?_
  refine go_seq ?_
  obtain ⟨b1, hb1⟩ : ∃ b1, b1 = (decide (1 ≤ k) && decide (k ≤ 6)) := ⟨_, rfl⟩
  refine go_reg ?_
  refine run_aops hA 2 _ _ _ _ (by cbv) ?_
  refine ops_callV rfl rfl (by cbv) (by cbv) (real38 A hA k 1 6 b1 hb1) (.inl trivial) (by cbv) ?_
  refine run_aops hA 2 _ _ _ _ (by cbv) ?_
  refine ops_split 7 rfl (fun c1 => ?_) (fun c1 => ?_)
  · skip
    refine run_aops hA 5 _ _ _ _ (by cbv) ?_
    refine ops_split 12 rfl (fun c2 => ?_) (fun c2 => ?_)
    · skip
      refine run_aops hA 6 _ _ _ _ (by cbv) ?_
      refine ops_split 18 rfl (fun c3 => ?_) (fun c3 => ?_)
      · skip
        refine run_aops hA 5 _ _ _ _ (by cbv) ?_
        refine ops_done ?_
        refine go_cond rfl (fun c4 => ?_) (fun c4 => ?_)
        · skip
          refine go_seq ?_
          refine go_reg ?_
          refine run_aops hA 1 _ _ _ _ (by cbv) ?_
          refine ops_done ?_
          refine go_ret (closed (by cbv) ?_)
          refine congrArg PV.bool ?_
          subst hA
          have hb1' : b1 = true ↔ (1 ≤ k ∧ k ≤ 6) := by rw [hb1]; simp
          rw [Bool.eq_iff_iff, evOk_iff]
          have hnil := @tl_nil text
          simp only [std, tl_empty] at *
          grind
        · skip
          refine go_skip ?_
          refine go_seq ?_
          refine go_reg ?_
          refine run_aops hA 4 _ _ _ _ (by cbv) ?_
          refine ops_split 27 rfl (fun c5 => ?_) (fun c5 => ?_)
          · skip
            refine run_aops hA 5 _ _ _ _ (by cbv) ?_
            refine ops_split 32 rfl (fun c6 => ?_) (fun c6 => ?_)
            · skip
              refine run_aops hA 5 _ _ _ _ (by cbv) ?_
              refine ops_split 37 rfl (fun c7 => ?_) (fun c7 => ?_)
              · skip
                refine run_aops hA 6 _ _ _ _ (by cbv) ?_
                refine ops_done ?_
                refine go_ret (closed (by cbv) ?_)
                refine congrArg PV.bool ?_
                subst hA
                have hb1' : b1 = true ↔ (1 ≤ k ∧ k ≤ 6) := by rw [hb1]; simp
                rw [Bool.eq_iff_iff, evOk_iff]
                have hnil := @tl_nil text
                simp only [std, tl_empty] at *
                grind
              · skip
                refine run_aops hA 6 _ _ _ _ (by cbv) ?_
                refine ops_done ?_
                refine go_ret (closed (by cbv) ?_)
                refine congrArg PV.bool ?_
                subst hA
                have hb1' : b1 = true ↔ (1 ≤ k ∧ k ≤ 6) := by rw [hb1]; simp
                rw [Bool.eq_iff_iff, evOk_iff]
                have hnil := @tl_nil text
                simp only [std, tl_empty] at *
                grind
            · skip
              refine run_aops hA 11 _ _ _ _ (by cbv) ?_
              refine ops_done ?_
              refine go_ret (closed (by cbv) ?_)
              refine congrArg PV.bool ?_
              subst hA
              have hb1' : b1 = true ↔ (1 ≤ k ∧ k ≤ 6) := by rw [hb1]; simp
              rw [Bool.eq_iff_iff, evOk_iff]
              have hnil := @tl_nil text
              simp only [std, tl_empty] at *
              grind
          · skip
            refine run_aops hA 5 _ _ _ _ (by cbv) ?_
            refine ops_split 32 rfl (fun c8 => ?_) (fun c8 => ?_)
            · skip
              refine run_aops hA 5 _ _ _ _ (by cbv) ?_
              refine ops_split 37 rfl (fun c9 => ?_) (fun c9 => ?_)
              · skip
                refine run_aops hA 6 _ _ _ _ (by cbv) ?_
                refine ops_done ?_
                refine go_ret (closed (by cbv) ?_)
                refine congrArg PV.bool ?_
                subst hA
                have hb1' : b1 = true ↔ (1 ≤ k ∧ k ≤ 6) := by rw [hb1]; simp
                rw [Bool.eq_iff_iff, evOk_iff]
                have hnil := @tl_nil text
                simp only [std, tl_empty] at *
                grind
              · skip
                refine run_aops hA 6 _ _ _ _ (by cbv) ?_
                refine ops_done ?_
                refine go_ret (closed (by cbv) ?_)
                refine congrArg PV.bool ?_
                subst hA
                have hb1' : b1 = true ↔ (1 ≤ k ∧ k ≤ 6) := by rw [hb1]; simp
                rw [Bool.eq_iff_iff, evOk_iff]
                have hnil := @tl_nil text
                simp only [std, tl_empty] at *
                grind
            · skip
              refine run_aops hA 11 _ _ _ _ (by cbv) ?_
              refine ops_done ?_
              refine go_ret (closed (by cbv) ?_)
              refine congrArg PV.bool ?_
              subst hA
              have hb1' : b1 = true ↔ (1 ≤ k ∧ k ≤ 6) := by rw [hb1]; simp
              rw [Bool.eq_iff_iff, evOk_iff]
              have hnil := @tl_nil text
              simp only [std, tl_empty] at *
              grind
      · skip
        refine run_aops hA 5 _ _ _ _ (by cbv) ?_
        refine ops_done ?_
        refine go_cond rfl (fun c10 => ?_) (fun c10 => ?_)
        · skip
          refine go_seq ?_
          refine go_reg ?_
          refine run_aops hA 1 _ _ _ _ (by cbv) ?_
          refine ops_done ?_
          refine go_ret (closed (by cbv) ?_)
          refine congrArg PV.bool ?_
          subst hA
          have hb1' : b1 = true ↔ (1 ≤ k ∧ k ≤ 6) := by rw [hb1]; simp
          rw [Bool.eq_iff_iff, evOk_iff]
          have hnil := @tl_nil text
          simp only [std, tl_empty] at *
          grind
        · skip
          refine go_skip ?_
          refine go_seq ?_
          refine go_reg ?_
          refine run_aops hA 4 _ _ _ _ (by cbv) ?_
          refine ops_split 27 rfl (fun c11 => ?_) (fun c11 => ?_)
          · skip
            refine run_aops hA 5 _ _ _ _ (by cbv) ?_
            refine ops_split 32 rfl (fun c12 => ?_) (fun c12 => ?_)
            · skip
              refine run_aops hA 5 _ _ _ _ (by cbv) ?_
              refine ops_split 37 rfl (fun c13 => ?_) (fun c13 => ?_)
              · skip
                refine run_aops hA 6 _ _ _ _ (by cbv) ?_
                refine ops_done ?_
                refine go_ret (closed (by cbv) ?_)
                refine congrArg PV.bool ?_
                subst hA
                have hb1' : b1 = true ↔ (1 ≤ k ∧ k ≤ 6) := by rw [hb1]; simp
                rw [Bool.eq_iff_iff, evOk_iff]
                have hnil := @tl_nil text
                simp only [std, tl_empty] at *
                grind
              · skip
                refine run_aops hA 6 _ _ _ _ (by cbv) ?_
                refine ops_done ?_
                refine go_ret (closed (by cbv) ?_)
                refine congrArg PV.bool ?_
                subst hA
                have hb1' : b1 = true ↔ (1 ≤ k ∧ k ≤ 6) := by rw [hb1]; simp
                rw [Bool.eq_iff_iff, evOk_iff]
                have hnil := @tl_nil text
                simp only [std, tl_empty] at *
                grind
            · skip
              refine run_aops hA 11 _ _ _ _ (by cbv) ?_
              refine ops_done ?_
              refine go_ret (closed (by cbv) ?_)
              refine congrArg PV.bool ?_
              subst hA
              have hb1' : b1 = true ↔ (1 ≤ k ∧ k ≤ 6) := by rw [hb1]; simp
              rw [Bool.eq_iff_iff, evOk_iff]
              have hnil := @tl_nil text
              simp only [std, tl_empty] at *
              grind
          · skip
            refine run_aops hA 5 _ _ _ _ (by cbv) ?_
            refine ops_split 32 rfl (fun c14 => ?_) (fun c14 => ?_)
            · skip
              refine run_aops hA 5 _ _ _ _ (by cbv) ?_
              refine ops_split 37 rfl (fun c15 => ?_) (fun c15 => ?_)
              · skip
                refine run_aops hA 6 _ _ _ _ (by cbv) ?_
                refine ops_done ?_
                refine go_ret (closed (by cbv) ?_)
                refine congrArg PV.bool ?_
                subst hA
                have hb1' : b1 = true ↔ (1 ≤ k ∧ k ≤ 6) := by rw [hb1]; simp
                rw [Bool.eq_iff_iff, evOk_iff]
                have hnil := @tl_nil text
                simp only [std, tl_empty] at *
                grind
              · skip
                refine run_aops hA 6 _ _ _ _ (by cbv) ?_
                refine ops_done ?_
                refine go_ret (closed (by cbv) ?_)
                refine congrArg PV.bool ?_
                subst hA
                have hb1' : b1 = true ↔ (1 ≤ k ∧ k ≤ 6) := by rw [hb1]; simp
                rw [Bool.eq_iff_iff, evOk_iff]
                have hnil := @tl_nil text
                simp only [std, tl_empty] at *
                grind
            · skip
              refine run_aops hA 11 _ _ _ _ (by cbv) ?_
              refine ops_done ?_
              refine go_ret (closed (by cbv) ?_)
              refine congrArg PV.bool ?_
              subst hA
              have hb1' : b1 = true ↔ (1 ≤ k ∧ k ≤ 6) := by rw [hb1]; simp
              rw [Bool.eq_iff_iff, evOk_iff]
              have hnil := @tl_nil text
              simp only [std, tl_empty] at *
              grind
    · skip
      refine run_aops hA 6 _ _ _ _ (by cbv) ?_
      refine ops_split 18 rfl (fun c16 => ?_) (fun c16 => ?_)
      · skip
        refine run_aops hA 5 _ _ _ _ (by cbv) ?_
        refine ops_done ?_
        refine go_cond rfl (fun c17 => ?_) (fun c17 => ?_)
        · skip
          refine go_seq ?_
          refine go_reg ?_
          refine run_aops hA 1 _ _ _ _ (by cbv) ?_
          refine ops_done ?_
          refine go_ret (closed (by cbv) ?_)
          refine congrArg PV.bool ?_
          subst hA
          have hb1' : b1 = true ↔ (1 ≤ k ∧ k ≤ 6) := by rw [hb1]; simp
          rw [Bool.eq_iff_iff, evOk_iff]
          have hnil := @tl_nil text
          simp only [std, tl_empty] at *
          grind
        · skip
          refine go_skip ?_
          refine go_seq ?_
          refine go_reg ?_
          refine run_aops hA 4 _ _ _ _ (by cbv) ?_
          refine ops_split 27 rfl (fun c18 => ?_) (fun c18 => ?_)
          · skip
            refine run_aops hA 5 _ _ _ _ (by cbv) ?_
            refine ops_split 32 rfl (fun c19 => ?_) (fun c19 => ?_)
            · skip
              refine run_aops hA 5 _ _ _ _ (by cbv) ?_
              refine ops_split 37 rfl (fun c20 => ?_) (fun c20 => ?_)
              · skip
                refine run_aops hA 6 _ _ _ _ (by cbv) ?_
                refine ops_done ?_
                refine go_ret (closed (by cbv) ?_)
                refine congrArg PV.bool ?_
                subst hA
                have hb1' : b1 = true ↔ (1 ≤ k ∧ k ≤ 6) := by rw [hb1]; simp
                rw [Bool.eq_iff_iff, evOk_iff]
                have hnil := @tl_nil text
                simp only [std, tl_empty] at *
                grind
              · skip
                refine run_aops hA 6 _ _ _ _ (by cbv) ?_
                refine ops_done ?_
                refine go_ret (closed (by cbv) ?_)
                refine congrArg PV.bool ?_
                subst hA
                have hb1' : b1 = true ↔ (1 ≤ k ∧ k ≤ 6) := by rw [hb1]; simp
                rw [Bool.eq_iff_iff, evOk_iff]
                have hnil := @tl_nil text
                simp only [std, tl_empty] at *
                grind
            · skip
              refine run_aops hA 11 _ _ _ _ (by cbv) ?_
              refine ops_done ?_
              refine go_ret (closed (by cbv) ?_)
              refine congrArg PV.bool ?_
              subst hA
              have hb1' : b1 = true ↔ (1 ≤ k ∧ k ≤ 6) := by rw [hb1]; simp
              rw [Bool.eq_iff_iff, evOk_iff]
              have hnil := @tl_nil text
              simp only [std, tl_empty] at *
              grind
          · skip
            refine run_aops hA 5 _ _ _ _ (by cbv) ?_
            refine ops_split 32 rfl (fun c21 => ?_) (fun c21 => ?_)
            · skip
              refine run_aops hA 5 _ _ _ _ (by cbv) ?_
              refine ops_split 37 rfl (fun c22 => ?_) (fun c22 => ?_)
              · skip
                refine run_aops hA 6 _ _ _ _ (by cbv) ?_
                refine ops_done ?_
                refine go_ret (closed (by cbv) ?_)
                refine congrArg PV.bool ?_
                subst hA
                have hb1' : b1 = true ↔ (1 ≤ k ∧ k ≤ 6) := by rw [hb1]; simp
                rw [Bool.eq_iff_iff, evOk_iff]
                have hnil := @tl_nil text
                simp only [std, tl_empty] at *
                grind
              · skip
                refine run_aops hA 6 _ _ _ _ (by cbv) ?_
                refine ops_done ?_
                refine go_ret (closed (by cbv) ?_)
                refine congrArg PV.bool ?_
                subst hA
                have hb1' : b1 = true ↔ (1 ≤ k ∧ k ≤ 6) := by rw [hb1]; simp
                rw [Bool.eq_iff_iff, evOk_iff]
                have hnil := @tl_nil text
                simp only [std, tl_empty] at *
                grind
            · skip
              refine run_aops hA 11 _ _ _ _ (by cbv) ?_
              refine ops_done ?_
              refine go_ret (closed (by cbv) ?_)
              refine congrArg PV.bool ?_
              subst hA
              have hb1' : b1 = true ↔ (1 ≤ k ∧ k ≤ 6) := by rw [hb1]; simp
              rw [Bool.eq_iff_iff, evOk_iff]
              have hnil := @tl_nil text
              simp only [std, tl_empty] at *
              grind
      · skip
        refine run_aops hA 5 _ _ _ _ (by cbv) ?_
        refine ops_done ?_
        refine go_cond rfl (fun c23 => ?_) (fun c23 => ?_)
        · skip
          refine go_seq ?_
          refine go_reg ?_
          refine run_aops hA 1 _ _ _ _ (by cbv) ?_
          refine ops_done ?_
          refine go_ret (closed (by cbv) ?_)
          refine congrArg PV.bool ?_
          subst hA
          have hb1' : b1 = true ↔ (1 ≤ k ∧ k ≤ 6) := by rw [hb1]; simp
          rw [Bool.eq_iff_iff, evOk_iff]
          have hnil := @tl_nil text
          simp only [std, tl_empty] at *
          grind
        · skip
          refine go_skip ?_
          refine go_seq ?_
          refine go_reg ?_
          refine run_aops hA 4 _ _ _ _ (by cbv) ?_
          refine ops_split 27 rfl (fun c24 => ?_) (fun c24 => ?_)
          · skip
            refine run_aops hA 5 _ _ _ _ (by cbv) ?_
            refine ops_split 32 rfl (fun c25 => ?_) (fun c25 => ?_)
            · skip
              refine run_aops hA 5 _ _ _ _ (by cbv) ?_
              refine ops_split 37 rfl (fun c26 => ?_) (fun c26 => ?_)
              · skip
                refine run_aops hA 6 _ _ _ _ (by cbv) ?_
                refine ops_done ?_
                refine go_ret (closed (by cbv) ?_)
                refine congrArg PV.bool ?_
                subst hA
                have hb1' : b1 = true ↔ (1 ≤ k ∧ k ≤ 6) := by rw [hb1]; simp
                rw [Bool.eq_iff_iff, evOk_iff]
                have hnil := @tl_nil text
                simp only [std, tl_empty] at *
                grind
              · skip
                refine run_aops hA 6 _ _ _ _ (by cbv) ?_
                refine ops_done ?_
                refine go_ret (closed (by cbv) ?_)
                refine congrArg PV.bool ?_
                subst hA
                have hb1' : b1 = true ↔ (1 ≤ k ∧ k ≤ 6) := by rw [hb1]; simp
                rw [Bool.eq_iff_iff, evOk_iff]
                have hnil := @tl_nil text
                simp only [std, tl_empty] at *
                grind
            · skip
              refine run_aops hA 11 _ _ _ _ (by cbv) ?_
              refine ops_done ?_
              refine go_ret (closed (by cbv) ?_)
              refine congrArg PV.bool ?_
              subst hA
              have hb1' : b1 = true ↔ (1 ≤ k ∧ k ≤ 6) := by rw [hb1]; simp
              rw [Bool.eq_iff_iff, evOk_iff]
              have hnil := @tl_nil text
              simp only [std, tl_empty] at *
              grind
          · skip
            refine run_aops hA 5 _ _ _ _ (by cbv) ?_
            refine ops_split 32 rfl (fun c27 => ?_) (fun c27 => ?_)
            · skip
              refine run_aops hA 5 _ _ _ _ (by cbv) ?_
              refine ops_split 37 rfl (fun c28 => ?_) (fun c28 => ?_)
              · skip
                refine run_aops hA 6 _ _ _ _ (by cbv) ?_
                refine ops_done ?_
                refine go_ret (closed (by cbv) ?_)
                refine congrArg PV.bool ?_
                subst hA
                have hb1' : b1 = true ↔ (1 ≤ k ∧ k ≤ 6) := by rw [hb1]; simp
                rw [Bool.eq_iff_iff, evOk_iff]
                have hnil := @tl_nil text
                simp only [std, tl_empty] at *
                grind
              · skip
                refine run_aops hA 6 _ _ _ _ (by cbv) ?_
                refine ops_done ?_
                refine go_ret (closed (by cbv) ?_)
                refine congrArg PV.bool ?_
                subst hA
                have hb1' : b1 = true ↔ (1 ≤ k ∧ k ≤ 6) := by rw [hb1]; simp
                rw [Bool.eq_iff_iff, evOk_iff]
                have hnil := @tl_nil text
                simp only [std, tl_empty] at *
                grind
            · skip
              refine run_aops hA 11 _ _ _ _ (by cbv) ?_
              refine ops_done ?_
              refine go_ret (closed (by cbv) ?_)
              refine congrArg PV.bool ?_
              subst hA
              have hb1' : b1 = true ↔ (1 ≤ k ∧ k ≤ 6) := by rw [hb1]; simp
              rw [Bool.eq_iff_iff, evOk_iff]
              have hnil := @tl_nil text
              simp only [std, tl_empty] at *
              grind
  · skip
    refine run_aops hA 5 _ _ _ _ (by cbv) ?_
    refine ops_split 12 rfl (fun c29 => ?_) (fun c29 => ?_)
    · skip
      refine run_aops hA 6 _ _ _ _ (by cbv) ?_
      refine ops_split 18 rfl (fun c30 => ?_) (fun c30 => ?_)
      · skip
        refine run_aops hA 5 _ _ _ _ (by cbv) ?_
        refine ops_done ?_
        refine go_cond rfl (fun c31 => ?_) (fun c31 => ?_)
        · skip
          refine go_seq ?_
          refine go_reg ?_
          refine run_aops hA 1 _ _ _ _ (by cbv) ?_
          refine ops_done ?_
          refine go_ret (closed (by cbv) ?_)
          refine congrArg PV.bool ?_
          subst hA
          have hb1' : b1 = true ↔ (1 ≤ k ∧ k ≤ 6) := by rw [hb1]; simp
          rw [Bool.eq_iff_iff, evOk_iff]
          have hnil := @tl_nil text
          simp only [std, tl_empty] at *
          grind
        · skip
          refine go_skip ?_
          refine go_seq ?_
          refine go_reg ?_
          refine run_aops hA 4 _ _ _ _ (by cbv) ?_
          refine ops_split 27 rfl (fun c32 => ?_) (fun c32 => ?_)
          · skip
            refine run_aops hA 5 _ _ _ _ (by cbv) ?_
            refine ops_split 32 rfl (fun c33 => ?_) (fun c33 => ?_)
            · skip
              refine run_aops hA 5 _ _ _ _ (by cbv) ?_
              refine ops_split 37 rfl (fun c34 => ?_) (fun c34 => ?_)
              · skip
                refine run_aops hA 6 _ _ _ _ (by cbv) ?_
                refine ops_done ?_
                refine go_ret (closed (by cbv) ?_)
                refine congrArg PV.bool ?_
                subst hA
                have hb1' : b1 = true ↔ (1 ≤ k ∧ k ≤ 6) := by rw [hb1]; simp
                rw [Bool.eq_iff_iff, evOk_iff]
                have hnil := @tl_nil text
                simp only [std, tl_empty] at *
                grind
              · skip
                refine run_aops hA 6 _ _ _ _ (by cbv) ?_
                refine ops_done ?_
                refine go_ret (closed (by cbv) ?_)
                refine congrArg PV.bool ?_
                subst hA
                have hb1' : b1 = true ↔ (1 ≤ k ∧ k ≤ 6) := by rw [hb1]; simp
                rw [Bool.eq_iff_iff, evOk_iff]
                have hnil := @tl_nil text
                simp only [std, tl_empty] at *
                grind
            · skip
              refine run_aops hA 11 _ _ _ _ (by cbv) ?_
              refine ops_done ?_
              refine go_ret (closed (by cbv) ?_)
              refine congrArg PV.bool ?_
              subst hA
              have hb1' : b1 = true ↔ (1 ≤ k ∧ k ≤ 6) := by rw [hb1]; simp
              rw [Bool.eq_iff_iff, evOk_iff]
              have hnil := @tl_nil text
              simp only [std, tl_empty] at *
              grind
          · skip
            refine run_aops hA 5 _ _ _ _ (by cbv) ?_
            refine ops_split 32 rfl (fun c35 => ?_) (fun c35 => ?_)
            · skip
              refine run_aops hA 5 _ _ _ _ (by cbv) ?_
              refine ops_split 37 rfl (fun c36 => ?_) (fun c36 => ?_)
              · skip
                refine run_aops hA 6 _ _ _ _ (by cbv) ?_
                refine ops_done ?_
                refine go_ret (closed (by cbv) ?_)
                refine congrArg PV.bool ?_
                subst hA
                have hb1' : b1 = true ↔ (1 ≤ k ∧ k ≤ 6) := by rw [hb1]; simp
                rw [Bool.eq_iff_iff, evOk_iff]
                have hnil := @tl_nil text
                simp only [std, tl_empty] at *
                grind
              · skip
                refine run_aops hA 6 _ _ _ _ (by cbv) ?_
                refine ops_done ?_
                refine go_ret (closed (by cbv) ?_)
                refine congrArg PV.bool ?_
                subst hA
                have hb1' : b1 = true ↔ (1 ≤ k ∧ k ≤ 6) := by rw [hb1]; simp
                rw [Bool.eq_iff_iff, evOk_iff]
                have hnil := @tl_nil text
                simp only [std, tl_empty] at *
                grind
            · skip
              refine run_aops hA 11 _ _ _ _ (by cbv) ?_
              refine ops_done ?_
              refine go_ret (closed (by cbv) ?_)
              refine congrArg PV.bool ?_
              subst hA
              have hb1' : b1 = true ↔ (1 ≤ k ∧ k ≤ 6) := by rw [hb1]; simp
              rw [Bool.eq_iff_iff, evOk_iff]
              have hnil := @tl_nil text
              simp only [std, tl_empty] at *
              grind
      · skip
        refine run_aops hA 5 _ _ _ _ (by cbv) ?_
        refine ops_done ?_
        refine go_cond rfl (fun c37 => ?_) (fun c37 => ?_)
        · skip
          refine go_seq ?_
          refine go_reg ?_
          refine run_aops hA 1 _ _ _ _ (by cbv) ?_
          refine ops_done ?_
          refine go_ret (closed (by cbv) ?_)
          refine congrArg PV.bool ?_
          subst hA
          have hb1' : b1 = true ↔ (1 ≤ k ∧ k ≤ 6) := by rw [hb1]; simp
          rw [Bool.eq_iff_iff, evOk_iff]
          have hnil := @tl_nil text
          simp only [std, tl_empty] at *
          grind
        · skip
          refine go_skip ?_
          refine go_seq ?_
          refine go_reg ?_
          refine run_aops hA 4 _ _ _ _ (by cbv) ?_
          refine ops_split 27 rfl (fun c38 => ?_) (fun c38 => ?_)
          · skip
            refine run_aops hA 5 _ _ _ _ (by cbv) ?_
            refine ops_split 32 rfl (fun c39 => ?_) (fun c39 => ?_)
            · skip
              refine run_aops hA 5 _ _ _ _ (by cbv) ?_
              refine ops_split 37 rfl (fun c40 => ?_) (fun c40 => ?_)
              · skip
                refine run_aops hA 6 _ _ _ _ (by cbv) ?_
                refine ops_done ?_
                refine go_ret (closed (by cbv) ?_)
                refine congrArg PV.bool ?_
                subst hA
                have hb1' : b1 = true ↔ (1 ≤ k ∧ k ≤ 6) := by rw [hb1]; simp
                rw [Bool.eq_iff_iff, evOk_iff]
                have hnil := @tl_nil text
                simp only [std, tl_empty] at *
                grind
              · skip
                refine run_aops hA 6 _ _ _ _ (by cbv) ?_
                refine ops_done ?_
                refine go_ret (closed (by cbv) ?_)
                refine congrArg PV.bool ?_
                subst hA
                have hb1' : b1 = true ↔ (1 ≤ k ∧ k ≤ 6) := by rw [hb1]; simp
                rw [Bool.eq_iff_iff, evOk_iff]
                have hnil := @tl_nil text
                simp only [std, tl_empty] at *
                grind
            · skip
              refine run_aops hA 11 _ _ _ _ (by cbv) ?_
              refine ops_done ?_
              refine go_ret (closed (by cbv) ?_)
              refine congrArg PV.bool ?_
              subst hA
              have hb1' : b1 = true ↔ (1 ≤ k ∧ k ≤ 6) := by rw [hb1]; simp
              rw [Bool.eq_iff_iff, evOk_iff]
              have hnil := @tl_nil text
              simp only [std, tl_empty] at *
              grind
          · skip
            refine run_aops hA 5 _ _ _ _ (by cbv) ?_
            refine ops_split 32 rfl (fun c41 => ?_) (fun c41 => ?_)
            · skip
              refine run_aops hA 5 _ _ _ _ (by cbv) ?_
              refine ops_split 37 rfl (fun c42 => ?_) (fun c42 => ?_)
              · skip
                refine run_aops hA 6 _ _ _ _ (by cbv) ?_
                refine ops_done ?_
                refine go_ret (closed (by cbv) ?_)
                refine congrArg PV.bool ?_
                subst hA
                have hb1' : b1 = true ↔ (1 ≤ k ∧ k ≤ 6) := by rw [hb1]; simp
                rw [Bool.eq_iff_iff, evOk_iff]
                have hnil := @tl_nil text
                simp only [std, tl_empty] at *
                grind
              · skip
                refine run_aops hA 6 _ _ _ _ (by cbv) ?_
                refine ops_done ?_
                refine go_ret (closed (by cbv) ?_)
                refine congrArg PV.bool ?_
                subst hA
                have hb1' : b1 = true ↔ (1 ≤ k ∧ k ≤ 6) := by rw [hb1]; simp
                rw [Bool.eq_iff_iff, evOk_iff]
                have hnil := @tl_nil text
                simp only [std, tl_empty] at *
                grind
            · skip
              refine run_aops hA 11 _ _ _ _ (by cbv) ?_
              refine ops_done ?_
              refine go_ret (closed (by cbv) ?_)
              refine congrArg PV.bool ?_
              subst hA
              have hb1' : b1 = true ↔ (1 ≤ k ∧ k ≤ 6) := by rw [hb1]; simp
              rw [Bool.eq_iff_iff, evOk_iff]
              have hnil := @tl_nil text
              simp only [std, tl_empty] at *
              grind
    · skip
      refine run_aops hA 6 _ _ _ _ (by cbv) ?_
      refine ops_split 18 rfl (fun c43 => ?_) (fun c43 => ?_)
      · skip
        refine run_aops hA 5 _ _ _ _ (by cbv) ?_
        refine ops_done ?_
        refine go_cond rfl (fun c44 => ?_) (fun c44 => ?_)
        · skip
          refine go_seq ?_
          refine go_reg ?_
          refine run_aops hA 1 _ _ _ _ (by cbv) ?_
          refine ops_done ?_
          refine go_ret (closed (by cbv) ?_)
          refine congrArg PV.bool ?_
          subst hA
          have hb1' : b1 = true ↔ (1 ≤ k ∧ k ≤ 6) := by rw [hb1]; simp
          rw [Bool.eq_iff_iff, evOk_iff]
          have hnil := @tl_nil text
          simp only [std, tl_empty] at *
          grind
        · skip
          refine go_skip ?_
          refine go_seq ?_
          refine go_reg ?_
          refine run_aops hA 4 _ _ _ _ (by cbv) ?_
          refine ops_split 27 rfl (fun c45 => ?_) (fun c45 => ?_)
          · skip
            refine run_aops hA 5 _ _ _ _ (by cbv) ?_
            refine ops_split 32 rfl (fun c46 => ?_) (fun c46 => ?_)
            · skip
              refine run_aops hA 5 _ _ _ _ (by cbv) ?_
              refine ops_split 37 rfl (fun c47 => ?_) (fun c47 => ?_)
              · skip
                refine run_aops hA 6 _ _ _ _ (by cbv) ?_
                refine ops_done ?_
                refine go_ret (closed (by cbv) ?_)
                refine congrArg PV.bool ?_
                subst hA
                have hb1' : b1 = true ↔ (1 ≤ k ∧ k ≤ 6) := by rw [hb1]; simp
                rw [Bool.eq_iff_iff, evOk_iff]
                have hnil := @tl_nil text
                simp only [std, tl_empty] at *
                grind
              · skip
                refine run_aops hA 6 _ _ _ _ (by cbv) ?_
                refine ops_done ?_
                refine go_ret (closed (by cbv) ?_)
                refine congrArg PV.bool ?_
                subst hA
                have hb1' : b1 = true ↔ (1 ≤ k ∧ k ≤ 6) := by rw [hb1]; simp
                rw [Bool.eq_iff_iff, evOk_iff]
                have hnil := @tl_nil text
                simp only [std, tl_empty] at *
                grind
            · skip
              refine run_aops hA 11 _ _ _ _ (by cbv) ?_
              refine ops_done ?_
              refine go_ret (closed (by cbv) ?_)
              refine congrArg PV.bool ?_
              subst hA
              have hb1' : b1 = true ↔ (1 ≤ k ∧ k ≤ 6) := by rw [hb1]; simp
              rw [Bool.eq_iff_iff, evOk_iff]
              have hnil := @tl_nil text
              simp only [std, tl_empty] at *
              grind
          · skip
            refine run_aops hA 5 _ _ _ _ (by cbv) ?_
            refine ops_split 32 rfl (fun c48 => ?_) (fun c48 => ?_)
            · skip
              refine run_aops hA 5 _ _ _ _ (by cbv) ?_
              refine ops_split 37 rfl (fun c49 => ?_) (fun c49 => ?_)
              · skip
                refine run_aops hA 6 _ _ _ _ (by cbv) ?_
                refine ops_done ?_
                refine go_ret (closed (by cbv) ?_)
                refine congrArg PV.bool ?_
                subst hA
                have hb1' : b1 = true ↔ (1 ≤ k ∧ k ≤ 6) := by rw [hb1]; simp
                rw [Bool.eq_iff_iff, evOk_iff]
                have hnil := @tl_nil text
                simp only [std, tl_empty] at *
                grind
              · skip
                refine run_aops hA 6 _ _ _ _ (by cbv) ?_
                refine ops_done ?_
                refine go_ret (closed (by cbv) ?_)
                refine congrArg PV.bool ?_
                subst hA
                have hb1' : b1 = true ↔ (1 ≤ k ∧ k ≤ 6) := by rw [hb1]; simp
                rw [Bool.eq_iff_iff, evOk_iff]
                have hnil := @tl_nil text
                simp only [std, tl_empty] at *
                grind
            · skip
              refine run_aops hA 11 _ _ _ _ (by cbv) ?_
              refine ops_done ?_
              refine go_ret (closed (by cbv) ?_)
              refine congrArg PV.bool ?_
              subst hA
              have hb1' : b1 = true ↔ (1 ≤ k ∧ k ≤ 6) := by rw [hb1]; simp
              rw [Bool.eq_iff_iff, evOk_iff]
              have hnil := @tl_nil text
              simp only [std, tl_empty] at *
              grind
      · skip
        refine run_aops hA 5 _ _ _ _ (by cbv) ?_
        refine ops_done ?_
        refine go_cond rfl (fun c50 => ?_) (fun c50 => ?_)
        · skip
          refine go_seq ?_
          refine go_reg ?_
          refine run_aops hA 1 _ _ _ _ (by cbv) ?_
          refine ops_done ?_
          refine go_ret (closed (by cbv) ?_)
          refine congrArg PV.bool ?_
          subst hA
          have hb1' : b1 = true ↔ (1 ≤ k ∧ k ≤ 6) := by rw [hb1]; simp
          rw [Bool.eq_iff_iff, evOk_iff]
          have hnil := @tl_nil text
          simp only [std, tl_empty] at *
          grind
        · skip
          refine go_skip ?_
          refine go_seq ?_
          refine go_reg ?_
          refine run_aops hA 4 _ _ _ _ (by cbv) ?_
          refine ops_split 27 rfl (fun c51 => ?_) (fun c51 => ?_)
          · skip
            refine run_aops hA 5 _ _ _ _ (by cbv) ?_
            refine ops_split 32 rfl (fun c52 => ?_) (fun c52 => ?_)
            · skip
              refine run_aops hA 5 _ _ _ _ (by cbv) ?_
              refine ops_split 37 rfl (fun c53 => ?_) (fun c53 => ?_)
              · skip
                refine run_aops hA 6 _ _ _ _ (by cbv) ?_
                refine ops_done ?_
                refine go_ret (closed (by cbv) ?_)
                refine congrArg PV.bool ?_
                subst hA
                have hb1' : b1 = true ↔ (1 ≤ k ∧ k ≤ 6) := by rw [hb1]; simp
                rw [Bool.eq_iff_iff, evOk_iff]
                have hnil := @tl_nil text
                simp only [std, tl_empty] at *
                grind
              · skip
                refine run_aops hA 6 _ _ _ _ (by cbv) ?_
                refine ops_done ?_
                refine go_ret (closed (by cbv) ?_)
                refine congrArg PV.bool ?_
                subst hA
                have hb1' : b1 = true ↔ (1 ≤ k ∧ k ≤ 6) := by rw [hb1]; simp
                rw [Bool.eq_iff_iff, evOk_iff]
                have hnil := @tl_nil text
                simp only [std, tl_empty] at *
                grind
            · skip
              refine run_aops hA 11 _ _ _ _ (by cbv) ?_
              refine ops_done ?_
              refine go_ret (closed (by cbv) ?_)
              refine congrArg PV.bool ?_
              subst hA
              have hb1' : b1 = true ↔ (1 ≤ k ∧ k ≤ 6) := by rw [hb1]; simp
              rw [Bool.eq_iff_iff, evOk_iff]
              have hnil := @tl_nil text
              simp only [std, tl_empty] at *
              grind
          · skip
            refine run_aops hA 5 _ _ _ _ (by cbv) ?_
            refine ops_split 32 rfl (fun c54 => ?_) (fun c54 => ?_)
            · skip
              refine run_aops hA 5 _ _ _ _ (by cbv) ?_
              refine ops_split 37 rfl (fun c55 => ?_) (fun c55 => ?_)
              · skip
                refine run_aops hA 6 _ _ _ _ (by cbv) ?_
                refine ops_done ?_
                refine go_ret (closed (by cbv) ?_)
                refine congrArg PV.bool ?_
                subst hA
                have hb1' : b1 = true ↔ (1 ≤ k ∧ k ≤ 6) := by rw [hb1]; simp
                rw [Bool.eq_iff_iff, evOk_iff]
                have hnil := @tl_nil text
                simp only [std, tl_empty] at *
                grind
              · skip
                refine run_aops hA 6 _ _ _ _ (by cbv) ?_
                refine ops_done ?_
                refine go_ret (closed (by cbv) ?_)
                refine congrArg PV.bool ?_
                subst hA
                have hb1' : b1 = true ↔ (1 ≤ k ∧ k ≤ 6) := by rw [hb1]; simp
                rw [Bool.eq_iff_iff, evOk_iff]
                have hnil := @tl_nil text
                simp only [std, tl_empty] at *
                grind
            · skip
              refine run_aops hA 11 _ _ _ _ (by cbv) ?_
              refine ops_done ?_
              refine go_ret (closed (by cbv) ?_)
              refine congrArg PV.bool ?_
              subst hA
              have hb1' : b1 = true ↔ (1 ≤ k ∧ k ≤ 6) := by rw [hb1]; simp
              rw [Bool.eq_iff_iff, evOk_iff]
              have hnil := @tl_nil text
              simp only [std, tl_empty] at *
              grind

theorem real10 (A : Alg) (hA : A = std) (k at' : Int) (text : ByteArray) (xs : List Int) (ra : List (List PV)) (hra : ra = encI xs) (hsz : xs.length ≤ 1048576) :
    Real Try.prog 10 [.agg [.int .i64 k, .int .i64 at', .str text, .sl 1 ra]] (.agg [.int .i64 k, .int .i64 at', .str text, .ow 1 ra]) := by
  have h37 : Real Try.prog 37 [.sl 1 ra] (.ow 1 ra) := hra ▸ real37 A hA xs hsz
  refine real tyOk Try.func10 (by kernel_rfl) (afun_of rfl ?_)
  refine go_seq ?_
  refine go_reg ?_
  refine run_aops hA 2 _ _ _ _ (by cbv) ?_
  refine ops_done ?_
  refine go_seq ?_
  refine go_reg ?_
  refine run_aops hA 1 _ _ _ _ (by cbv) ?_
  refine ops_done ?_
  refine go_seq ?_
  refine go_reg ?_
  refine run_aops hA 4 _ _ _ _ (by cbv) ?_
  refine ops_done ?_
  refine go_seq ?_
  refine go_reg ?_
  refine run_aops hA 4 _ _ _ _ (by cbv) ?_
  refine ops_done ?_
  refine go_seq ?_
  refine go_reg ?_
  refine run_aops hA 4 _ _ _ _ (by cbv) ?_
  refine ops_done ?_
  refine go_seq ?_
  refine go_reg ?_
  refine run_aops hA 2 _ _ _ _ (by cbv) ?_
  refine ops_callV rfl rfl (by cbv) (by cbv) h37 (.inr rfl) (by cbv) ?_
  refine run_aops hA 2 _ _ _ _ (by cbv) ?_
  refine ops_done ?_
  refine go_seq ?_
  refine go_reg ?_
  refine run_aops hA 2 _ _ _ _ (by cbv) ?_
  refine ops_done ?_
  refine go_ret (closed (by cbv) ?_)
  rfl

theorem real12 (A : Alg) (hA : A = std) (k at' k2 at2 : Int) (text text2 : ByteArray) (xs ys : List Int) (ra rb : List (List PV)) (hra : ra = encI xs) (hrb : rb = encI ys) (hsz : xs.length ≤ 9223372036854775806) (b : Bool)
    (hb : b = (k == k2 && at' == at2 && text.toList == text2.toList && xs == ys)) :
    Real Try.prog 12 [.agg [.int .i64 k, .int .i64 at', .str text, .sl 1 ra], .agg [.int .i64 k2, .int .i64 at2, .str text2, .sl 1 rb]] (.bool b) := by
  subst hb
  refine real tyOk Try.func12 (by kernel_rfl) (afun_of rfl ?_)
  refine go_seq ?_
  refine go_reg ?_
  refine run_aops hA 3 _ _ _ _ (by cbv) ?_
  refine ops_done ?_
  refine go_seq ?_
  refine go_seq ?_
  refine go_reg ?_
  refine run_aops hA 5 _ _ _ _ (by cbv) ?_
  refine ops_done ?_
  refine go_cond rfl (fun c1 => ?_) (fun c1 => ?_)
  · skip
    refine go_seq ?_
    refine go_reg ?_
    refine run_aops hA 1 _ _ _ _ (by cbv) ?_
    refine ops_done ?_
    refine go_ret (closed (by cbv) ?_)
    refine congrArg PV.bool ?_
    subst hA
    simp only [std] at *
    grind
  · skip
    refine go_skip ?_
    refine go_seq ?_
    refine go_seq ?_
    refine go_reg ?_
    refine run_aops hA 5 _ _ _ _ (by cbv) ?_
    refine ops_done ?_
    refine go_cond rfl (fun c2 => ?_) (fun c2 => ?_)
    · skip
      refine go_seq ?_
      refine go_reg ?_
      refine run_aops hA 1 _ _ _ _ (by cbv) ?_
      refine ops_done ?_
      refine go_ret (closed (by cbv) ?_)
      refine congrArg PV.bool ?_
      subst hA
      simp only [std] at *
      grind
    · skip
      refine go_skip ?_
      refine go_seq ?_
      refine go_seq ?_
      refine go_reg ?_
      refine run_aops hA 5 _ _ _ _ (by cbv) ?_
      refine ops_done ?_
      refine go_cond rfl (fun c3 => ?_) (fun c3 => ?_)
      · skip
        refine go_seq ?_
        refine go_reg ?_
        refine run_aops hA 1 _ _ _ _ (by cbv) ?_
        refine ops_done ?_
        refine go_ret (closed (by cbv) ?_)
        refine congrArg PV.bool ?_
        subst hA
        simp only [std] at *
        grind
      · skip
        refine go_skip ?_
        refine go_seq ?_
        refine go_seq ?_
        obtain ⟨b1, hb1⟩ : ∃ b1, b1 = (xs == ys) := ⟨_, rfl⟩
        have h39 : Real Try.prog 39 [.sl 1 ra, .sl 1 rb] (.bool b1) := by rw [hra, hrb]; exact real39 A hA xs ys b1 hb1 hsz
        refine go_reg ?_
        refine run_aops hA 4 _ _ _ _ (by cbv) ?_
        refine ops_callV rfl rfl (by cbv) (by cbv) h39 (.inl trivial) (by cbv) ?_
        refine run_aops hA 1 _ _ _ _ (by cbv) ?_
        refine ops_done ?_
        refine go_cond rfl (fun c4 => ?_) (fun c4 => ?_)
        · skip
          refine go_seq ?_
          refine go_reg ?_
          refine run_aops hA 1 _ _ _ _ (by cbv) ?_
          refine ops_done ?_
          refine go_ret (closed (by cbv) ?_)
          refine congrArg PV.bool ?_
          subst hA
          simp only [std] at *
          grind
        · skip
          refine go_skip ?_
          refine go_seq ?_
          refine go_reg ?_
          refine run_aops hA 1 _ _ _ _ (by cbv) ?_
          refine ops_done ?_
          refine go_ret (closed (by cbv) ?_)
          refine congrArg PV.bool ?_
          subst hA
          simp only [std] at *
          grind

theorem real3 (A : Alg) (hA : A = std) (k at' : Int) (text : ByteArray) (xs : List Int) (ra : List (List PV)) (hra : ra = encI xs) (ht : text.size ≤ 9223372036854775807) (hl : xs.length ≤ 9223372036854775807) :
    Real Try.prog 3 [.agg [.int .i64 k, .int .i64 at', .str text, .sl 1 ra]] (.bool true) := by
  refine real tyOk Try.func3 (by kernel_rfl) (afun_of rfl ?_)
  refine go_seq ?_
  refine go_reg ?_
  refine run_aops hA 2 _ _ _ _ (by cbv) ?_
  refine ops_done ?_
  refine go_seq ?_
  refine go_reg ?_
  refine run_aops hA 1 _ _ _ _ (by cbv) ?_
  refine ops_done ?_
  refine go_seq ?_
  obtain ⟨m, hm⟩ : ∃ m, m = szE 1048576 text.size ra.length := ⟨_, rfl⟩
  have hrl : ra.length = xs.length := by rw [hra]; simp [encI]
  refine go_reg ?_
  refine run_aops hA 2 _ _ _ _ (by cbv) ?_
  refine ops_callV rfl rfl (by cbv) (by cbv) (real8 A hA k at' text ra 1048576 m hm (by omega) (by omega) ht (by omega)) (.inl trivial) (by cbv) ?_
  refine run_aops hA 1 _ _ _ _ (by cbv) ?_
  refine ops_done ?_
  refine go_seq ?_
  refine go_seq ?_
  refine go_reg ?_
  refine run_aops hA 2 _ _ _ _ (by cbv) ?_
  refine ops_done ?_
  refine go_cond rfl (fun c1 => ?_) (fun c1 => ?_)
  · skip
    refine go_seq ?_
    refine go_reg ?_
    refine run_aops hA 1 _ _ _ _ (by cbv) ?_
    refine ops_done ?_
    refine go_ret (closed (by cbv) ?_)
    rfl
  · skip
    refine go_skip ?_
    refine go_seq ?_
    have hsz : xs.length ≤ 1048576 := by
      subst hA
      simp only [std, decide_eq_false_iff_not] at c1
      rw [hm, szE] at c1
      split at c1
      · omega
      · unfold lim at c1
        split at c1 <;> omega
    obtain ⟨b, hb⟩ : ∃ b, b = evOk k at' text ra.length := ⟨_, rfl⟩
    have her : eraseR ra = ra := by rw [hra]; exact erase_encI xs
    have h10 := real10 A hA k at' text xs ra hra hsz
    have h12 : Real Try.prog 12 [.agg [.int .i64 k, .int .i64 at', .str text, .sl 1 ra], .agg [.int .i64 k, .int .i64 at', .str text, .sl 1 ra]] (.bool true) := real12 A hA k at' k at' text text xs xs ra ra hra hra (by omega) true (by simp)
    refine go_reg ?_
    refine run_aops hA 1 _ _ _ _ (by cbv) ?_
    refine ops_callV rfl rfl (by cbv) (by cbv) h10 (.inr rfl) (by cbv) ?_
    refine ops_callV rfl rfl (by cbv) (Eq.trans (b := [.agg [.int .i64 k, .int .i64 at', .str text, .sl 1 (eraseR ra)]]) (by cbv) (by rw [her])) (real9 A hA k at' text ra b hb) (.inl trivial) (by cbv) ?_
    refine run_aops hA 1 _ _ _ _ (by cbv) ?_
    refine ops_done ?_
    refine go_seq ?_
    refine go_reg ?_
    refine run_aops hA 1 _ _ _ _ (by cbv) ?_
    refine ops_callV rfl rfl (by cbv) (by cbv) h10 (.inr rfl) (by cbv) ?_
    refine run_aops hA 2 _ _ _ _ (by cbv) ?_
    refine ops_done ?_
    refine go_seq ?_
    refine go_reg ?_
    refine run_aops hA 1 _ _ _ _ (by cbv) ?_
    refine ops_callV rfl rfl (by cbv) (Eq.trans (b := [.agg [.int .i64 k, .int .i64 at', .str text, .sl 1 (eraseR ra)]]) (by cbv) (by rw [her])) (real11 A hA k at' text ra b hb) (.inl trivial) (by cbv) ?_
    refine run_aops hA 1 _ _ _ _ (by cbv) ?_
    refine ops_done ?_
    refine go_seq ?_
    refine go_seq ?_
    refine go_reg ?_
    refine run_aops hA 3 _ _ _ _ (by cbv) ?_
    refine ops_done ?_
    refine go_cond rfl (fun c2 => ?_) (fun c2 => ?_)
    · skip
      refine go_seq ?_
      refine go_reg ?_
      refine run_aops hA 1 _ _ _ _ (by cbv) ?_
      refine ops_done ?_
      refine go_ret (closed (by cbv) ?_)
      subst hA
      simp [std] at c2
    · skip
      refine go_skip ?_
      refine go_seq ?_
      refine go_seq ?_
      refine go_draw (by cbv) ?_
      refine run_dops hA 2 _ _ _ _ (by cbv) ?_
      refine dops_callV rfl rfl (by cbv) (by cbv) h10 (.inr rfl) ?_
      refine dops_callV rfl rfl (by cbv) (Eq.trans (b := [.agg [.int .i64 k, .int .i64 at', .str text, .sl 1 (eraseR ra)], .agg [.int .i64 k, .int .i64 at', .str text, .sl 1 (eraseR ra)]]) (by cbv) (by rw [her])) h12 (.inl trivial) ?_
      refine run_dops hA 1 _ _ _ _ (by cbv) ?_
      refine dops_done ?_
      refine go_cond rfl (fun c3 => ?_) (fun c3 => ?_)
      · skip
        refine go_seq ?_
        refine go_reg ?_
        refine run_aops hA 1 _ _ _ _ (by cbv) ?_
        refine ops_done ?_
        refine go_ret (closed (by cbv) ?_)
        subst hA
        simp [std] at c3
      · skip
        refine go_skip ?_
        refine go_seq ?_
        refine go_reg ?_
        refine run_aops hA 1 _ _ _ _ (by cbv) ?_
        refine ops_done ?_
        refine go_ret (closed (by cbv) ?_)
        rfl
end Go.Av

