/- The law of UidsRight. -/
import Derived.Test.YtidedopnpjgkjaaW9
namespace Go.Av
open Go Go.Proofs
set_option maxRecDepth 100000
set_option maxHeartbeats 4000000
set_option linter.unusedVariables false
set_option linter.unusedSimpArgs false

theorem real5 (A : Alg) (hA : A = std) (x : State) (hok : ∀ k ∈ szBoxS x.boxes, k ≤ 9223372036854775807) : Real Try.prog 5 [.agg [.sl 5 x.rows]] (.bool true) := by
  refine real tyOk Try.func5 (by kernel_rfl) (afun_of rfl ?_)
  refine go_seq ?_
  refine go_reg ?_
  refine run_aops hA 2 _ _ _ _ (by cbv) ?_
  refine ops_done ?_
  refine go_seq ?_
  refine go_reg ?_
  refine run_aops hA 1 _ _ _ _ (by cbv) ?_
  refine ops_done ?_
  refine go_seq ?_
  obtain ⟨m, hm⟩ : ∃ m, m = chain 1048576 (szBoxS x.boxes) := ⟨_, rfl⟩
  have hsz0 := real20 A hA x 1048576 m hm (by omega) (by omega) hok
  refine go_reg ?_
  refine run_aops hA 2 _ _ _ _ (by cbv) ?_
  refine ops_callV rfl rfl (by cbv) (by cbv) hsz0 (.inl trivial) (by cbv) ?_
  refine run_aops hA 1 _ _ _ _ (by cbv) ?_
  refine ops_done ?_
  refine go_seq ?_
  refine go_seq ?_
  refine go_reg ?_
  refine run_aops hA 2 _ _ _ _ (by cbv) ?_
  refine ops_done ?_
  refine go_cond rfl (fun c1 => ?_) (fun c1 => ?_)
  · skip
    refine go_seq ?_
    refine go_reg ?_
    refine run_aops hA 1 _ _ _ _ (by cbv) ?_
    refine ops_done ?_
    refine go_ret (closed (by cbv) ?_)
    rfl
  · skip
    refine go_skip ?_
    refine go_seq ?_
    have hall : ∀ k ∈ szBoxS x.boxes, (k : Int) ≤ 1048576 := by
      subst hA
      simp only [std, decide_eq_false_iff_not] at c1
      exact chain_all _ _ (by rw [← hm]; omega)
    have hsz : x.boxes.length ≤ 1048576 := by have := hall x.boxes.length (by simp [szBoxS]); omega
    have hms : ∀ b ∈ x.boxes, b.mails.length ≤ 1048576 := fun b hb => by
      have := hall b.mails.length (by
        rw [szBoxS]
        exact List.mem_cons_of_mem _ (List.mem_flatMap.2 ⟨b, hb, by simp [szBox, szMailS]⟩))
      omega
    obtain ⟨b, hb⟩ : ∃ b, b = x.boxes.all okBox := ⟨_, rfl⟩
    have hto := real22 A hA x hsz hms
    have hq := real24 A hA x hsz hms
    have h21 := real21 A hA x hsz hms b hb
    have h23 := real23 A hA x hsz hms b hb
    have her : eraseR x.rowsO = x.rows := by rw [x.ho, x.hr]; exact erase_boxes _
    refine go_reg ?_
    refine run_aops hA 1 _ _ _ _ (by cbv) ?_
    refine ops_callV rfl rfl (by cbv) (by cbv) hto (.inr rfl) (by cbv) ?_
    refine ops_callV rfl rfl (by cbv) (Eq.trans (b := [.agg [.sl 5 (eraseR x.rowsO)]]) (by cbv) (by rw [her])) h21 (.inl trivial) (by cbv) ?_
    refine run_aops hA 1 _ _ _ _ (by cbv) ?_
    refine ops_done ?_
    refine go_seq ?_
    refine go_reg ?_
    refine run_aops hA 1 _ _ _ _ (by cbv) ?_
    refine ops_callV rfl rfl (by cbv) (by cbv) hto (.inr rfl) (by cbv) ?_
    refine run_aops hA 2 _ _ _ _ (by cbv) ?_
    refine ops_done ?_
    refine go_seq ?_
    refine go_reg ?_
    refine run_aops hA 1 _ _ _ _ (by cbv) ?_
    refine ops_callV rfl rfl (by cbv) (Eq.trans (b := [.agg [.sl 5 (eraseR x.rowsO)]]) (by cbv) (by rw [her])) h23 (.inl trivial) (by cbv) ?_
    refine run_aops hA 1 _ _ _ _ (by cbv) ?_
    refine ops_done ?_
    refine go_seq ?_
    refine go_seq ?_
    refine go_reg ?_
    refine run_aops hA 3 _ _ _ _ (by cbv) ?_
    refine ops_done ?_
    refine go_cond rfl (fun c2 => ?_) (fun c2 => ?_)
    · skip
      refine go_seq ?_
      refine go_reg ?_
      refine run_aops hA 1 _ _ _ _ (by cbv) ?_
      refine ops_done ?_
      refine go_ret (closed (by cbv) ?_)
      subst hA
      simp [std] at c2
    · skip
      refine go_skip ?_
      refine go_seq ?_
      refine go_seq ?_
      refine go_draw (by cbv) ?_
      refine run_dops hA 2 _ _ _ _ (by cbv) ?_
      refine dops_callV rfl rfl (by cbv) (by cbv) hto (.inr rfl) ?_
      refine dops_callV rfl rfl (by cbv) (Eq.trans (b := [.agg [.sl 5 (eraseR x.rowsO)], .agg [.sl 5 (eraseR x.rowsO)]]) (by cbv) (by rw [her])) hq (.inl trivial) ?_
      refine run_dops hA 1 _ _ _ _ (by cbv) ?_
      refine dops_done ?_
      refine go_cond rfl (fun c3 => ?_) (fun c3 => ?_)
      · skip
        refine go_seq ?_
        refine go_reg ?_
        refine run_aops hA 1 _ _ _ _ (by cbv) ?_
        refine ops_done ?_
        refine go_ret (closed (by cbv) ?_)
        subst hA
        simp [std] at c3
      · skip
        refine go_skip ?_
        refine go_seq ?_
        refine go_reg ?_
        refine run_aops hA 1 _ _ _ _ (by cbv) ?_
        refine ops_done ?_
        refine go_ret (closed (by cbv) ?_)
        rfl
end Go.Av

