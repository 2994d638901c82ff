/- Walks: events. -/
import Derived.Test.YtidedopnpjgkjaaW1
namespace Go.Av
open Go Go.Proofs
set_option maxRecDepth 100000
set_option maxHeartbeats 4000000
set_option linter.unusedVariables false
set_option linter.unusedSimpArgs false

def szE (n : Int) (ts rl : Nat) : Int := if n - ts < 0 then -1 else lim (n - ts) rl

theorem real8 (A : Alg) (hA : A = std) (k at' : Int) (text : ByteArray) (ra : List (List PV)) (n m : Int) (hm : m = szE n text.size ra.length) (h1 : -1 ≤ n) (h2 : n ≤ 1048576) (ht : text.size ≤ 9223372036854775807) (hr : ra.length ≤ 9223372036854775807) :
    Real Try.prog 8 [.agg [.int .i64 k, .int .i64 at', .str text, .sl 1 ra], .int .i64 n] (.int .i64 m) := by
  subst hm
  refine real tyOk Try.func8 (by kernel_rfl) (afun_of rfl ?_)
  refine go_seq ?_
  refine go_reg ?_
  refine run_aops hA 2 _ _ _ _ (by cbv) ?_
  refine ops_done ?_
  refine go_seq ?_
  refine go_reg ?_
  refine run_aops hA 6 _ _ _ _ (by cbv) ?_
  refine ops_done ?_
  refine go_seq ?_
  refine go_seq ?_
  refine go_reg ?_
  refine run_aops hA 2 _ _ _ _ (by cbv) ?_
  refine ops_done ?_
  refine go_cond rfl (fun c1 => ?_) (fun c1 => ?_)
  · skip
    refine go_seq ?_
    refine go_reg ?_
    refine run_aops hA 1 _ _ _ _ (by cbv) ?_
    refine ops_done ?_
    refine go_ret (closed (by cbv) ?_)
    refine congrArg (PV.int .i64) ?_
    subst hA
    simp only [std, decide_eq_true_eq] at c1
    rw [wrap_id (by omega) (by omega)] at c1
    rw [szE, if_pos c1]
  · skip
    refine go_skip ?_
    refine go_seq ?_
    have hw : A.num .sub .i64 n (A.slen text) = n - text.size := by
      subst hA
      simp only [std]
      exact wrap_id (by omega) (by omega)
    have hge : ¬ n - text.size < 0 := by
      subst hA
      simp only [std, decide_eq_false_iff_not] at c1 hw
      rw [hw] at c1
      exact c1
    obtain ⟨m', hm'⟩ : ∃ m', m' = lim (A.num .sub .i64 n (A.slen text)) ra.length := ⟨_, rfl⟩
    refine go_reg ?_
    refine run_aops hA 3 _ _ _ _ (by cbv) ?_
    refine ops_callV rfl rfl (by cbv) (by cbv) (real35 A hA ra _ m' hm' (by rw [hw]; omega) (by rw [hw]; omega) hr) (.inl trivial) (by cbv) ?_
    refine run_aops hA 1 _ _ _ _ (by cbv) ?_
    refine ops_done ?_
    refine go_seq ?_
    refine go_seq ?_
    refine go_reg ?_
    refine run_aops hA 2 _ _ _ _ (by cbv) ?_
    refine ops_done ?_
    refine go_cond rfl (fun c2 => ?_) (fun c2 => ?_)
    · skip
      refine go_seq ?_
      refine go_reg ?_
      refine run_aops hA 1 _ _ _ _ (by cbv) ?_
      refine ops_done ?_
      refine go_ret (closed (by cbv) ?_)
      refine congrArg (PV.int .i64) ?_
      rw [szE, if_neg hge, ← hw, ← hm']
      subst hA
      simp only [std, decide_eq_true_eq] at c2
      have : m' = -1 ∨ 0 ≤ m' := by
        rw [hm']
        unfold lim
        split
        · exact .inl rfl
        · right; omega
      omega
    · skip
      refine go_skip ?_
      refine go_seq ?_
      refine go_reg ?_
      refine run_aops hA 2 _ _ _ _ (by cbv) ?_
      refine ops_done ?_
      refine go_ret (closed (by cbv) ?_)
      refine congrArg (PV.int .i64) ?_
      rw [szE, if_neg hge, ← hw, ← hm']

def evOk (k at' : Int) (text : ByteArray) (n : Nat) : Bool := decide (1 ≤ k) && decide (k ≤ 6) && decide (0 ≤ at') && decide (text.size ≤ 120) && (decide (k = 2) || text.toList == []) && decide (n ≤ 20) && (decide (k = 6) || decide (n = 0))

theorem evOk_iff {k at' : Int} {text : ByteArray} {n : Nat} : evOk k at' text n = true ↔ 1 ≤ k ∧ k ≤ 6 ∧ 0 ≤ at' ∧ text.size ≤ 120 ∧ (k = 2 ∨ text.toList = []) ∧ n ≤ 20 ∧ (k = 6 ∨ n = 0) := by
  simp only [evOk, Bool.and_eq_true, Bool.or_eq_true, decide_eq_true_eq, beq_iff_eq]
  constructor
  · rintro ⟨⟨⟨⟨⟨⟨h1, h2⟩, h3⟩, h4⟩, h5⟩, h6⟩, h7⟩; exact ⟨h1, h2, h3, h4, h5, h6, h7⟩
  · rintro ⟨h1, h2, h3, h4, h5, h6, h7⟩; exact ⟨⟨⟨⟨⟨⟨h1, h2⟩, h3⟩, h4⟩, h5⟩, h6⟩, h7⟩

theorem real9 (A : Alg) (hA : A = std) (k at' : Int) (text : ByteArray) (ra : List (List PV)) (b : Bool) (hb : b = evOk k at' text ra.length) :
    Real Try.prog 9 [.agg [.int .i64 k, .int .i64 at', .str text, .sl 1 ra]] (.bool b) := by
  subst hb
  refine real tyOk Try.func9 (by kernel_rfl) (afun_of rfl ?_)
  refine go_seq ?_
  refine go_reg ?_
  refine run_aops hA 2 _ _ _ _ (by cbv) ?_
  refine ops_done ?_
  refine go_seq ?_
  refine go_seq ?_
  obtain ⟨b1, hb1⟩ : ∃ b1, b1 = (decide (1 ≤ k) && decide (k ≤ 6)) := ⟨_, rfl⟩
  refine go_reg ?_
  refine run_aops hA 2 _ _ _ _ (by cbv) ?_
  refine ops_callV rfl rfl (by cbv) (by cbv) (real36 A hA k 1 6 b1 hb1) (.inl trivial) (by cbv) ?_
  refine run_aops hA 2 _ _ _ _ (by cbv) ?_
  refine ops_split 7 rfl (fun c1 => ?_) (fun c1 => ?_)
  · skip
    refine run_aops hA 4 _ _ _ _ (by cbv) ?_
    refine ops_done ?_
    refine go_cond rfl (fun c2 => ?_) (fun c2 => ?_)
    · skip
      refine go_seq ?_
      refine go_reg ?_
      refine run_aops hA 1 _ _ _ _ (by cbv) ?_
      refine ops_done ?_
      refine go_ret (closed (by cbv) ?_)
      refine congrArg PV.bool ?_
      subst hA
      have hb1' : b1 = true ↔ (1 ≤ k ∧ k ≤ 6) := by rw [hb1]; simp
      rw [Bool.eq_iff_iff, evOk_iff]
      have hnil := @tl_nil text
      simp only [std, tl_empty] at *
      grind
    · skip
      refine go_skip ?_
      refine go_seq ?_
      refine go_seq ?_
      refine go_reg ?_
      refine run_aops hA 4 _ _ _ _ (by cbv) ?_
      refine ops_split 15 rfl (fun c3 => ?_) (fun c3 => ?_)
      · skip
        refine run_aops hA 6 _ _ _ _ (by cbv) ?_
        refine ops_split 21 rfl (fun c4 => ?_) (fun c4 => ?_)
        · skip
          refine run_aops hA 9 _ _ _ _ (by cbv) ?_
          refine ops_done ?_
          refine go_cond rfl (fun c5 => ?_) (fun c5 => ?_)
          · skip
            refine go_seq ?_
            refine go_reg ?_
            refine run_aops hA 1 _ _ _ _ (by cbv) ?_
            refine ops_done ?_
            refine go_ret (closed (by cbv) ?_)
            refine congrArg PV.bool ?_
            subst hA
            have hb1' : b1 = true ↔ (1 ≤ k ∧ k ≤ 6) := by rw [hb1]; simp
            rw [Bool.eq_iff_iff, evOk_iff]
            have hnil := @tl_nil text
            simp only [std, tl_empty] at *
            grind
          · skip
            refine go_skip ?_
            refine go_seq ?_
            refine go_reg ?_
            refine run_aops hA 5 _ _ _ _ (by cbv) ?_
            refine ops_split 35 rfl (fun c6 => ?_) (fun c6 => ?_)
            · skip
              refine run_aops hA 4 _ _ _ _ (by cbv) ?_
              refine ops_split 39 rfl (fun c7 => ?_) (fun c7 => ?_)
              · skip
                refine run_aops hA 7 _ _ _ _ (by cbv) ?_
                refine ops_done ?_
                refine go_ret (closed (by cbv) ?_)
                refine congrArg PV.bool ?_
                subst hA
                have hb1' : b1 = true ↔ (1 ≤ k ∧ k ≤ 6) := by rw [hb1]; simp
                rw [Bool.eq_iff_iff, evOk_iff]
                have hnil := @tl_nil text
                simp only [std, tl_empty] at *
                grind
              · skip
                refine run_aops hA 7 _ _ _ _ (by cbv) ?_
                refine ops_done ?_
                refine go_ret (closed (by cbv) ?_)
                refine congrArg PV.bool ?_
                subst hA
                have hb1' : b1 = true ↔ (1 ≤ k ∧ k ≤ 6) := by rw [hb1]; simp
                rw [Bool.eq_iff_iff, evOk_iff]
                have hnil := @tl_nil text
                simp only [std, tl_empty] at *
                grind
            · skip
              refine run_aops hA 11 _ _ _ _ (by cbv) ?_
              refine ops_done ?_
              refine go_ret (closed (by cbv) ?_)
              refine congrArg PV.bool ?_
              subst hA
              have hb1' : b1 = true ↔ (1 ≤ k ∧ k ≤ 6) := by rw [hb1]; simp
              rw [Bool.eq_iff_iff, evOk_iff]
              have hnil := @tl_nil text
              simp only [std, tl_empty] at *
              grind
        · skip
          refine run_aops hA 4 _ _ _ _ (by cbv) ?_
          refine ops_split 25 rfl (fun c8 => ?_) (fun c8 => ?_)
          · skip
            refine run_aops hA 5 _ _ _ _ (by cbv) ?_
            refine ops_done ?_
            refine go_cond rfl (fun c9 => ?_) (fun c9 => ?_)
            · skip
              refine go_seq ?_
              refine go_reg ?_
              refine run_aops hA 1 _ _ _ _ (by cbv) ?_
              refine ops_done ?_
              refine go_ret (closed (by cbv) ?_)
              refine congrArg PV.bool ?_
              subst hA
              have hb1' : b1 = true ↔ (1 ≤ k ∧ k ≤ 6) := by rw [hb1]; simp
              rw [Bool.eq_iff_iff, evOk_iff]
              have hnil := @tl_nil text
              simp only [std, tl_empty] at *
              grind
            · skip
              refine go_skip ?_
              refine go_seq ?_
              refine go_reg ?_
              refine run_aops hA 5 _ _ _ _ (by cbv) ?_
              refine ops_split 35 rfl (fun c10 => ?_) (fun c10 => ?_)
              · skip
                refine run_aops hA 4 _ _ _ _ (by cbv) ?_
                refine ops_split 39 rfl (fun c11 => ?_) (fun c11 => ?_)
                · skip
                  refine run_aops hA 7 _ _ _ _ (by cbv) ?_
                  refine ops_done ?_
                  refine go_ret (closed (by cbv) ?_)
                  refine congrArg PV.bool ?_
                  subst hA
                  have hb1' : b1 = true ↔ (1 ≤ k ∧ k ≤ 6) := by rw [hb1]; simp
                  rw [Bool.eq_iff_iff, evOk_iff]
                  have hnil := @tl_nil text
                  simp only [std, tl_empty] at *
                  grind
                · skip
                  refine run_aops hA 7 _ _ _ _ (by cbv) ?_
                  refine ops_done ?_
                  refine go_ret (closed (by cbv) ?_)
                  refine congrArg PV.bool ?_
                  subst hA
                  have hb1' : b1 = true ↔ (1 ≤ k ∧ k ≤ 6) := by rw [hb1]; simp
                  rw [Bool.eq_iff_iff, evOk_iff]
                  have hnil := @tl_nil text
                  simp only [std, tl_empty] at *
                  grind
              · skip
                refine run_aops hA 11 _ _ _ _ (by cbv) ?_
                refine ops_done ?_
                refine go_ret (closed (by cbv) ?_)
                refine congrArg PV.bool ?_
                subst hA
                have hb1' : b1 = true ↔ (1 ≤ k ∧ k ≤ 6) := by rw [hb1]; simp
                rw [Bool.eq_iff_iff, evOk_iff]
                have hnil := @tl_nil text
                simp only [std, tl_empty] at *
                grind
          · skip
            refine run_aops hA 5 _ _ _ _ (by cbv) ?_
            refine ops_done ?_
            refine go_cond rfl (fun c12 => ?_) (fun c12 => ?_)
            · skip
              refine go_seq ?_
              refine go_reg ?_
              refine run_aops hA 1 _ _ _ _ (by cbv) ?_
              refine ops_done ?_
              refine go_ret (closed (by cbv) ?_)
              refine congrArg PV.bool ?_
              subst hA
              have hb1' : b1 = true ↔ (1 ≤ k ∧ k ≤ 6) := by rw [hb1]; simp
              rw [Bool.eq_iff_iff, evOk_iff]
              have hnil := @tl_nil text
              simp only [std, tl_empty] at *
              grind
            · skip
              refine go_skip ?_
              refine go_seq ?_
              refine go_reg ?_
              refine run_aops hA 5 _ _ _ _ (by cbv) ?_
              refine ops_split 35 rfl (fun c13 => ?_) (fun c13 => ?_)
              · skip
                refine run_aops hA 4 _ _ _ _ (by cbv) ?_
                refine ops_split 39 rfl (fun c14 => ?_) (fun c14 => ?_)
                · skip
                  refine run_aops hA 7 _ _ _ _ (by cbv) ?_
                  refine ops_done ?_
                  refine go_ret (closed (by cbv) ?_)
                  refine congrArg PV.bool ?_
                  subst hA
                  have hb1' : b1 = true ↔ (1 ≤ k ∧ k ≤ 6) := by rw [hb1]; simp
                  rw [Bool.eq_iff_iff, evOk_iff]
                  have hnil := @tl_nil text
                  simp only [std, tl_empty] at *
                  grind
                · skip
                  refine run_aops hA 7 _ _ _ _ (by cbv) ?_
                  refine ops_done ?_
                  refine go_ret (closed (by cbv) ?_)
                  refine congrArg PV.bool ?_
                  subst hA
                  have hb1' : b1 = true ↔ (1 ≤ k ∧ k ≤ 6) := by rw [hb1]; simp
                  rw [Bool.eq_iff_iff, evOk_iff]
                  have hnil := @tl_nil text
                  simp only [std, tl_empty] at *
                  grind
              · skip
                refine run_aops hA 11 _ _ _ _ (by cbv) ?_
                refine ops_done ?_
                refine go_ret (closed (by cbv) ?_)
                refine congrArg PV.bool ?_
                subst hA
                have hb1' : b1 = true ↔ (1 ≤ k ∧ k ≤ 6) := by rw [hb1]; simp
                rw [Bool.eq_iff_iff, evOk_iff]
                have hnil := @tl_nil text
                simp only [std, tl_empty] at *
                grind
      · skip
        refine run_aops hA 6 _ _ _ _ (by cbv) ?_
        refine ops_split 21 rfl (fun c15 => ?_) (fun c15 => ?_)
        · skip
          refine run_aops hA 9 _ _ _ _ (by cbv) ?_
          refine ops_done ?_
          refine go_cond rfl (fun c16 => ?_) (fun c16 => ?_)
          · skip
            refine go_seq ?_
            refine go_reg ?_
            refine run_aops hA 1 _ _ _ _ (by cbv) ?_
            refine ops_done ?_
            refine go_ret (closed (by cbv) ?_)
            refine congrArg PV.bool ?_
            subst hA
            have hb1' : b1 = true ↔ (1 ≤ k ∧ k ≤ 6) := by rw [hb1]; simp
            rw [Bool.eq_iff_iff, evOk_iff]
            have hnil := @tl_nil text
            simp only [std, tl_empty] at *
            grind
          · skip
            refine go_skip ?_
            refine go_seq ?_
            refine go_reg ?_
            refine run_aops hA 5 _ _ _ _ (by cbv) ?_
            refine ops_split 35 rfl (fun c17 => ?_) (fun c17 => ?_)
            · skip
              refine run_aops hA 4 _ _ _ _ (by cbv) ?_
              refine ops_split 39 rfl (fun c18 => ?_) (fun c18 => ?_)
              · skip
                refine run_aops hA 7 _ _ _ _ (by cbv) ?_
                refine ops_done ?_
                refine go_ret (closed (by cbv) ?_)
                refine congrArg PV.bool ?_
                subst hA
                have hb1' : b1 = true ↔ (1 ≤ k ∧ k ≤ 6) := by rw [hb1]; simp
                rw [Bool.eq_iff_iff, evOk_iff]
                have hnil := @tl_nil text
                simp only [std, tl_empty] at *
                grind
              · skip
                refine run_aops hA 7 _ _ _ _ (by cbv) ?_
                refine ops_done ?_
                refine go_ret (closed (by cbv) ?_)
                refine congrArg PV.bool ?_
                subst hA
                have hb1' : b1 = true ↔ (1 ≤ k ∧ k ≤ 6) := by rw [hb1]; simp
                rw [Bool.eq_iff_iff, evOk_iff]
                have hnil := @tl_nil text
                simp only [std, tl_empty] at *
                grind
            · skip
              refine run_aops hA 11 _ _ _ _ (by cbv) ?_
              refine ops_done ?_
              refine go_ret (closed (by cbv) ?_)
              refine congrArg PV.bool ?_
              subst hA
              have hb1' : b1 = true ↔ (1 ≤ k ∧ k ≤ 6) := by rw [hb1]; simp
              rw [Bool.eq_iff_iff, evOk_iff]
              have hnil := @tl_nil text
              simp only [std, tl_empty] at *
              grind
        · skip
          refine run_aops hA 4 _ _ _ _ (by cbv) ?_
          refine ops_split 25 rfl (fun c19 => ?_) (fun c19 => ?_)
          · skip
            refine run_aops hA 5 _ _ _ _ (by cbv) ?_
            refine ops_done ?_
            refine go_cond rfl (fun c20 => ?_) (fun c20 => ?_)
            · skip
              refine go_seq ?_
              refine go_reg ?_
              refine run_aops hA 1 _ _ _ _ (by cbv) ?_
              refine ops_done ?_
              refine go_ret (closed (by cbv) ?_)
              refine congrArg PV.bool ?_
              subst hA
              have hb1' : b1 = true ↔ (1 ≤ k ∧ k ≤ 6) := by rw [hb1]; simp
              rw [Bool.eq_iff_iff, evOk_iff]
              have hnil := @tl_nil text
              simp only [std, tl_empty] at *
              grind
            · skip
              refine go_skip ?_
              refine go_seq ?_
              refine go_reg ?_
              refine run_aops hA 5 _ _ _ _ (by cbv) ?_
              refine ops_split 35 rfl (fun c21 => ?_) (fun c21 => ?_)
              · skip
                refine run_aops hA 4 _ _ _ _ (by cbv) ?_
                refine ops_split 39 rfl (fun c22 => ?_) (fun c22 => ?_)
                · skip
                  refine run_aops hA 7 _ _ _ _ (by cbv) ?_
                  refine ops_done ?_
                  refine go_ret (closed (by cbv) ?_)
                  refine congrArg PV.bool ?_
                  subst hA
                  have hb1' : b1 = true ↔ (1 ≤ k ∧ k ≤ 6) := by rw [hb1]; simp
                  rw [Bool.eq_iff_iff, evOk_iff]
                  have hnil := @tl_nil text
                  simp only [std, tl_empty] at *
                  grind
                · skip
                  refine run_aops hA 7 _ _ _ _ (by cbv) ?_
                  refine ops_done ?_
                  refine go_ret (closed (by cbv) ?_)
                  refine congrArg PV.bool ?_
                  subst hA
                  have hb1' : b1 = true ↔ (1 ≤ k ∧ k ≤ 6) := by rw [hb1]; simp
                  rw [Bool.eq_iff_iff, evOk_iff]
                  have hnil := @tl_nil text
                  simp only [std, tl_empty] at *
                  grind
              · skip
                refine run_aops hA 11 _ _ _ _ (by cbv) ?_
                refine ops_done ?_
                refine go_ret (closed (by cbv) ?_)
                refine congrArg PV.bool ?_
                subst hA
                have hb1' : b1 = true ↔ (1 ≤ k ∧ k ≤ 6) := by rw [hb1]; simp
                rw [Bool.eq_iff_iff, evOk_iff]
                have hnil := @tl_nil text
                simp only [std, tl_empty] at *
                grind
          · skip
            refine run_aops hA 5 _ _ _ _ (by cbv) ?_
            refine ops_done ?_
            refine go_cond rfl (fun c23 => ?_) (fun c23 => ?_)
            · skip
              refine go_seq ?_
              refine go_reg ?_
              refine run_aops hA 1 _ _ _ _ (by cbv) ?_
              refine ops_done ?_
              refine go_ret (closed (by cbv) ?_)
              refine congrArg PV.bool ?_
              subst hA
              have hb1' : b1 = true ↔ (1 ≤ k ∧ k ≤ 6) := by rw [hb1]; simp
              rw [Bool.eq_iff_iff, evOk_iff]
              have hnil := @tl_nil text
              simp only [std, tl_empty] at *
              grind
            · skip
              refine go_skip ?_
              refine go_seq ?_
              refine go_reg ?_
              refine run_aops hA 5 _ _ _ _ (by cbv) ?_
              refine ops_split 35 rfl (fun c24 => ?_) (fun c24 => ?_)
              · skip
                refine run_aops hA 4 _ _ _ _ (by cbv) ?_
                refine ops_split 39 rfl (fun c25 => ?_) (fun c25 => ?_)
                · skip
                  refine run_aops hA 7 _ _ _ _ (by cbv) ?_
                  refine ops_done ?_
                  refine go_ret (closed (by cbv) ?_)
                  refine congrArg PV.bool ?_
                  subst hA
                  have hb1' : b1 = true ↔ (1 ≤ k ∧ k ≤ 6) := by rw [hb1]; simp
                  rw [Bool.eq_iff_iff, evOk_iff]
                  have hnil := @tl_nil text
                  simp only [std, tl_empty] at *
                  grind
                · skip
                  refine run_aops hA 7 _ _ _ _ (by cbv) ?_
                  refine ops_done ?_
                  refine go_ret (closed (by cbv) ?_)
                  refine congrArg PV.bool ?_
                  subst hA
                  have hb1' : b1 = true ↔ (1 ≤ k ∧ k ≤ 6) := by rw [hb1]; simp
                  rw [Bool.eq_iff_iff, evOk_iff]
                  have hnil := @tl_nil text
                  simp only [std, tl_empty] at *
                  grind
              · skip
                refine run_aops hA 11 _ _ _ _ (by cbv) ?_
                refine ops_done ?_
                refine go_ret (closed (by cbv) ?_)
                refine congrArg PV.bool ?_
                subst hA
                have hb1' : b1 = true ↔ (1 ≤ k ∧ k ≤ 6) := by rw [hb1]; simp
                rw [Bool.eq_iff_iff, evOk_iff]
                have hnil := @tl_nil text
                simp only [std, tl_empty] at *
                grind
  · skip
    refine run_aops hA 4 _ _ _ _ (by cbv) ?_
    refine ops_done ?_
    refine go_cond rfl (fun c26 => ?_) (fun c26 => ?_)
    · skip
      refine go_seq ?_
      refine go_reg ?_
      refine run_aops hA 1 _ _ _ _ (by cbv) ?_
      refine ops_done ?_
      refine go_ret (closed (by cbv) ?_)
      refine congrArg PV.bool ?_
      subst hA
      have hb1' : b1 = true ↔ (1 ≤ k ∧ k ≤ 6) := by rw [hb1]; simp
      rw [Bool.eq_iff_iff, evOk_iff]
      have hnil := @tl_nil text
      simp only [std, tl_empty] at *
      grind
    · skip
      refine go_skip ?_
      refine go_seq ?_
      refine go_seq ?_
      refine go_reg ?_
      refine run_aops hA 4 _ _ _ _ (by cbv) ?_
      refine ops_split 15 rfl (fun c27 => ?_) (fun c27 => ?_)
      · skip
        refine run_aops hA 6 _ _ _ _ (by cbv) ?_
        refine ops_split 21 rfl (fun c28 => ?_) (fun c28 => ?_)
        · skip
          refine run_aops hA 9 _ _ _ _ (by cbv) ?_
          refine ops_done ?_
          refine go_cond rfl (fun c29 => ?_) (fun c29 => ?_)
          · skip
            refine go_seq ?_
            refine go_reg ?_
            refine run_aops hA 1 _ _ _ _ (by cbv) ?_
            refine ops_done ?_
            refine go_ret (closed (by cbv) ?_)
            refine congrArg PV.bool ?_
            subst hA
            have hb1' : b1 = true ↔ (1 ≤ k ∧ k ≤ 6) := by rw [hb1]; simp
            rw [Bool.eq_iff_iff, evOk_iff]
            have hnil := @tl_nil text
            simp only [std, tl_empty] at *
            grind
          · skip
            refine go_skip ?_
            refine go_seq ?_
            refine go_reg ?_
            refine run_aops hA 5 _ _ _ _ (by cbv) ?_
            refine ops_split 35 rfl (fun c30 => ?_) (fun c30 => ?_)
            · skip
              refine run_aops hA 4 _ _ _ _ (by cbv) ?_
              refine ops_split 39 rfl (fun c31 => ?_) (fun c31 => ?_)
              · skip
                refine run_aops hA 7 _ _ _ _ (by cbv) ?_
                refine ops_done ?_
                refine go_ret (closed (by cbv) ?_)
                refine congrArg PV.bool ?_
                subst hA
                have hb1' : b1 = true ↔ (1 ≤ k ∧ k ≤ 6) := by rw [hb1]; simp
                rw [Bool.eq_iff_iff, evOk_iff]
                have hnil := @tl_nil text
                simp only [std, tl_empty] at *
                grind
              · skip
                refine run_aops hA 7 _ _ _ _ (by cbv) ?_
                refine ops_done ?_
                refine go_ret (closed (by cbv) ?_)
                refine congrArg PV.bool ?_
                subst hA
                have hb1' : b1 = true ↔ (1 ≤ k ∧ k ≤ 6) := by rw [hb1]; simp
                rw [Bool.eq_iff_iff, evOk_iff]
                have hnil := @tl_nil text
                simp only [std, tl_empty] at *
                grind
            · skip
              refine run_aops hA 11 _ _ _ _ (by cbv) ?_
              refine ops_done ?_
              refine go_ret (closed (by cbv) ?_)
              refine congrArg PV.bool ?_
              subst hA
              have hb1' : b1 = true ↔ (1 ≤ k ∧ k ≤ 6) := by rw [hb1]; simp
              rw [Bool.eq_iff_iff, evOk_iff]
              have hnil := @tl_nil text
              simp only [std, tl_empty] at *
              grind
        · skip
          refine run_aops hA 4 _ _ _ _ (by cbv) ?_
          refine ops_split 25 rfl (fun c32 => ?_) (fun c32 => ?_)
          · skip
            refine run_aops hA 5 _ _ _ _ (by cbv) ?_
            refine ops_done ?_
            refine go_cond rfl (fun c33 => ?_) (fun c33 => ?_)
            · skip
              refine go_seq ?_
              refine go_reg ?_
              refine run_aops hA 1 _ _ _ _ (by cbv) ?_
              refine ops_done ?_
              refine go_ret (closed (by cbv) ?_)
              refine congrArg PV.bool ?_
              subst hA
              have hb1' : b1 = true ↔ (1 ≤ k ∧ k ≤ 6) := by rw [hb1]; simp
              rw [Bool.eq_iff_iff, evOk_iff]
              have hnil := @tl_nil text
              simp only [std, tl_empty] at *
              grind
            · skip
              refine go_skip ?_
              refine go_seq ?_
              refine go_reg ?_
              refine run_aops hA 5 _ _ _ _ (by cbv) ?_
              refine ops_split 35 rfl (fun c34 => ?_) (fun c34 => ?_)
              · skip
                refine run_aops hA 4 _ _ _ _ (by cbv) ?_
                refine ops_split 39 rfl (fun c35 => ?_) (fun c35 => ?_)
                · skip
                  refine run_aops hA 7 _ _ _ _ (by cbv) ?_
                  refine ops_done ?_
                  refine go_ret (closed (by cbv) ?_)
                  refine congrArg PV.bool ?_
                  subst hA
                  have hb1' : b1 = true ↔ (1 ≤ k ∧ k ≤ 6) := by rw [hb1]; simp
                  rw [Bool.eq_iff_iff, evOk_iff]
                  have hnil := @tl_nil text
                  simp only [std, tl_empty] at *
                  grind
                · skip
                  refine run_aops hA 7 _ _ _ _ (by cbv) ?_
                  refine ops_done ?_
                  refine go_ret (closed (by cbv) ?_)
                  refine congrArg PV.bool ?_
                  subst hA
                  have hb1' : b1 = true ↔ (1 ≤ k ∧ k ≤ 6) := by rw [hb1]; simp
                  rw [Bool.eq_iff_iff, evOk_iff]
                  have hnil := @tl_nil text
                  simp only [std, tl_empty] at *
                  grind
              · skip
                refine run_aops hA 11 _ _ _ _ (by cbv) ?_
                refine ops_done ?_
                refine go_ret (closed (by cbv) ?_)
                refine congrArg PV.bool ?_
                subst hA
                have hb1' : b1 = true ↔ (1 ≤ k ∧ k ≤ 6) := by rw [hb1]; simp
                rw [Bool.eq_iff_iff, evOk_iff]
                have hnil := @tl_nil text
                simp only [std, tl_empty] at *
                grind
          · skip
            refine run_aops hA 5 _ _ _ _ (by cbv) ?_
            refine ops_done ?_
            refine go_cond rfl (fun c36 => ?_) (fun c36 => ?_)
            · skip
              refine go_seq ?_
              refine go_reg ?_
              refine run_aops hA 1 _ _ _ _ (by cbv) ?_
              refine ops_done ?_
              refine go_ret (closed (by cbv) ?_)
              refine congrArg PV.bool ?_
              subst hA
              have hb1' : b1 = true ↔ (1 ≤ k ∧ k ≤ 6) := by rw [hb1]; simp
              rw [Bool.eq_iff_iff, evOk_iff]
              have hnil := @tl_nil text
              simp only [std, tl_empty] at *
              grind
            · skip
              refine go_skip ?_
              refine go_seq ?_
              refine go_reg ?_
              refine run_aops hA 5 _ _ _ _ (by cbv) ?_
              refine ops_split 35 rfl (fun c37 => ?_) (fun c37 => ?_)
              · skip
                refine run_aops hA 4 _ _ _ _ (by cbv) ?_
                refine ops_split 39 rfl (fun c38 => ?_) (fun c38 => ?_)
                · skip
                  refine run_aops hA 7 _ _ _ _ (by cbv) ?_
                  refine ops_done ?_
                  refine go_ret (closed (by cbv) ?_)
                  refine congrArg PV.bool ?_
                  subst hA
                  have hb1' : b1 = true ↔ (1 ≤ k ∧ k ≤ 6) := by rw [hb1]; simp
                  rw [Bool.eq_iff_iff, evOk_iff]
                  have hnil := @tl_nil text
                  simp only [std, tl_empty] at *
                  grind
                · skip
                  refine run_aops hA 7 _ _ _ _ (by cbv) ?_
                  refine ops_done ?_
                  refine go_ret (closed (by cbv) ?_)
                  refine congrArg PV.bool ?_
                  subst hA
                  have hb1' : b1 = true ↔ (1 ≤ k ∧ k ≤ 6) := by rw [hb1]; simp
                  rw [Bool.eq_iff_iff, evOk_iff]
                  have hnil := @tl_nil text
                  simp only [std, tl_empty] at *
                  grind
              · skip
                refine run_aops hA 11 _ _ _ _ (by cbv) ?_
                refine ops_done ?_
                refine go_ret (closed (by cbv) ?_)
                refine congrArg PV.bool ?_
                subst hA
                have hb1' : b1 = true ↔ (1 ≤ k ∧ k ≤ 6) := by rw [hb1]; simp
                rw [Bool.eq_iff_iff, evOk_iff]
                have hnil := @tl_nil text
                simp only [std, tl_empty] at *
                grind
      · skip
        refine run_aops hA 6 _ _ _ _ (by cbv) ?_
        refine ops_split 21 rfl (fun c39 => ?_) (fun c39 => ?_)
        · skip
          refine run_aops hA 9 _ _ _ _ (by cbv) ?_
          refine ops_done ?_
          refine go_cond rfl (fun c40 => ?_) (fun c40 => ?_)
          · skip
            refine go_seq ?_
            refine go_reg ?_
            refine run_aops hA 1 _ _ _ _ (by cbv) ?_
            refine ops_done ?_
            refine go_ret (closed (by cbv) ?_)
            refine congrArg PV.bool ?_
            subst hA
            have hb1' : b1 = true ↔ (1 ≤ k ∧ k ≤ 6) := by rw [hb1]; simp
            rw [Bool.eq_iff_iff, evOk_iff]
            have hnil := @tl_nil text
            simp only [std, tl_empty] at *
            grind
          · skip
            refine go_skip ?_
            refine go_seq ?_
            refine go_reg ?_
            refine run_aops hA 5 _ _ _ _ (by cbv) ?_
            refine ops_split 35 rfl (fun c41 => ?_) (fun c41 => ?_)
            · skip
              refine run_aops hA 4 _ _ _ _ (by cbv) ?_
              refine ops_split 39 rfl (fun c42 => ?_) (fun c42 => ?_)
              · skip
                refine run_aops hA 7 _ _ _ _ (by cbv) ?_
                refine ops_done ?_
                refine go_ret (closed (by cbv) ?_)
                refine congrArg PV.bool ?_
                subst hA
                have hb1' : b1 = true ↔ (1 ≤ k ∧ k ≤ 6) := by rw [hb1]; simp
                rw [Bool.eq_iff_iff, evOk_iff]
                have hnil := @tl_nil text
                simp only [std, tl_empty] at *
                grind
              · skip
                refine run_aops hA 7 _ _ _ _ (by cbv) ?_
                refine ops_done ?_
                refine go_ret (closed (by cbv) ?_)
                refine congrArg PV.bool ?_
                subst hA
                have hb1' : b1 = true ↔ (1 ≤ k ∧ k ≤ 6) := by rw [hb1]; simp
                rw [Bool.eq_iff_iff, evOk_iff]
                have hnil := @tl_nil text
                simp only [std, tl_empty] at *
                grind
            · skip
              refine run_aops hA 11 _ _ _ _ (by cbv) ?_
              refine ops_done ?_
              refine go_ret (closed (by cbv) ?_)
              refine congrArg PV.bool ?_
              subst hA
              have hb1' : b1 = true ↔ (1 ≤ k ∧ k ≤ 6) := by rw [hb1]; simp
              rw [Bool.eq_iff_iff, evOk_iff]
              have hnil := @tl_nil text
              simp only [std, tl_empty] at *
              grind
        · skip
          refine run_aops hA 4 _ _ _ _ (by cbv) ?_
          refine ops_split 25 rfl (fun c43 => ?_) (fun c43 => ?_)
          · skip
            refine run_aops hA 5 _ _ _ _ (by cbv) ?_
            refine ops_done ?_
            refine go_cond rfl (fun c44 => ?_) (fun c44 => ?_)
            · skip
              refine go_seq ?_
              refine go_reg ?_
              refine run_aops hA 1 _ _ _ _ (by cbv) ?_
              refine ops_done ?_
              refine go_ret (closed (by cbv) ?_)
              refine congrArg PV.bool ?_
              subst hA
              have hb1' : b1 = true ↔ (1 ≤ k ∧ k ≤ 6) := by rw [hb1]; simp
              rw [Bool.eq_iff_iff, evOk_iff]
              have hnil := @tl_nil text
              simp only [std, tl_empty] at *
              grind
            · skip
              refine go_skip ?_
              refine go_seq ?_
              refine go_reg ?_
              refine run_aops hA 5 _ _ _ _ (by cbv) ?_
              refine ops_split 35 rfl (fun c45 => ?_) (fun c45 => ?_)
              · skip
                refine run_aops hA 4 _ _ _ _ (by cbv) ?_
                refine ops_split 39 rfl (fun c46 => ?_) (fun c46 => ?_)
                · skip
                  refine run_aops hA 7 _ _ _ _ (by cbv) ?_
                  refine ops_done ?_
                  refine go_ret (closed (by cbv) ?_)
                  refine congrArg PV.bool ?_
                  subst hA
                  have hb1' : b1 = true ↔ (1 ≤ k ∧ k ≤ 6) := by rw [hb1]; simp
                  rw [Bool.eq_iff_iff, evOk_iff]
                  have hnil := @tl_nil text
                  simp only [std, tl_empty] at *
                  grind
                · skip
                  refine run_aops hA 7 _ _ _ _ (by cbv) ?_
                  refine ops_done ?_
                  refine go_ret (closed (by cbv) ?_)
                  refine congrArg PV.bool ?_
                  subst hA
                  have hb1' : b1 = true ↔ (1 ≤ k ∧ k ≤ 6) := by rw [hb1]; simp
                  rw [Bool.eq_iff_iff, evOk_iff]
                  have hnil := @tl_nil text
                  simp only [std, tl_empty] at *
                  grind
              · skip
                refine run_aops hA 11 _ _ _ _ (by cbv) ?_
                refine ops_done ?_
                refine go_ret (closed (by cbv) ?_)
                refine congrArg PV.bool ?_
                subst hA
                have hb1' : b1 = true ↔ (1 ≤ k ∧ k ≤ 6) := by rw [hb1]; simp
                rw [Bool.eq_iff_iff, evOk_iff]
                have hnil := @tl_nil text
                simp only [std, tl_empty] at *
                grind
          · skip
            refine run_aops hA 5 _ _ _ _ (by cbv) ?_
            refine ops_done ?_
            refine go_cond rfl (fun c47 => ?_) (fun c47 => ?_)
            · skip
              refine go_seq ?_
              refine go_reg ?_
              refine run_aops hA 1 _ _ _ _ (by cbv) ?_
              refine ops_done ?_
              refine go_ret (closed (by cbv) ?_)
              refine congrArg PV.bool ?_
              subst hA
              have hb1' : b1 = true ↔ (1 ≤ k ∧ k ≤ 6) := by rw [hb1]; simp
              rw [Bool.eq_iff_iff, evOk_iff]
              have hnil := @tl_nil text
              simp only [std, tl_empty] at *
              grind
            · skip
              refine go_skip ?_
              refine go_seq ?_
              refine go_reg ?_
              refine run_aops hA 5 _ _ _ _ (by cbv) ?_
              refine ops_split 35 rfl (fun c48 => ?_) (fun c48 => ?_)
              · skip
                refine run_aops hA 4 _ _ _ _ (by cbv) ?_
                refine ops_split 39 rfl (fun c49 => ?_) (fun c49 => ?_)
                · skip
                  refine run_aops hA 7 _ _ _ _ (by cbv) ?_
                  refine ops_done ?_
                  refine go_ret (closed (by cbv) ?_)
                  refine congrArg PV.bool ?_
                  subst hA
                  have hb1' : b1 = true ↔ (1 ≤ k ∧ k ≤ 6) := by rw [hb1]; simp
                  rw [Bool.eq_iff_iff, evOk_iff]
                  have hnil := @tl_nil text
                  simp only [std, tl_empty] at *
                  grind
                · skip
                  refine run_aops hA 7 _ _ _ _ (by cbv) ?_
                  refine ops_done ?_
                  refine go_ret (closed (by cbv) ?_)
                  refine congrArg PV.bool ?_
                  subst hA
                  have hb1' : b1 = true ↔ (1 ≤ k ∧ k ≤ 6) := by rw [hb1]; simp
                  rw [Bool.eq_iff_iff, evOk_iff]
                  have hnil := @tl_nil text
                  simp only [std, tl_empty] at *
                  grind
              · skip
                refine run_aops hA 11 _ _ _ _ (by cbv) ?_
                refine ops_done ?_
                refine go_ret (closed (by cbv) ?_)
                refine congrArg PV.bool ?_
                subst hA
                have hb1' : b1 = true ↔ (1 ≤ k ∧ k ≤ 6) := by rw [hb1]; simp
                rw [Bool.eq_iff_iff, evOk_iff]
                have hnil := @tl_nil text
                simp only [std, tl_empty] at *
                grind
end Go.Av

