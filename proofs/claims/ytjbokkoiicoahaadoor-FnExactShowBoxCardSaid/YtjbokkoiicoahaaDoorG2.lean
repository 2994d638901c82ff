/- Walks: flags. -/
import Derived.Test.YtjbokkoiicoahaaDoorG1
namespace Go.Av
open Go Go.Proofs
set_option maxRecDepth 100000
set_option maxHeartbeats 4000000
set_option linter.unusedVariables false
set_option linter.unusedSimpArgs false
theorem r_impl_FlagWords (A : Alg) (hA : A = std) (f : Int) (hf : i64 f) : Real Tryd.prog 22 [.int .i64 f] (.str (flagW f)) := by
  refine real_args (args' := [.int .i64 f]) (by rfl) ?_
  refine real tyOk Tryd.func22 (by kernel_rfl) (afun_of rfl ?_)
  refine go_seq ?_
  refine go_reg ?_
  refine run_aops hA 1 _ _ _ _ (by cbv) ?_
  refine ops_done ?_
  refine go_seq ?_
  refine go_reg ?_
  refine run_aops hA 2 _ _ _ _ (by cbv) ?_
  refine ops_done ?_
  refine go_seq ?_
  refine go_seq ?_
  refine go_reg ?_
  refine run_aops hA 2 _ _ _ _ (by cbv) ?_
  refine ops_done ?_
  refine go_cond rfl (fun c1 => ?_) (fun c1 => ?_)
  · skip
    have ec1 : f < 0 := lss_t hA c1
    refine go_reg ?_
    refine run_aops hA 1 _ _ _ _ (by cbv) ?_
    obtain ⟨n2, hn2⟩ : ∃ v : Int, v = IntKind.wrap .i64 (0 - f) := ⟨_, rfl⟩
    refine ops_ext rfl (ext_neg rfl rfl hn2) ?_
    refine run_aops hA 1 _ _ _ _ (by cbv) ?_
    refine ops_done ?_
    refine go_seq ?_
    refine go_seq ?_
    refine go_reg ?_
    refine run_aops hA 3 _ _ _ _ (by cbv) ?_
    refine ops_done ?_
    refine go_cond rfl (fun c3 => ?_) (fun c3 => ?_)
    · skip
      have ec3 : (A.num .and .i64 n2 1) ≠ 0 := neq_t hA c3
      refine go_reg ?_
      refine run_aops hA 2 _ _ _ _ (by cbv) ?_
      obtain ⟨r4, hr4⟩ : ∃ r : List (List PV), r = ([]) ++ [[.str (ByteArray.mk #[115, 101, 101, 110])]] := ⟨_, rfl⟩
      have er4 : r4 = List.map eString (([]) ++ ([((ByteArray.mk #[115, 101, 101, 110]) : ByteArray)])) := by rw [hr4]; exact app_eq rfl (by rfl)
      have lr4 : A.rlen r4 = (List.length (([]) ++ ([((ByteArray.mk #[115, 101, 101, 110]) : ByteArray)])) : Int) := rlen_map hA er4
      refine ops_step rfl rfl (app_own rfl rfl rfl rfl rfl rfl rfl rfl hr4 (by cbv) (by cbv) (by cbv) rfl (by
        show (List.length ([]) + List.length ([[.str (ByteArray.mk #[115, 101, 101, 110])]])) * _ ≤ _
        decide) (by decide) (by decide)) ?_
      refine run_aops hA 1 _ _ _ _ (by cbv) ?_
      refine ops_done ?_
      refine go_seq ?_
      refine go_seq ?_
      refine go_reg ?_
      refine run_aops hA 3 _ _ _ _ (by cbv) ?_
      refine ops_done ?_
      refine go_cond rfl (fun c5 => ?_) (fun c5 => ?_)
      · skip
        have ec5 : (A.num .and .i64 n2 2) ≠ 0 := neq_t hA c5
        refine go_reg ?_
        refine run_aops hA 2 _ _ _ _ (by cbv) ?_
        obtain ⟨r6, hr6⟩ : ∃ r : List (List PV), r = r4 ++ [[.str (ByteArray.mk #[102, 108, 97, 103, 103, 101, 100])]] := ⟨_, rfl⟩
        have er6 : r6 = List.map eString (([] ++ [((ByteArray.mk #[115, 101, 101, 110]) : ByteArray)]) ++ ([((ByteArray.mk #[102, 108, 97, 103, 103, 101, 100]) : ByteArray)])) := by rw [hr6]; exact app_eq er4 (by rfl)
        have lr6 : A.rlen r6 = (List.length (([] ++ [((ByteArray.mk #[115, 101, 101, 110]) : ByteArray)]) ++ ([((ByteArray.mk #[102, 108, 97, 103, 103, 101, 100]) : ByteArray)])) : Int) := rlen_map hA er6
        refine ops_step rfl rfl (app_own rfl rfl rfl rfl rfl rfl rfl rfl hr6 (by cbv) (by cbv) (by cbv) rfl (by
          show (List.length r4 + List.length ([[.str (ByteArray.mk #[102, 108, 97, 103, 103, 101, 100])]])) * _ ≤ _
          rw [er4]; decide) (by decide) (by decide)) ?_
        refine run_aops hA 1 _ _ _ _ (by cbv) ?_
        refine ops_done ?_
        refine go_seq ?_
        refine go_seq ?_
        refine go_reg ?_
        refine run_aops hA 3 _ _ _ _ (by cbv) ?_
        refine ops_done ?_
        refine go_cond rfl (fun c7 => ?_) (fun c7 => ?_)
        · skip
          have ec7 : (A.num .and .i64 n2 4) ≠ 0 := neq_t hA c7
          refine go_reg ?_
          refine run_aops hA 2 _ _ _ _ (by cbv) ?_
          obtain ⟨r8, hr8⟩ : ∃ r : List (List PV), r = r6 ++ [[.str (ByteArray.mk #[100, 101, 108, 101, 116, 101, 100])]] := ⟨_, rfl⟩
          have er8 : r8 = List.map eString (([] ++ [((ByteArray.mk #[115, 101, 101, 110]) : ByteArray)] ++ [((ByteArray.mk #[102, 108, 97, 103, 103, 101, 100]) : ByteArray)]) ++ ([((ByteArray.mk #[100, 101, 108, 101, 116, 101, 100]) : ByteArray)])) := by rw [hr8]; exact app_eq er6 (by rfl)
          have lr8 : A.rlen r8 = (List.length (([] ++ [((ByteArray.mk #[115, 101, 101, 110]) : ByteArray)] ++ [((ByteArray.mk #[102, 108, 97, 103, 103, 101, 100]) : ByteArray)]) ++ ([((ByteArray.mk #[100, 101, 108, 101, 116, 101, 100]) : ByteArray)])) : Int) := rlen_map hA er8
          refine ops_step rfl rfl (app_own rfl rfl rfl rfl rfl rfl rfl rfl hr8 (by cbv) (by cbv) (by cbv) rfl (by
            show (List.length r6 + List.length ([[.str (ByteArray.mk #[100, 101, 108, 101, 116, 101, 100])]])) * _ ≤ _
            rw [er6]; decide) (by decide) (by decide)) ?_
          refine run_aops hA 1 _ _ _ _ (by cbv) ?_
          refine ops_done ?_
          refine go_seq ?_
          refine go_reg ?_
          refine run_aops hA 1 _ _ _ _ (by cbv) ?_
          obtain ⟨v28_9, hv28_9, hc10⟩ : ∃ (v28_9 : ByteArray), v28_9 = (joinB ([] ++ [((ByteArray.mk #[115, 101, 101, 110]) : ByteArray)] ++ [((ByteArray.mk #[102, 108, 97, 103, 103, 101, 100]) : ByteArray)] ++ [((ByteArray.mk #[100, 101, 108, 101, 116, 101, 100]) : ByteArray)]) (ByteArray.mk #[32])) ∧ Real Tryd.prog 20 [.sl 1 (eraseR r8), .str (ByteArray.mk #[32])] (.str v28_9) := ⟨_, rfl, by subst er8; simp only [erR_String]; exact rJoin A hA ([] ++ [((ByteArray.mk #[115, 101, 101, 110]) : ByteArray)] ++ [((ByteArray.mk #[102, 108, 97, 103, 103, 101, 100]) : ByteArray)] ++ [((ByteArray.mk #[100, 101, 108, 101, 116, 101, 100]) : ByteArray)]) (ByteArray.mk #[32]) (by decide) (by decide)⟩
          refine ops_callV rfl rfl (by cbv) (by cbv) hc10 (.inl trivial) (by cbv) ?_
          obtain ⟨s11, hs11⟩ : ∃ s : ByteArray, s = (ByteArray.mk #[40]) ++ v28_9 := ⟨_, rfl⟩
          have zs11 : ByteArray.size s11 = ByteArray.size (ByteArray.mk #[40]) + ByteArray.size v28_9 := by rw [hs11]; exact ByteArray.size_append
          have bs11 : ByteArray.size (ByteArray.mk #[40]) + ByteArray.size v28_9 ≤ 140737488355328 := by
            have hj : ByteArray.size v28_9 ≤ 30 := by rw [hv28_9]; decide
            have e1 : (ByteArray.mk #[40]).size = 1 := rfl
            have e2 : (ByteArray.mk #[41]).size = 1 := rfl
            omega
          refine ops_step rfl rfl (str_add rfl rfl rfl hs11 bs11) ?_
          obtain ⟨s12, hs12⟩ : ∃ s : ByteArray, s = s11 ++ (ByteArray.mk #[41]) := ⟨_, rfl⟩
          have zs12 : ByteArray.size s12 = ByteArray.size s11 + ByteArray.size (ByteArray.mk #[41]) := by rw [hs12]; exact ByteArray.size_append
          have bs12 : ByteArray.size s11 + ByteArray.size (ByteArray.mk #[41]) ≤ 140737488355328 := by
            have hj : ByteArray.size v28_9 ≤ 30 := by rw [hv28_9]; decide
            have e1 : (ByteArray.mk #[40]).size = 1 := rfl
            have e2 : (ByteArray.mk #[41]).size = 1 := rfl
            omega
          refine ops_step rfl rfl (str_add rfl rfl rfl hs12 bs12) ?_
          refine run_aops hA 1 _ _ _ _ (by cbv) ?_
          refine ops_done ?_
          refine go_ret ⟨_, by cbv, ?_⟩
          show _ = (PV.str s12)
          refine congrArg PV.str ?_
          subst hA
          have b0 : bitF f 0 = true := by
            have hab : std.num .and .i64 n2 1 = 0 ↔ bitF f 0 = false := and_bit 0 (by decide) hf (.inr ⟨by omega, hn2⟩)
            cases hb : bitF f 0 with
            | true => rfl
            | false => exact absurd (hab.2 hb) (by assumption)
          have b1 : bitF f 1 = true := by
            have hab : std.num .and .i64 n2 2 = 0 ↔ bitF f 1 = false := and_bit 1 (by decide) hf (.inr ⟨by omega, hn2⟩)
            cases hb : bitF f 1 with
            | true => rfl
            | false => exact absurd (hab.2 hb) (by assumption)
          have b2 : bitF f 2 = true := by
            have hab : std.num .and .i64 n2 4 = 0 ↔ bitF f 2 = false := and_bit 2 (by decide) hf (.inr ⟨by omega, hn2⟩)
            cases hb : bitF f 2 with
            | true => rfl
            | false => exact absurd (hab.2 hb) (by assumption)
          have hj : (joinB ([] ++ [((ByteArray.mk #[115, 101, 101, 110]) : ByteArray)] ++ [((ByteArray.mk #[102, 108, 97, 103, 103, 101, 100]) : ByteArray)] ++ [((ByteArray.mk #[100, 101, 108, 101, 116, 101, 100]) : ByteArray)]) (ByteArray.mk #[32])) = fwS f 3 := fwS_join f _ (by simp [b0, b1, b2, wdF, wdsF])
          rw [hs12, hs11, hv28_9, hj]; rfl
        · skip
          have ec7 : (A.num .and .i64 n2 4) = 0 := neq_f hA c7
          refine go_skip ?_
          refine go_seq ?_
          refine go_reg ?_
          refine run_aops hA 1 _ _ _ _ (by cbv) ?_
          obtain ⟨v28_13, hv28_13, hc14⟩ : ∃ (v28_13 : ByteArray), v28_13 = (joinB ([] ++ [((ByteArray.mk #[115, 101, 101, 110]) : ByteArray)] ++ [((ByteArray.mk #[102, 108, 97, 103, 103, 101, 100]) : ByteArray)]) (ByteArray.mk #[32])) ∧ Real Tryd.prog 20 [.sl 1 (eraseR r6), .str (ByteArray.mk #[32])] (.str v28_13) := ⟨_, rfl, by subst er6; simp only [erR_String]; exact rJoin A hA ([] ++ [((ByteArray.mk #[115, 101, 101, 110]) : ByteArray)] ++ [((ByteArray.mk #[102, 108, 97, 103, 103, 101, 100]) : ByteArray)]) (ByteArray.mk #[32]) (by decide) (by decide)⟩
          refine ops_callV rfl rfl (by cbv) (by cbv) hc14 (.inl trivial) (by cbv) ?_
          obtain ⟨s15, hs15⟩ : ∃ s : ByteArray, s = (ByteArray.mk #[40]) ++ v28_13 := ⟨_, rfl⟩
          have zs15 : ByteArray.size s15 = ByteArray.size (ByteArray.mk #[40]) + ByteArray.size v28_13 := by rw [hs15]; exact ByteArray.size_append
          have bs15 : ByteArray.size (ByteArray.mk #[40]) + ByteArray.size v28_13 ≤ 140737488355328 := by
            have hj : ByteArray.size v28_13 ≤ 30 := by rw [hv28_13]; decide
            have e1 : (ByteArray.mk #[40]).size = 1 := rfl
            have e2 : (ByteArray.mk #[41]).size = 1 := rfl
            omega
          refine ops_step rfl rfl (str_add rfl rfl rfl hs15 bs15) ?_
          obtain ⟨s16, hs16⟩ : ∃ s : ByteArray, s = s15 ++ (ByteArray.mk #[41]) := ⟨_, rfl⟩
          have zs16 : ByteArray.size s16 = ByteArray.size s15 + ByteArray.size (ByteArray.mk #[41]) := by rw [hs16]; exact ByteArray.size_append
          have bs16 : ByteArray.size s15 + ByteArray.size (ByteArray.mk #[41]) ≤ 140737488355328 := by
            have hj : ByteArray.size v28_13 ≤ 30 := by rw [hv28_13]; decide
            have e1 : (ByteArray.mk #[40]).size = 1 := rfl
            have e2 : (ByteArray.mk #[41]).size = 1 := rfl
            omega
          refine ops_step rfl rfl (str_add rfl rfl rfl hs16 bs16) ?_
          refine run_aops hA 1 _ _ _ _ (by cbv) ?_
          refine ops_done ?_
          refine go_ret ⟨_, by cbv, ?_⟩
          show _ = (PV.str s16)
          refine congrArg PV.str ?_
          subst hA
          have b0 : bitF f 0 = true := by
            have hab : std.num .and .i64 n2 1 = 0 ↔ bitF f 0 = false := and_bit 0 (by decide) hf (.inr ⟨by omega, hn2⟩)
            cases hb : bitF f 0 with
            | true => rfl
            | false => exact absurd (hab.2 hb) (by assumption)
          have b1 : bitF f 1 = true := by
            have hab : std.num .and .i64 n2 2 = 0 ↔ bitF f 1 = false := and_bit 1 (by decide) hf (.inr ⟨by omega, hn2⟩)
            cases hb : bitF f 1 with
            | true => rfl
            | false => exact absurd (hab.2 hb) (by assumption)
          have b2 : bitF f 2 = false := by
            have hab : std.num .and .i64 n2 4 = 0 ↔ bitF f 2 = false := and_bit 2 (by decide) hf (.inr ⟨by omega, hn2⟩)
            exact hab.1 (by assumption)
          have hj : (joinB ([] ++ [((ByteArray.mk #[115, 101, 101, 110]) : ByteArray)] ++ [((ByteArray.mk #[102, 108, 97, 103, 103, 101, 100]) : ByteArray)]) (ByteArray.mk #[32])) = fwS f 3 := fwS_join f _ (by simp [b0, b1, b2, wdF, wdsF])
          rw [hs16, hs15, hv28_13, hj]; rfl
      · skip
        have ec5 : (A.num .and .i64 n2 2) = 0 := neq_f hA c5
        refine go_skip ?_
        refine go_seq ?_
        refine go_seq ?_
        refine go_reg ?_
        refine run_aops hA 3 _ _ _ _ (by cbv) ?_
        refine ops_done ?_
        refine go_cond rfl (fun c17 => ?_) (fun c17 => ?_)
        · skip
          have ec17 : (A.num .and .i64 n2 4) ≠ 0 := neq_t hA c17
          refine go_reg ?_
          refine run_aops hA 2 _ _ _ _ (by cbv) ?_
          obtain ⟨r18, hr18⟩ : ∃ r : List (List PV), r = r4 ++ [[.str (ByteArray.mk #[100, 101, 108, 101, 116, 101, 100])]] := ⟨_, rfl⟩
          have er18 : r18 = List.map eString (([] ++ [((ByteArray.mk #[115, 101, 101, 110]) : ByteArray)]) ++ ([((ByteArray.mk #[100, 101, 108, 101, 116, 101, 100]) : ByteArray)])) := by rw [hr18]; exact app_eq er4 (by rfl)
          have lr18 : A.rlen r18 = (List.length (([] ++ [((ByteArray.mk #[115, 101, 101, 110]) : ByteArray)]) ++ ([((ByteArray.mk #[100, 101, 108, 101, 116, 101, 100]) : ByteArray)])) : Int) := rlen_map hA er18
          refine ops_step rfl rfl (app_own rfl rfl rfl rfl rfl rfl rfl rfl hr18 (by cbv) (by cbv) (by cbv) rfl (by
            show (List.length r4 + List.length ([[.str (ByteArray.mk #[100, 101, 108, 101, 116, 101, 100])]])) * _ ≤ _
            rw [er4]; decide) (by decide) (by decide)) ?_
          refine run_aops hA 1 _ _ _ _ (by cbv) ?_
          refine ops_done ?_
          refine go_seq ?_
          refine go_reg ?_
          refine run_aops hA 1 _ _ _ _ (by cbv) ?_
          obtain ⟨v28_19, hv28_19, hc20⟩ : ∃ (v28_19 : ByteArray), v28_19 = (joinB ([] ++ [((ByteArray.mk #[115, 101, 101, 110]) : ByteArray)] ++ [((ByteArray.mk #[100, 101, 108, 101, 116, 101, 100]) : ByteArray)]) (ByteArray.mk #[32])) ∧ Real Tryd.prog 20 [.sl 1 (eraseR r18), .str (ByteArray.mk #[32])] (.str v28_19) := ⟨_, rfl, by subst er18; simp only [erR_String]; exact rJoin A hA ([] ++ [((ByteArray.mk #[115, 101, 101, 110]) : ByteArray)] ++ [((ByteArray.mk #[100, 101, 108, 101, 116, 101, 100]) : ByteArray)]) (ByteArray.mk #[32]) (by decide) (by decide)⟩
          refine ops_callV rfl rfl (by cbv) (by cbv) hc20 (.inl trivial) (by cbv) ?_
          obtain ⟨s21, hs21⟩ : ∃ s : ByteArray, s = (ByteArray.mk #[40]) ++ v28_19 := ⟨_, rfl⟩
          have zs21 : ByteArray.size s21 = ByteArray.size (ByteArray.mk #[40]) + ByteArray.size v28_19 := by rw [hs21]; exact ByteArray.size_append
          have bs21 : ByteArray.size (ByteArray.mk #[40]) + ByteArray.size v28_19 ≤ 140737488355328 := by
            have hj : ByteArray.size v28_19 ≤ 30 := by rw [hv28_19]; decide
            have e1 : (ByteArray.mk #[40]).size = 1 := rfl
            have e2 : (ByteArray.mk #[41]).size = 1 := rfl
            omega
          refine ops_step rfl rfl (str_add rfl rfl rfl hs21 bs21) ?_
          obtain ⟨s22, hs22⟩ : ∃ s : ByteArray, s = s21 ++ (ByteArray.mk #[41]) := ⟨_, rfl⟩
          have zs22 : ByteArray.size s22 = ByteArray.size s21 + ByteArray.size (ByteArray.mk #[41]) := by rw [hs22]; exact ByteArray.size_append
          have bs22 : ByteArray.size s21 + ByteArray.size (ByteArray.mk #[41]) ≤ 140737488355328 := by
            have hj : ByteArray.size v28_19 ≤ 30 := by rw [hv28_19]; decide
            have e1 : (ByteArray.mk #[40]).size = 1 := rfl
            have e2 : (ByteArray.mk #[41]).size = 1 := rfl
            omega
          refine ops_step rfl rfl (str_add rfl rfl rfl hs22 bs22) ?_
          refine run_aops hA 1 _ _ _ _ (by cbv) ?_
          refine ops_done ?_
          refine go_ret ⟨_, by cbv, ?_⟩
          show _ = (PV.str s22)
          refine congrArg PV.str ?_
          subst hA
          have b0 : bitF f 0 = true := by
            have hab : std.num .and .i64 n2 1 = 0 ↔ bitF f 0 = false := and_bit 0 (by decide) hf (.inr ⟨by omega, hn2⟩)
            cases hb : bitF f 0 with
            | true => rfl
            | false => exact absurd (hab.2 hb) (by assumption)
          have b1 : bitF f 1 = false := by
            have hab : std.num .and .i64 n2 2 = 0 ↔ bitF f 1 = false := and_bit 1 (by decide) hf (.inr ⟨by omega, hn2⟩)
            exact hab.1 (by assumption)
          have b2 : bitF f 2 = true := by
            have hab : std.num .and .i64 n2 4 = 0 ↔ bitF f 2 = false := and_bit 2 (by decide) hf (.inr ⟨by omega, hn2⟩)
            cases hb : bitF f 2 with
            | true => rfl
            | false => exact absurd (hab.2 hb) (by assumption)
          have hj : (joinB ([] ++ [((ByteArray.mk #[115, 101, 101, 110]) : ByteArray)] ++ [((ByteArray.mk #[100, 101, 108, 101, 116, 101, 100]) : ByteArray)]) (ByteArray.mk #[32])) = fwS f 3 := fwS_join f _ (by simp [b0, b1, b2, wdF, wdsF])
          rw [hs22, hs21, hv28_19, hj]; rfl
        · skip
          have ec17 : (A.num .and .i64 n2 4) = 0 := neq_f hA c17
          refine go_skip ?_
          refine go_seq ?_
          refine go_reg ?_
          refine run_aops hA 1 _ _ _ _ (by cbv) ?_
          obtain ⟨v28_23, hv28_23, hc24⟩ : ∃ (v28_23 : ByteArray), v28_23 = (joinB ([] ++ [((ByteArray.mk #[115, 101, 101, 110]) : ByteArray)]) (ByteArray.mk #[32])) ∧ Real Tryd.prog 20 [.sl 1 (eraseR r4), .str (ByteArray.mk #[32])] (.str v28_23) := ⟨_, rfl, by subst er4; simp only [erR_String]; exact rJoin A hA ([] ++ [((ByteArray.mk #[115, 101, 101, 110]) : ByteArray)]) (ByteArray.mk #[32]) (by decide) (by decide)⟩
          refine ops_callV rfl rfl (by cbv) (by cbv) hc24 (.inl trivial) (by cbv) ?_
          obtain ⟨s25, hs25⟩ : ∃ s : ByteArray, s = (ByteArray.mk #[40]) ++ v28_23 := ⟨_, rfl⟩
          have zs25 : ByteArray.size s25 = ByteArray.size (ByteArray.mk #[40]) + ByteArray.size v28_23 := by rw [hs25]; exact ByteArray.size_append
          have bs25 : ByteArray.size (ByteArray.mk #[40]) + ByteArray.size v28_23 ≤ 140737488355328 := by
            have hj : ByteArray.size v28_23 ≤ 30 := by rw [hv28_23]; decide
            have e1 : (ByteArray.mk #[40]).size = 1 := rfl
            have e2 : (ByteArray.mk #[41]).size = 1 := rfl
            omega
          refine ops_step rfl rfl (str_add rfl rfl rfl hs25 bs25) ?_
          obtain ⟨s26, hs26⟩ : ∃ s : ByteArray, s = s25 ++ (ByteArray.mk #[41]) := ⟨_, rfl⟩
          have zs26 : ByteArray.size s26 = ByteArray.size s25 + ByteArray.size (ByteArray.mk #[41]) := by rw [hs26]; exact ByteArray.size_append
          have bs26 : ByteArray.size s25 + ByteArray.size (ByteArray.mk #[41]) ≤ 140737488355328 := by
            have hj : ByteArray.size v28_23 ≤ 30 := by rw [hv28_23]; decide
            have e1 : (ByteArray.mk #[40]).size = 1 := rfl
            have e2 : (ByteArray.mk #[41]).size = 1 := rfl
            omega
          refine ops_step rfl rfl (str_add rfl rfl rfl hs26 bs26) ?_
          refine run_aops hA 1 _ _ _ _ (by cbv) ?_
          refine ops_done ?_
          refine go_ret ⟨_, by cbv, ?_⟩
          show _ = (PV.str s26)
          refine congrArg PV.str ?_
          subst hA
          have b0 : bitF f 0 = true := by
            have hab : std.num .and .i64 n2 1 = 0 ↔ bitF f 0 = false := and_bit 0 (by decide) hf (.inr ⟨by omega, hn2⟩)
            cases hb : bitF f 0 with
            | true => rfl
            | false => exact absurd (hab.2 hb) (by assumption)
          have b1 : bitF f 1 = false := by
            have hab : std.num .and .i64 n2 2 = 0 ↔ bitF f 1 = false := and_bit 1 (by decide) hf (.inr ⟨by omega, hn2⟩)
            exact hab.1 (by assumption)
          have b2 : bitF f 2 = false := by
            have hab : std.num .and .i64 n2 4 = 0 ↔ bitF f 2 = false := and_bit 2 (by decide) hf (.inr ⟨by omega, hn2⟩)
            exact hab.1 (by assumption)
          have hj : (joinB ([] ++ [((ByteArray.mk #[115, 101, 101, 110]) : ByteArray)]) (ByteArray.mk #[32])) = fwS f 3 := fwS_join f _ (by simp [b0, b1, b2, wdF, wdsF])
          rw [hs26, hs25, hv28_23, hj]; rfl
    · skip
      have ec3 : (A.num .and .i64 n2 1) = 0 := neq_f hA c3
      refine go_skip ?_
      refine go_seq ?_
      refine go_seq ?_
      refine go_reg ?_
      refine run_aops hA 3 _ _ _ _ (by cbv) ?_
      refine ops_done ?_
      refine go_cond rfl (fun c27 => ?_) (fun c27 => ?_)
      · skip
        have ec27 : (A.num .and .i64 n2 2) ≠ 0 := neq_t hA c27
        refine go_reg ?_
        refine run_aops hA 2 _ _ _ _ (by cbv) ?_
        obtain ⟨r28, hr28⟩ : ∃ r : List (List PV), r = ([]) ++ [[.str (ByteArray.mk #[102, 108, 97, 103, 103, 101, 100])]] := ⟨_, rfl⟩
        have er28 : r28 = List.map eString (([]) ++ ([((ByteArray.mk #[102, 108, 97, 103, 103, 101, 100]) : ByteArray)])) := by rw [hr28]; exact app_eq rfl (by rfl)
        have lr28 : A.rlen r28 = (List.length (([]) ++ ([((ByteArray.mk #[102, 108, 97, 103, 103, 101, 100]) : ByteArray)])) : Int) := rlen_map hA er28
        refine ops_step rfl rfl (app_own rfl rfl rfl rfl rfl rfl rfl rfl hr28 (by cbv) (by cbv) (by cbv) rfl (by
          show (List.length ([]) + List.length ([[.str (ByteArray.mk #[102, 108, 97, 103, 103, 101, 100])]])) * _ ≤ _
          decide) (by decide) (by decide)) ?_
        refine run_aops hA 1 _ _ _ _ (by cbv) ?_
        refine ops_done ?_
        refine go_seq ?_
        refine go_seq ?_
        refine go_reg ?_
        refine run_aops hA 3 _ _ _ _ (by cbv) ?_
        refine ops_done ?_
        refine go_cond rfl (fun c29 => ?_) (fun c29 => ?_)
        · skip
          have ec29 : (A.num .and .i64 n2 4) ≠ 0 := neq_t hA c29
          refine go_reg ?_
          refine run_aops hA 2 _ _ _ _ (by cbv) ?_
          obtain ⟨r30, hr30⟩ : ∃ r : List (List PV), r = r28 ++ [[.str (ByteArray.mk #[100, 101, 108, 101, 116, 101, 100])]] := ⟨_, rfl⟩
          have er30 : r30 = List.map eString (([] ++ [((ByteArray.mk #[102, 108, 97, 103, 103, 101, 100]) : ByteArray)]) ++ ([((ByteArray.mk #[100, 101, 108, 101, 116, 101, 100]) : ByteArray)])) := by rw [hr30]; exact app_eq er28 (by rfl)
          have lr30 : A.rlen r30 = (List.length (([] ++ [((ByteArray.mk #[102, 108, 97, 103, 103, 101, 100]) : ByteArray)]) ++ ([((ByteArray.mk #[100, 101, 108, 101, 116, 101, 100]) : ByteArray)])) : Int) := rlen_map hA er30
          refine ops_step rfl rfl (app_own rfl rfl rfl rfl rfl rfl rfl rfl hr30 (by cbv) (by cbv) (by cbv) rfl (by
            show (List.length r28 + List.length ([[.str (ByteArray.mk #[100, 101, 108, 101, 116, 101, 100])]])) * _ ≤ _
            rw [er28]; decide) (by decide) (by decide)) ?_
          refine run_aops hA 1 _ _ _ _ (by cbv) ?_
          refine ops_done ?_
          refine go_seq ?_
          refine go_reg ?_
          refine run_aops hA 1 _ _ _ _ (by cbv) ?_
          obtain ⟨v28_31, hv28_31, hc32⟩ : ∃ (v28_31 : ByteArray), v28_31 = (joinB ([] ++ [((ByteArray.mk #[102, 108, 97, 103, 103, 101, 100]) : ByteArray)] ++ [((ByteArray.mk #[100, 101, 108, 101, 116, 101, 100]) : ByteArray)]) (ByteArray.mk #[32])) ∧ Real Tryd.prog 20 [.sl 1 (eraseR r30), .str (ByteArray.mk #[32])] (.str v28_31) := ⟨_, rfl, by subst er30; simp only [erR_String]; exact rJoin A hA ([] ++ [((ByteArray.mk #[102, 108, 97, 103, 103, 101, 100]) : ByteArray)] ++ [((ByteArray.mk #[100, 101, 108, 101, 116, 101, 100]) : ByteArray)]) (ByteArray.mk #[32]) (by decide) (by decide)⟩
          refine ops_callV rfl rfl (by cbv) (by cbv) hc32 (.inl trivial) (by cbv) ?_
          obtain ⟨s33, hs33⟩ : ∃ s : ByteArray, s = (ByteArray.mk #[40]) ++ v28_31 := ⟨_, rfl⟩
          have zs33 : ByteArray.size s33 = ByteArray.size (ByteArray.mk #[40]) + ByteArray.size v28_31 := by rw [hs33]; exact ByteArray.size_append
          have bs33 : ByteArray.size (ByteArray.mk #[40]) + ByteArray.size v28_31 ≤ 140737488355328 := by
            have hj : ByteArray.size v28_31 ≤ 30 := by rw [hv28_31]; decide
            have e1 : (ByteArray.mk #[40]).size = 1 := rfl
            have e2 : (ByteArray.mk #[41]).size = 1 := rfl
            omega
          refine ops_step rfl rfl (str_add rfl rfl rfl hs33 bs33) ?_
          obtain ⟨s34, hs34⟩ : ∃ s : ByteArray, s = s33 ++ (ByteArray.mk #[41]) := ⟨_, rfl⟩
          have zs34 : ByteArray.size s34 = ByteArray.size s33 + ByteArray.size (ByteArray.mk #[41]) := by rw [hs34]; exact ByteArray.size_append
          have bs34 : ByteArray.size s33 + ByteArray.size (ByteArray.mk #[41]) ≤ 140737488355328 := by
            have hj : ByteArray.size v28_31 ≤ 30 := by rw [hv28_31]; decide
            have e1 : (ByteArray.mk #[40]).size = 1 := rfl
            have e2 : (ByteArray.mk #[41]).size = 1 := rfl
            omega
          refine ops_step rfl rfl (str_add rfl rfl rfl hs34 bs34) ?_
          refine run_aops hA 1 _ _ _ _ (by cbv) ?_
          refine ops_done ?_
          refine go_ret ⟨_, by cbv, ?_⟩
          show _ = (PV.str s34)
          refine congrArg PV.str ?_
          subst hA
          have b0 : bitF f 0 = false := by
            have hab : std.num .and .i64 n2 1 = 0 ↔ bitF f 0 = false := and_bit 0 (by decide) hf (.inr ⟨by omega, hn2⟩)
            exact hab.1 (by assumption)
          have b1 : bitF f 1 = true := by
            have hab : std.num .and .i64 n2 2 = 0 ↔ bitF f 1 = false := and_bit 1 (by decide) hf (.inr ⟨by omega, hn2⟩)
            cases hb : bitF f 1 with
            | true => rfl
            | false => exact absurd (hab.2 hb) (by assumption)
          have b2 : bitF f 2 = true := by
            have hab : std.num .and .i64 n2 4 = 0 ↔ bitF f 2 = false := and_bit 2 (by decide) hf (.inr ⟨by omega, hn2⟩)
            cases hb : bitF f 2 with
            | true => rfl
            | false => exact absurd (hab.2 hb) (by assumption)
          have hj : (joinB ([] ++ [((ByteArray.mk #[102, 108, 97, 103, 103, 101, 100]) : ByteArray)] ++ [((ByteArray.mk #[100, 101, 108, 101, 116, 101, 100]) : ByteArray)]) (ByteArray.mk #[32])) = fwS f 3 := fwS_join f _ (by simp [b0, b1, b2, wdF, wdsF])
          rw [hs34, hs33, hv28_31, hj]; rfl
        · skip
          have ec29 : (A.num .and .i64 n2 4) = 0 := neq_f hA c29
          refine go_skip ?_
          refine go_seq ?_
          refine go_reg ?_
          refine run_aops hA 1 _ _ _ _ (by cbv) ?_
          obtain ⟨v28_35, hv28_35, hc36⟩ : ∃ (v28_35 : ByteArray), v28_35 = (joinB ([] ++ [((ByteArray.mk #[102, 108, 97, 103, 103, 101, 100]) : ByteArray)]) (ByteArray.mk #[32])) ∧ Real Tryd.prog 20 [.sl 1 (eraseR r28), .str (ByteArray.mk #[32])] (.str v28_35) := ⟨_, rfl, by subst er28; simp only [erR_String]; exact rJoin A hA ([] ++ [((ByteArray.mk #[102, 108, 97, 103, 103, 101, 100]) : ByteArray)]) (ByteArray.mk #[32]) (by decide) (by decide)⟩
          refine ops_callV rfl rfl (by cbv) (by cbv) hc36 (.inl trivial) (by cbv) ?_
          obtain ⟨s37, hs37⟩ : ∃ s : ByteArray, s = (ByteArray.mk #[40]) ++ v28_35 := ⟨_, rfl⟩
          have zs37 : ByteArray.size s37 = ByteArray.size (ByteArray.mk #[40]) + ByteArray.size v28_35 := by rw [hs37]; exact ByteArray.size_append
          have bs37 : ByteArray.size (ByteArray.mk #[40]) + ByteArray.size v28_35 ≤ 140737488355328 := by
            have hj : ByteArray.size v28_35 ≤ 30 := by rw [hv28_35]; decide
            have e1 : (ByteArray.mk #[40]).size = 1 := rfl
            have e2 : (ByteArray.mk #[41]).size = 1 := rfl
            omega
          refine ops_step rfl rfl (str_add rfl rfl rfl hs37 bs37) ?_
          obtain ⟨s38, hs38⟩ : ∃ s : ByteArray, s = s37 ++ (ByteArray.mk #[41]) := ⟨_, rfl⟩
          have zs38 : ByteArray.size s38 = ByteArray.size s37 + ByteArray.size (ByteArray.mk #[41]) := by rw [hs38]; exact ByteArray.size_append
          have bs38 : ByteArray.size s37 + ByteArray.size (ByteArray.mk #[41]) ≤ 140737488355328 := by
            have hj : ByteArray.size v28_35 ≤ 30 := by rw [hv28_35]; decide
            have e1 : (ByteArray.mk #[40]).size = 1 := rfl
            have e2 : (ByteArray.mk #[41]).size = 1 := rfl
            omega
          refine ops_step rfl rfl (str_add rfl rfl rfl hs38 bs38) ?_
          refine run_aops hA 1 _ _ _ _ (by cbv) ?_
          refine ops_done ?_
          refine go_ret ⟨_, by cbv, ?_⟩
          show _ = (PV.str s38)
          refine congrArg PV.str ?_
          subst hA
          have b0 : bitF f 0 = false := by
            have hab : std.num .and .i64 n2 1 = 0 ↔ bitF f 0 = false := and_bit 0 (by decide) hf (.inr ⟨by omega, hn2⟩)
            exact hab.1 (by assumption)
          have b1 : bitF f 1 = true := by
            have hab : std.num .and .i64 n2 2 = 0 ↔ bitF f 1 = false := and_bit 1 (by decide) hf (.inr ⟨by omega, hn2⟩)
            cases hb : bitF f 1 with
            | true => rfl
            | false => exact absurd (hab.2 hb) (by assumption)
          have b2 : bitF f 2 = false := by
            have hab : std.num .and .i64 n2 4 = 0 ↔ bitF f 2 = false := and_bit 2 (by decide) hf (.inr ⟨by omega, hn2⟩)
            exact hab.1 (by assumption)
          have hj : (joinB ([] ++ [((ByteArray.mk #[102, 108, 97, 103, 103, 101, 100]) : ByteArray)]) (ByteArray.mk #[32])) = fwS f 3 := fwS_join f _ (by simp [b0, b1, b2, wdF, wdsF])
          rw [hs38, hs37, hv28_35, hj]; rfl
      · skip
        have ec27 : (A.num .and .i64 n2 2) = 0 := neq_f hA c27
        refine go_skip ?_
        refine go_seq ?_
        refine go_seq ?_
        refine go_reg ?_
        refine run_aops hA 3 _ _ _ _ (by cbv) ?_
        refine ops_done ?_
        refine go_cond rfl (fun c39 => ?_) (fun c39 => ?_)
        · skip
          have ec39 : (A.num .and .i64 n2 4) ≠ 0 := neq_t hA c39
          refine go_reg ?_
          refine run_aops hA 2 _ _ _ _ (by cbv) ?_
          obtain ⟨r40, hr40⟩ : ∃ r : List (List PV), r = ([]) ++ [[.str (ByteArray.mk #[100, 101, 108, 101, 116, 101, 100])]] := ⟨_, rfl⟩
          have er40 : r40 = List.map eString (([]) ++ ([((ByteArray.mk #[100, 101, 108, 101, 116, 101, 100]) : ByteArray)])) := by rw [hr40]; exact app_eq rfl (by rfl)
          have lr40 : A.rlen r40 = (List.length (([]) ++ ([((ByteArray.mk #[100, 101, 108, 101, 116, 101, 100]) : ByteArray)])) : Int) := rlen_map hA er40
          refine ops_step rfl rfl (app_own rfl rfl rfl rfl rfl rfl rfl rfl hr40 (by cbv) (by cbv) (by cbv) rfl (by
            show (List.length ([]) + List.length ([[.str (ByteArray.mk #[100, 101, 108, 101, 116, 101, 100])]])) * _ ≤ _
            decide) (by decide) (by decide)) ?_
          refine run_aops hA 1 _ _ _ _ (by cbv) ?_
          refine ops_done ?_
          refine go_seq ?_
          refine go_reg ?_
          refine run_aops hA 1 _ _ _ _ (by cbv) ?_
          obtain ⟨v28_41, hv28_41, hc42⟩ : ∃ (v28_41 : ByteArray), v28_41 = (joinB ([] ++ [((ByteArray.mk #[100, 101, 108, 101, 116, 101, 100]) : ByteArray)]) (ByteArray.mk #[32])) ∧ Real Tryd.prog 20 [.sl 1 (eraseR r40), .str (ByteArray.mk #[32])] (.str v28_41) := ⟨_, rfl, by subst er40; simp only [erR_String]; exact rJoin A hA ([] ++ [((ByteArray.mk #[100, 101, 108, 101, 116, 101, 100]) : ByteArray)]) (ByteArray.mk #[32]) (by decide) (by decide)⟩
          refine ops_callV rfl rfl (by cbv) (by cbv) hc42 (.inl trivial) (by cbv) ?_
          obtain ⟨s43, hs43⟩ : ∃ s : ByteArray, s = (ByteArray.mk #[40]) ++ v28_41 := ⟨_, rfl⟩
          have zs43 : ByteArray.size s43 = ByteArray.size (ByteArray.mk #[40]) + ByteArray.size v28_41 := by rw [hs43]; exact ByteArray.size_append
          have bs43 : ByteArray.size (ByteArray.mk #[40]) + ByteArray.size v28_41 ≤ 140737488355328 := by
            have hj : ByteArray.size v28_41 ≤ 30 := by rw [hv28_41]; decide
            have e1 : (ByteArray.mk #[40]).size = 1 := rfl
            have e2 : (ByteArray.mk #[41]).size = 1 := rfl
            omega
          refine ops_step rfl rfl (str_add rfl rfl rfl hs43 bs43) ?_
          obtain ⟨s44, hs44⟩ : ∃ s : ByteArray, s = s43 ++ (ByteArray.mk #[41]) := ⟨_, rfl⟩
          have zs44 : ByteArray.size s44 = ByteArray.size s43 + ByteArray.size (ByteArray.mk #[41]) := by rw [hs44]; exact ByteArray.size_append
          have bs44 : ByteArray.size s43 + ByteArray.size (ByteArray.mk #[41]) ≤ 140737488355328 := by
            have hj : ByteArray.size v28_41 ≤ 30 := by rw [hv28_41]; decide
            have e1 : (ByteArray.mk #[40]).size = 1 := rfl
            have e2 : (ByteArray.mk #[41]).size = 1 := rfl
            omega
          refine ops_step rfl rfl (str_add rfl rfl rfl hs44 bs44) ?_
          refine run_aops hA 1 _ _ _ _ (by cbv) ?_
          refine ops_done ?_
          refine go_ret ⟨_, by cbv, ?_⟩
          show _ = (PV.str s44)
          refine congrArg PV.str ?_
          subst hA
          have b0 : bitF f 0 = false := by
            have hab : std.num .and .i64 n2 1 = 0 ↔ bitF f 0 = false := and_bit 0 (by decide) hf (.inr ⟨by omega, hn2⟩)
            exact hab.1 (by assumption)
          have b1 : bitF f 1 = false := by
            have hab : std.num .and .i64 n2 2 = 0 ↔ bitF f 1 = false := and_bit 1 (by decide) hf (.inr ⟨by omega, hn2⟩)
            exact hab.1 (by assumption)
          have b2 : bitF f 2 = true := by
            have hab : std.num .and .i64 n2 4 = 0 ↔ bitF f 2 = false := and_bit 2 (by decide) hf (.inr ⟨by omega, hn2⟩)
            cases hb : bitF f 2 with
            | true => rfl
            | false => exact absurd (hab.2 hb) (by assumption)
          have hj : (joinB ([] ++ [((ByteArray.mk #[100, 101, 108, 101, 116, 101, 100]) : ByteArray)]) (ByteArray.mk #[32])) = fwS f 3 := fwS_join f _ (by simp [b0, b1, b2, wdF, wdsF])
          rw [hs44, hs43, hv28_41, hj]; rfl
        · skip
          have ec39 : (A.num .and .i64 n2 4) = 0 := neq_f hA c39
          refine go_skip ?_
          refine go_seq ?_
          refine go_reg ?_
          refine run_aops hA 1 _ _ _ _ (by cbv) ?_
          obtain ⟨v28_45, hv28_45, hc46⟩ : ∃ (v28_45 : ByteArray), v28_45 = (joinB ([]) (ByteArray.mk #[32])) ∧ Real Tryd.prog 20 [.sl 1 (eraseR []), .str (ByteArray.mk #[32])] (.str v28_45) := ⟨_, rfl, by exact rJoin A hA ([]) (ByteArray.mk #[32]) (by decide) (by decide)⟩
          refine ops_callV rfl rfl (by cbv) (by cbv) hc46 (.inl trivial) (by cbv) ?_
          obtain ⟨s47, hs47⟩ : ∃ s : ByteArray, s = (ByteArray.mk #[40]) ++ v28_45 := ⟨_, rfl⟩
          have zs47 : ByteArray.size s47 = ByteArray.size (ByteArray.mk #[40]) + ByteArray.size v28_45 := by rw [hs47]; exact ByteArray.size_append
          have bs47 : ByteArray.size (ByteArray.mk #[40]) + ByteArray.size v28_45 ≤ 140737488355328 := by
            have hj : ByteArray.size v28_45 ≤ 30 := by rw [hv28_45]; decide
            have e1 : (ByteArray.mk #[40]).size = 1 := rfl
            have e2 : (ByteArray.mk #[41]).size = 1 := rfl
            omega
          refine ops_step rfl rfl (str_add rfl rfl rfl hs47 bs47) ?_
          obtain ⟨s48, hs48⟩ : ∃ s : ByteArray, s = s47 ++ (ByteArray.mk #[41]) := ⟨_, rfl⟩
          have zs48 : ByteArray.size s48 = ByteArray.size s47 + ByteArray.size (ByteArray.mk #[41]) := by rw [hs48]; exact ByteArray.size_append
          have bs48 : ByteArray.size s47 + ByteArray.size (ByteArray.mk #[41]) ≤ 140737488355328 := by
            have hj : ByteArray.size v28_45 ≤ 30 := by rw [hv28_45]; decide
            have e1 : (ByteArray.mk #[40]).size = 1 := rfl
            have e2 : (ByteArray.mk #[41]).size = 1 := rfl
            omega
          refine ops_step rfl rfl (str_add rfl rfl rfl hs48 bs48) ?_
          refine run_aops hA 1 _ _ _ _ (by cbv) ?_
          refine ops_done ?_
          refine go_ret ⟨_, by cbv, ?_⟩
          show _ = (PV.str s48)
          refine congrArg PV.str ?_
          subst hA
          have b0 : bitF f 0 = false := by
            have hab : std.num .and .i64 n2 1 = 0 ↔ bitF f 0 = false := and_bit 0 (by decide) hf (.inr ⟨by omega, hn2⟩)
            exact hab.1 (by assumption)
          have b1 : bitF f 1 = false := by
            have hab : std.num .and .i64 n2 2 = 0 ↔ bitF f 1 = false := and_bit 1 (by decide) hf (.inr ⟨by omega, hn2⟩)
            exact hab.1 (by assumption)
          have b2 : bitF f 2 = false := by
            have hab : std.num .and .i64 n2 4 = 0 ↔ bitF f 2 = false := and_bit 2 (by decide) hf (.inr ⟨by omega, hn2⟩)
            exact hab.1 (by assumption)
          have hj : (joinB ([]) (ByteArray.mk #[32])) = fwS f 3 := fwS_join f _ (by simp [b0, b1, b2, wdF, wdsF])
          rw [hs48, hs47, hv28_45, hj]; rfl
  · skip
    have ec1 : 0 ≤ f := lss_f hA c1
    refine go_skip ?_
    refine go_seq ?_
    refine go_seq ?_
    refine go_reg ?_
    refine run_aops hA 3 _ _ _ _ (by cbv) ?_
    refine ops_done ?_
    refine go_cond rfl (fun c49 => ?_) (fun c49 => ?_)
    · skip
      have ec49 : (A.num .and .i64 f 1) ≠ 0 := neq_t hA c49
      refine go_reg ?_
      refine run_aops hA 2 _ _ _ _ (by cbv) ?_
      obtain ⟨r50, hr50⟩ : ∃ r : List (List PV), r = ([]) ++ [[.str (ByteArray.mk #[115, 101, 101, 110])]] := ⟨_, rfl⟩
      have er50 : r50 = List.map eString (([]) ++ ([((ByteArray.mk #[115, 101, 101, 110]) : ByteArray)])) := by rw [hr50]; exact app_eq rfl (by rfl)
      have lr50 : A.rlen r50 = (List.length (([]) ++ ([((ByteArray.mk #[115, 101, 101, 110]) : ByteArray)])) : Int) := rlen_map hA er50
      refine ops_step rfl rfl (app_own rfl rfl rfl rfl rfl rfl rfl rfl hr50 (by cbv) (by cbv) (by cbv) rfl (by
        show (List.length ([]) + List.length ([[.str (ByteArray.mk #[115, 101, 101, 110])]])) * _ ≤ _
        decide) (by decide) (by decide)) ?_
      refine run_aops hA 1 _ _ _ _ (by cbv) ?_
      refine ops_done ?_
      refine go_seq ?_
      refine go_seq ?_
      refine go_reg ?_
      refine run_aops hA 3 _ _ _ _ (by cbv) ?_
      refine ops_done ?_
      refine go_cond rfl (fun c51 => ?_) (fun c51 => ?_)
      · skip
        have ec51 : (A.num .and .i64 f 2) ≠ 0 := neq_t hA c51
        refine go_reg ?_
        refine run_aops hA 2 _ _ _ _ (by cbv) ?_
        obtain ⟨r52, hr52⟩ : ∃ r : List (List PV), r = r50 ++ [[.str (ByteArray.mk #[102, 108, 97, 103, 103, 101, 100])]] := ⟨_, rfl⟩
        have er52 : r52 = List.map eString (([] ++ [((ByteArray.mk #[115, 101, 101, 110]) : ByteArray)]) ++ ([((ByteArray.mk #[102, 108, 97, 103, 103, 101, 100]) : ByteArray)])) := by rw [hr52]; exact app_eq er50 (by rfl)
        have lr52 : A.rlen r52 = (List.length (([] ++ [((ByteArray.mk #[115, 101, 101, 110]) : ByteArray)]) ++ ([((ByteArray.mk #[102, 108, 97, 103, 103, 101, 100]) : ByteArray)])) : Int) := rlen_map hA er52
        refine ops_step rfl rfl (app_own rfl rfl rfl rfl rfl rfl rfl rfl hr52 (by cbv) (by cbv) (by cbv) rfl (by
          show (List.length r50 + List.length ([[.str (ByteArray.mk #[102, 108, 97, 103, 103, 101, 100])]])) * _ ≤ _
          rw [er50]; decide) (by decide) (by decide)) ?_
        refine run_aops hA 1 _ _ _ _ (by cbv) ?_
        refine ops_done ?_
        refine go_seq ?_
        refine go_seq ?_
        refine go_reg ?_
        refine run_aops hA 3 _ _ _ _ (by cbv) ?_
        refine ops_done ?_
        refine go_cond rfl (fun c53 => ?_) (fun c53 => ?_)
        · skip
          have ec53 : (A.num .and .i64 f 4) ≠ 0 := neq_t hA c53
          refine go_reg ?_
          refine run_aops hA 2 _ _ _ _ (by cbv) ?_
          obtain ⟨r54, hr54⟩ : ∃ r : List (List PV), r = r52 ++ [[.str (ByteArray.mk #[100, 101, 108, 101, 116, 101, 100])]] := ⟨_, rfl⟩
          have er54 : r54 = List.map eString (([] ++ [((ByteArray.mk #[115, 101, 101, 110]) : ByteArray)] ++ [((ByteArray.mk #[102, 108, 97, 103, 103, 101, 100]) : ByteArray)]) ++ ([((ByteArray.mk #[100, 101, 108, 101, 116, 101, 100]) : ByteArray)])) := by rw [hr54]; exact app_eq er52 (by rfl)
          have lr54 : A.rlen r54 = (List.length (([] ++ [((ByteArray.mk #[115, 101, 101, 110]) : ByteArray)] ++ [((ByteArray.mk #[102, 108, 97, 103, 103, 101, 100]) : ByteArray)]) ++ ([((ByteArray.mk #[100, 101, 108, 101, 116, 101, 100]) : ByteArray)])) : Int) := rlen_map hA er54
          refine ops_step rfl rfl (app_own rfl rfl rfl rfl rfl rfl rfl rfl hr54 (by cbv) (by cbv) (by cbv) rfl (by
            show (List.length r52 + List.length ([[.str (ByteArray.mk #[100, 101, 108, 101, 116, 101, 100])]])) * _ ≤ _
            rw [er52]; decide) (by decide) (by decide)) ?_
          refine run_aops hA 1 _ _ _ _ (by cbv) ?_
          refine ops_done ?_
          refine go_seq ?_
          refine go_reg ?_
          refine run_aops hA 1 _ _ _ _ (by cbv) ?_
          obtain ⟨v28_55, hv28_55, hc56⟩ : ∃ (v28_55 : ByteArray), v28_55 = (joinB ([] ++ [((ByteArray.mk #[115, 101, 101, 110]) : ByteArray)] ++ [((ByteArray.mk #[102, 108, 97, 103, 103, 101, 100]) : ByteArray)] ++ [((ByteArray.mk #[100, 101, 108, 101, 116, 101, 100]) : ByteArray)]) (ByteArray.mk #[32])) ∧ Real Tryd.prog 20 [.sl 1 (eraseR r54), .str (ByteArray.mk #[32])] (.str v28_55) := ⟨_, rfl, by subst er54; simp only [erR_String]; exact rJoin A hA ([] ++ [((ByteArray.mk #[115, 101, 101, 110]) : ByteArray)] ++ [((ByteArray.mk #[102, 108, 97, 103, 103, 101, 100]) : ByteArray)] ++ [((ByteArray.mk #[100, 101, 108, 101, 116, 101, 100]) : ByteArray)]) (ByteArray.mk #[32]) (by decide) (by decide)⟩
          refine ops_callV rfl rfl (by cbv) (by cbv) hc56 (.inl trivial) (by cbv) ?_
          obtain ⟨s57, hs57⟩ : ∃ s : ByteArray, s = (ByteArray.mk #[40]) ++ v28_55 := ⟨_, rfl⟩
          have zs57 : ByteArray.size s57 = ByteArray.size (ByteArray.mk #[40]) + ByteArray.size v28_55 := by rw [hs57]; exact ByteArray.size_append
          have bs57 : ByteArray.size (ByteArray.mk #[40]) + ByteArray.size v28_55 ≤ 140737488355328 := by
            have hj : ByteArray.size v28_55 ≤ 30 := by rw [hv28_55]; decide
            have e1 : (ByteArray.mk #[40]).size = 1 := rfl
            have e2 : (ByteArray.mk #[41]).size = 1 := rfl
            omega
          refine ops_step rfl rfl (str_add rfl rfl rfl hs57 bs57) ?_
          obtain ⟨s58, hs58⟩ : ∃ s : ByteArray, s = s57 ++ (ByteArray.mk #[41]) := ⟨_, rfl⟩
          have zs58 : ByteArray.size s58 = ByteArray.size s57 + ByteArray.size (ByteArray.mk #[41]) := by rw [hs58]; exact ByteArray.size_append
          have bs58 : ByteArray.size s57 + ByteArray.size (ByteArray.mk #[41]) ≤ 140737488355328 := by
            have hj : ByteArray.size v28_55 ≤ 30 := by rw [hv28_55]; decide
            have e1 : (ByteArray.mk #[40]).size = 1 := rfl
            have e2 : (ByteArray.mk #[41]).size = 1 := rfl
            omega
          refine ops_step rfl rfl (str_add rfl rfl rfl hs58 bs58) ?_
          refine run_aops hA 1 _ _ _ _ (by cbv) ?_
          refine ops_done ?_
          refine go_ret ⟨_, by cbv, ?_⟩
          show _ = (PV.str s58)
          refine congrArg PV.str ?_
          subst hA
          have b0 : bitF f 0 = true := by
            have hab : std.num .and .i64 f 1 = 0 ↔ bitF f 0 = false := and_bit 0 (by decide) hf (.inl ⟨by omega, rfl⟩)
            cases hb : bitF f 0 with
            | true => rfl
            | false => exact absurd (hab.2 hb) (by assumption)
          have b1 : bitF f 1 = true := by
            have hab : std.num .and .i64 f 2 = 0 ↔ bitF f 1 = false := and_bit 1 (by decide) hf (.inl ⟨by omega, rfl⟩)
            cases hb : bitF f 1 with
            | true => rfl
            | false => exact absurd (hab.2 hb) (by assumption)
          have b2 : bitF f 2 = true := by
            have hab : std.num .and .i64 f 4 = 0 ↔ bitF f 2 = false := and_bit 2 (by decide) hf (.inl ⟨by omega, rfl⟩)
            cases hb : bitF f 2 with
            | true => rfl
            | false => exact absurd (hab.2 hb) (by assumption)
          have hj : (joinB ([] ++ [((ByteArray.mk #[115, 101, 101, 110]) : ByteArray)] ++ [((ByteArray.mk #[102, 108, 97, 103, 103, 101, 100]) : ByteArray)] ++ [((ByteArray.mk #[100, 101, 108, 101, 116, 101, 100]) : ByteArray)]) (ByteArray.mk #[32])) = fwS f 3 := fwS_join f _ (by simp [b0, b1, b2, wdF, wdsF])
          rw [hs58, hs57, hv28_55, hj]; rfl
        · skip
          have ec53 : (A.num .and .i64 f 4) = 0 := neq_f hA c53
          refine go_skip ?_
          refine go_seq ?_
          refine go_reg ?_
          refine run_aops hA 1 _ _ _ _ (by cbv) ?_
          obtain ⟨v28_59, hv28_59, hc60⟩ : ∃ (v28_59 : ByteArray), v28_59 = (joinB ([] ++ [((ByteArray.mk #[115, 101, 101, 110]) : ByteArray)] ++ [((ByteArray.mk #[102, 108, 97, 103, 103, 101, 100]) : ByteArray)]) (ByteArray.mk #[32])) ∧ Real Tryd.prog 20 [.sl 1 (eraseR r52), .str (ByteArray.mk #[32])] (.str v28_59) := ⟨_, rfl, by subst er52; simp only [erR_String]; exact rJoin A hA ([] ++ [((ByteArray.mk #[115, 101, 101, 110]) : ByteArray)] ++ [((ByteArray.mk #[102, 108, 97, 103, 103, 101, 100]) : ByteArray)]) (ByteArray.mk #[32]) (by decide) (by decide)⟩
          refine ops_callV rfl rfl (by cbv) (by cbv) hc60 (.inl trivial) (by cbv) ?_
          obtain ⟨s61, hs61⟩ : ∃ s : ByteArray, s = (ByteArray.mk #[40]) ++ v28_59 := ⟨_, rfl⟩
          have zs61 : ByteArray.size s61 = ByteArray.size (ByteArray.mk #[40]) + ByteArray.size v28_59 := by rw [hs61]; exact ByteArray.size_append
          have bs61 : ByteArray.size (ByteArray.mk #[40]) + ByteArray.size v28_59 ≤ 140737488355328 := by
            have hj : ByteArray.size v28_59 ≤ 30 := by rw [hv28_59]; decide
            have e1 : (ByteArray.mk #[40]).size = 1 := rfl
            have e2 : (ByteArray.mk #[41]).size = 1 := rfl
            omega
          refine ops_step rfl rfl (str_add rfl rfl rfl hs61 bs61) ?_
          obtain ⟨s62, hs62⟩ : ∃ s : ByteArray, s = s61 ++ (ByteArray.mk #[41]) := ⟨_, rfl⟩
          have zs62 : ByteArray.size s62 = ByteArray.size s61 + ByteArray.size (ByteArray.mk #[41]) := by rw [hs62]; exact ByteArray.size_append
          have bs62 : ByteArray.size s61 + ByteArray.size (ByteArray.mk #[41]) ≤ 140737488355328 := by
            have hj : ByteArray.size v28_59 ≤ 30 := by rw [hv28_59]; decide
            have e1 : (ByteArray.mk #[40]).size = 1 := rfl
            have e2 : (ByteArray.mk #[41]).size = 1 := rfl
            omega
          refine ops_step rfl rfl (str_add rfl rfl rfl hs62 bs62) ?_
          refine run_aops hA 1 _ _ _ _ (by cbv) ?_
          refine ops_done ?_
          refine go_ret ⟨_, by cbv, ?_⟩
          show _ = (PV.str s62)
          refine congrArg PV.str ?_
          subst hA
          have b0 : bitF f 0 = true := by
            have hab : std.num .and .i64 f 1 = 0 ↔ bitF f 0 = false := and_bit 0 (by decide) hf (.inl ⟨by omega, rfl⟩)
            cases hb : bitF f 0 with
            | true => rfl
            | false => exact absurd (hab.2 hb) (by assumption)
          have b1 : bitF f 1 = true := by
            have hab : std.num .and .i64 f 2 = 0 ↔ bitF f 1 = false := and_bit 1 (by decide) hf (.inl ⟨by omega, rfl⟩)
            cases hb : bitF f 1 with
            | true => rfl
            | false => exact absurd (hab.2 hb) (by assumption)
          have b2 : bitF f 2 = false := by
            have hab : std.num .and .i64 f 4 = 0 ↔ bitF f 2 = false := and_bit 2 (by decide) hf (.inl ⟨by omega, rfl⟩)
            exact hab.1 (by assumption)
          have hj : (joinB ([] ++ [((ByteArray.mk #[115, 101, 101, 110]) : ByteArray)] ++ [((ByteArray.mk #[102, 108, 97, 103, 103, 101, 100]) : ByteArray)]) (ByteArray.mk #[32])) = fwS f 3 := fwS_join f _ (by simp [b0, b1, b2, wdF, wdsF])
          rw [hs62, hs61, hv28_59, hj]; rfl
      · skip
        have ec51 : (A.num .and .i64 f 2) = 0 := neq_f hA c51
        refine go_skip ?_
        refine go_seq ?_
        refine go_seq ?_
        refine go_reg ?_
        refine run_aops hA 3 _ _ _ _ (by cbv) ?_
        refine ops_done ?_
        refine go_cond rfl (fun c63 => ?_) (fun c63 => ?_)
        · skip
          have ec63 : (A.num .and .i64 f 4) ≠ 0 := neq_t hA c63
          refine go_reg ?_
          refine run_aops hA 2 _ _ _ _ (by cbv) ?_
          obtain ⟨r64, hr64⟩ : ∃ r : List (List PV), r = r50 ++ [[.str (ByteArray.mk #[100, 101, 108, 101, 116, 101, 100])]] := ⟨_, rfl⟩
          have er64 : r64 = List.map eString (([] ++ [((ByteArray.mk #[115, 101, 101, 110]) : ByteArray)]) ++ ([((ByteArray.mk #[100, 101, 108, 101, 116, 101, 100]) : ByteArray)])) := by rw [hr64]; exact app_eq er50 (by rfl)
          have lr64 : A.rlen r64 = (List.length (([] ++ [((ByteArray.mk #[115, 101, 101, 110]) : ByteArray)]) ++ ([((ByteArray.mk #[100, 101, 108, 101, 116, 101, 100]) : ByteArray)])) : Int) := rlen_map hA er64
          refine ops_step rfl rfl (app_own rfl rfl rfl rfl rfl rfl rfl rfl hr64 (by cbv) (by cbv) (by cbv) rfl (by
            show (List.length r50 + List.length ([[.str (ByteArray.mk #[100, 101, 108, 101, 116, 101, 100])]])) * _ ≤ _
            rw [er50]; decide) (by decide) (by decide)) ?_
          refine run_aops hA 1 _ _ _ _ (by cbv) ?_
          refine ops_done ?_
          refine go_seq ?_
          refine go_reg ?_
          refine run_aops hA 1 _ _ _ _ (by cbv) ?_
          obtain ⟨v28_65, hv28_65, hc66⟩ : ∃ (v28_65 : ByteArray), v28_65 = (joinB ([] ++ [((ByteArray.mk #[115, 101, 101, 110]) : ByteArray)] ++ [((ByteArray.mk #[100, 101, 108, 101, 116, 101, 100]) : ByteArray)]) (ByteArray.mk #[32])) ∧ Real Tryd.prog 20 [.sl 1 (eraseR r64), .str (ByteArray.mk #[32])] (.str v28_65) := ⟨_, rfl, by subst er64; simp only [erR_String]; exact rJoin A hA ([] ++ [((ByteArray.mk #[115, 101, 101, 110]) : ByteArray)] ++ [((ByteArray.mk #[100, 101, 108, 101, 116, 101, 100]) : ByteArray)]) (ByteArray.mk #[32]) (by decide) (by decide)⟩
          refine ops_callV rfl rfl (by cbv) (by cbv) hc66 (.inl trivial) (by cbv) ?_
          obtain ⟨s67, hs67⟩ : ∃ s : ByteArray, s = (ByteArray.mk #[40]) ++ v28_65 := ⟨_, rfl⟩
          have zs67 : ByteArray.size s67 = ByteArray.size (ByteArray.mk #[40]) + ByteArray.size v28_65 := by rw [hs67]; exact ByteArray.size_append
          have bs67 : ByteArray.size (ByteArray.mk #[40]) + ByteArray.size v28_65 ≤ 140737488355328 := by
            have hj : ByteArray.size v28_65 ≤ 30 := by rw [hv28_65]; decide
            have e1 : (ByteArray.mk #[40]).size = 1 := rfl
            have e2 : (ByteArray.mk #[41]).size = 1 := rfl
            omega
          refine ops_step rfl rfl (str_add rfl rfl rfl hs67 bs67) ?_
          obtain ⟨s68, hs68⟩ : ∃ s : ByteArray, s = s67 ++ (ByteArray.mk #[41]) := ⟨_, rfl⟩
          have zs68 : ByteArray.size s68 = ByteArray.size s67 + ByteArray.size (ByteArray.mk #[41]) := by rw [hs68]; exact ByteArray.size_append
          have bs68 : ByteArray.size s67 + ByteArray.size (ByteArray.mk #[41]) ≤ 140737488355328 := by
            have hj : ByteArray.size v28_65 ≤ 30 := by rw [hv28_65]; decide
            have e1 : (ByteArray.mk #[40]).size = 1 := rfl
            have e2 : (ByteArray.mk #[41]).size = 1 := rfl
            omega
          refine ops_step rfl rfl (str_add rfl rfl rfl hs68 bs68) ?_
          refine run_aops hA 1 _ _ _ _ (by cbv) ?_
          refine ops_done ?_
          refine go_ret ⟨_, by cbv, ?_⟩
          show _ = (PV.str s68)
          refine congrArg PV.str ?_
          subst hA
          have b0 : bitF f 0 = true := by
            have hab : std.num .and .i64 f 1 = 0 ↔ bitF f 0 = false := and_bit 0 (by decide) hf (.inl ⟨by omega, rfl⟩)
            cases hb : bitF f 0 with
            | true => rfl
            | false => exact absurd (hab.2 hb) (by assumption)
          have b1 : bitF f 1 = false := by
            have hab : std.num .and .i64 f 2 = 0 ↔ bitF f 1 = false := and_bit 1 (by decide) hf (.inl ⟨by omega, rfl⟩)
            exact hab.1 (by assumption)
          have b2 : bitF f 2 = true := by
            have hab : std.num .and .i64 f 4 = 0 ↔ bitF f 2 = false := and_bit 2 (by decide) hf (.inl ⟨by omega, rfl⟩)
            cases hb : bitF f 2 with
            | true => rfl
            | false => exact absurd (hab.2 hb) (by assumption)
          have hj : (joinB ([] ++ [((ByteArray.mk #[115, 101, 101, 110]) : ByteArray)] ++ [((ByteArray.mk #[100, 101, 108, 101, 116, 101, 100]) : ByteArray)]) (ByteArray.mk #[32])) = fwS f 3 := fwS_join f _ (by simp [b0, b1, b2, wdF, wdsF])
          rw [hs68, hs67, hv28_65, hj]; rfl
        · skip
          have ec63 : (A.num .and .i64 f 4) = 0 := neq_f hA c63
          refine go_skip ?_
          refine go_seq ?_
          refine go_reg ?_
          refine run_aops hA 1 _ _ _ _ (by cbv) ?_
          obtain ⟨v28_69, hv28_69, hc70⟩ : ∃ (v28_69 : ByteArray), v28_69 = (joinB ([] ++ [((ByteArray.mk #[115, 101, 101, 110]) : ByteArray)]) (ByteArray.mk #[32])) ∧ Real Tryd.prog 20 [.sl 1 (eraseR r50), .str (ByteArray.mk #[32])] (.str v28_69) := ⟨_, rfl, by subst er50; simp only [erR_String]; exact rJoin A hA ([] ++ [((ByteArray.mk #[115, 101, 101, 110]) : ByteArray)]) (ByteArray.mk #[32]) (by decide) (by decide)⟩
          refine ops_callV rfl rfl (by cbv) (by cbv) hc70 (.inl trivial) (by cbv) ?_
          obtain ⟨s71, hs71⟩ : ∃ s : ByteArray, s = (ByteArray.mk #[40]) ++ v28_69 := ⟨_, rfl⟩
          have zs71 : ByteArray.size s71 = ByteArray.size (ByteArray.mk #[40]) + ByteArray.size v28_69 := by rw [hs71]; exact ByteArray.size_append
          have bs71 : ByteArray.size (ByteArray.mk #[40]) + ByteArray.size v28_69 ≤ 140737488355328 := by
            have hj : ByteArray.size v28_69 ≤ 30 := by rw [hv28_69]; decide
            have e1 : (ByteArray.mk #[40]).size = 1 := rfl
            have e2 : (ByteArray.mk #[41]).size = 1 := rfl
            omega
          refine ops_step rfl rfl (str_add rfl rfl rfl hs71 bs71) ?_
          obtain ⟨s72, hs72⟩ : ∃ s : ByteArray, s = s71 ++ (ByteArray.mk #[41]) := ⟨_, rfl⟩
          have zs72 : ByteArray.size s72 = ByteArray.size s71 + ByteArray.size (ByteArray.mk #[41]) := by rw [hs72]; exact ByteArray.size_append
          have bs72 : ByteArray.size s71 + ByteArray.size (ByteArray.mk #[41]) ≤ 140737488355328 := by
            have hj : ByteArray.size v28_69 ≤ 30 := by rw [hv28_69]; decide
            have e1 : (ByteArray.mk #[40]).size = 1 := rfl
            have e2 : (ByteArray.mk #[41]).size = 1 := rfl
            omega
          refine ops_step rfl rfl (str_add rfl rfl rfl hs72 bs72) ?_
          refine run_aops hA 1 _ _ _ _ (by cbv) ?_
          refine ops_done ?_
          refine go_ret ⟨_, by cbv, ?_⟩
          show _ = (PV.str s72)
          refine congrArg PV.str ?_
          subst hA
          have b0 : bitF f 0 = true := by
            have hab : std.num .and .i64 f 1 = 0 ↔ bitF f 0 = false := and_bit 0 (by decide) hf (.inl ⟨by omega, rfl⟩)
            cases hb : bitF f 0 with
            | true => rfl
            | false => exact absurd (hab.2 hb) (by assumption)
          have b1 : bitF f 1 = false := by
            have hab : std.num .and .i64 f 2 = 0 ↔ bitF f 1 = false := and_bit 1 (by decide) hf (.inl ⟨by omega, rfl⟩)
            exact hab.1 (by assumption)
          have b2 : bitF f 2 = false := by
            have hab : std.num .and .i64 f 4 = 0 ↔ bitF f 2 = false := and_bit 2 (by decide) hf (.inl ⟨by omega, rfl⟩)
            exact hab.1 (by assumption)
          have hj : (joinB ([] ++ [((ByteArray.mk #[115, 101, 101, 110]) : ByteArray)]) (ByteArray.mk #[32])) = fwS f 3 := fwS_join f _ (by simp [b0, b1, b2, wdF, wdsF])
          rw [hs72, hs71, hv28_69, hj]; rfl
    · skip
      have ec49 : (A.num .and .i64 f 1) = 0 := neq_f hA c49
      refine go_skip ?_
      refine go_seq ?_
      refine go_seq ?_
      refine go_reg ?_
      refine run_aops hA 3 _ _ _ _ (by cbv) ?_
      refine ops_done ?_
      refine go_cond rfl (fun c73 => ?_) (fun c73 => ?_)
      · skip
        have ec73 : (A.num .and .i64 f 2) ≠ 0 := neq_t hA c73
        refine go_reg ?_
        refine run_aops hA 2 _ _ _ _ (by cbv) ?_
        obtain ⟨r74, hr74⟩ : ∃ r : List (List PV), r = ([]) ++ [[.str (ByteArray.mk #[102, 108, 97, 103, 103, 101, 100])]] := ⟨_, rfl⟩
        have er74 : r74 = List.map eString (([]) ++ ([((ByteArray.mk #[102, 108, 97, 103, 103, 101, 100]) : ByteArray)])) := by rw [hr74]; exact app_eq rfl (by rfl)
        have lr74 : A.rlen r74 = (List.length (([]) ++ ([((ByteArray.mk #[102, 108, 97, 103, 103, 101, 100]) : ByteArray)])) : Int) := rlen_map hA er74
        refine ops_step rfl rfl (app_own rfl rfl rfl rfl rfl rfl rfl rfl hr74 (by cbv) (by cbv) (by cbv) rfl (by
          show (List.length ([]) + List.length ([[.str (ByteArray.mk #[102, 108, 97, 103, 103, 101, 100])]])) * _ ≤ _
          decide) (by decide) (by decide)) ?_
        refine run_aops hA 1 _ _ _ _ (by cbv) ?_
        refine ops_done ?_
        refine go_seq ?_
        refine go_seq ?_
        refine go_reg ?_
        refine run_aops hA 3 _ _ _ _ (by cbv) ?_
        refine ops_done ?_
        refine go_cond rfl (fun c75 => ?_) (fun c75 => ?_)
        · skip
          have ec75 : (A.num .and .i64 f 4) ≠ 0 := neq_t hA c75
          refine go_reg ?_
          refine run_aops hA 2 _ _ _ _ (by cbv) ?_
          obtain ⟨r76, hr76⟩ : ∃ r : List (List PV), r = r74 ++ [[.str (ByteArray.mk #[100, 101, 108, 101, 116, 101, 100])]] := ⟨_, rfl⟩
          have er76 : r76 = List.map eString (([] ++ [((ByteArray.mk #[102, 108, 97, 103, 103, 101, 100]) : ByteArray)]) ++ ([((ByteArray.mk #[100, 101, 108, 101, 116, 101, 100]) : ByteArray)])) := by rw [hr76]; exact app_eq er74 (by rfl)
          have lr76 : A.rlen r76 = (List.length (([] ++ [((ByteArray.mk #[102, 108, 97, 103, 103, 101, 100]) : ByteArray)]) ++ ([((ByteArray.mk #[100, 101, 108, 101, 116, 101, 100]) : ByteArray)])) : Int) := rlen_map hA er76
          refine ops_step rfl rfl (app_own rfl rfl rfl rfl rfl rfl rfl rfl hr76 (by cbv) (by cbv) (by cbv) rfl (by
            show (List.length r74 + List.length ([[.str (ByteArray.mk #[100, 101, 108, 101, 116, 101, 100])]])) * _ ≤ _
            rw [er74]; decide) (by decide) (by decide)) ?_
          refine run_aops hA 1 _ _ _ _ (by cbv) ?_
          refine ops_done ?_
          refine go_seq ?_
          refine go_reg ?_
          refine run_aops hA 1 _ _ _ _ (by cbv) ?_
          obtain ⟨v28_77, hv28_77, hc78⟩ : ∃ (v28_77 : ByteArray), v28_77 = (joinB ([] ++ [((ByteArray.mk #[102, 108, 97, 103, 103, 101, 100]) : ByteArray)] ++ [((ByteArray.mk #[100, 101, 108, 101, 116, 101, 100]) : ByteArray)]) (ByteArray.mk #[32])) ∧ Real Tryd.prog 20 [.sl 1 (eraseR r76), .str (ByteArray.mk #[32])] (.str v28_77) := ⟨_, rfl, by subst er76; simp only [erR_String]; exact rJoin A hA ([] ++ [((ByteArray.mk #[102, 108, 97, 103, 103, 101, 100]) : ByteArray)] ++ [((ByteArray.mk #[100, 101, 108, 101, 116, 101, 100]) : ByteArray)]) (ByteArray.mk #[32]) (by decide) (by decide)⟩
          refine ops_callV rfl rfl (by cbv) (by cbv) hc78 (.inl trivial) (by cbv) ?_
          obtain ⟨s79, hs79⟩ : ∃ s : ByteArray, s = (ByteArray.mk #[40]) ++ v28_77 := ⟨_, rfl⟩
          have zs79 : ByteArray.size s79 = ByteArray.size (ByteArray.mk #[40]) + ByteArray.size v28_77 := by rw [hs79]; exact ByteArray.size_append
          have bs79 : ByteArray.size (ByteArray.mk #[40]) + ByteArray.size v28_77 ≤ 140737488355328 := by
            have hj : ByteArray.size v28_77 ≤ 30 := by rw [hv28_77]; decide
            have e1 : (ByteArray.mk #[40]).size = 1 := rfl
            have e2 : (ByteArray.mk #[41]).size = 1 := rfl
            omega
          refine ops_step rfl rfl (str_add rfl rfl rfl hs79 bs79) ?_
          obtain ⟨s80, hs80⟩ : ∃ s : ByteArray, s = s79 ++ (ByteArray.mk #[41]) := ⟨_, rfl⟩
          have zs80 : ByteArray.size s80 = ByteArray.size s79 + ByteArray.size (ByteArray.mk #[41]) := by rw [hs80]; exact ByteArray.size_append
          have bs80 : ByteArray.size s79 + ByteArray.size (ByteArray.mk #[41]) ≤ 140737488355328 := by
            have hj : ByteArray.size v28_77 ≤ 30 := by rw [hv28_77]; decide
            have e1 : (ByteArray.mk #[40]).size = 1 := rfl
            have e2 : (ByteArray.mk #[41]).size = 1 := rfl
            omega
          refine ops_step rfl rfl (str_add rfl rfl rfl hs80 bs80) ?_
          refine run_aops hA 1 _ _ _ _ (by cbv) ?_
          refine ops_done ?_
          refine go_ret ⟨_, by cbv, ?_⟩
          show _ = (PV.str s80)
          refine congrArg PV.str ?_
          subst hA
          have b0 : bitF f 0 = false := by
            have hab : std.num .and .i64 f 1 = 0 ↔ bitF f 0 = false := and_bit 0 (by decide) hf (.inl ⟨by omega, rfl⟩)
            exact hab.1 (by assumption)
          have b1 : bitF f 1 = true := by
            have hab : std.num .and .i64 f 2 = 0 ↔ bitF f 1 = false := and_bit 1 (by decide) hf (.inl ⟨by omega, rfl⟩)
            cases hb : bitF f 1 with
            | true => rfl
            | false => exact absurd (hab.2 hb) (by assumption)
          have b2 : bitF f 2 = true := by
            have hab : std.num .and .i64 f 4 = 0 ↔ bitF f 2 = false := and_bit 2 (by decide) hf (.inl ⟨by omega, rfl⟩)
            cases hb : bitF f 2 with
            | true => rfl
            | false => exact absurd (hab.2 hb) (by assumption)
          have hj : (joinB ([] ++ [((ByteArray.mk #[102, 108, 97, 103, 103, 101, 100]) : ByteArray)] ++ [((ByteArray.mk #[100, 101, 108, 101, 116, 101, 100]) : ByteArray)]) (ByteArray.mk #[32])) = fwS f 3 := fwS_join f _ (by simp [b0, b1, b2, wdF, wdsF])
          rw [hs80, hs79, hv28_77, hj]; rfl
        · skip
          have ec75 : (A.num .and .i64 f 4) = 0 := neq_f hA c75
          refine go_skip ?_
          refine go_seq ?_
          refine go_reg ?_
          refine run_aops hA 1 _ _ _ _ (by cbv) ?_
          obtain ⟨v28_81, hv28_81, hc82⟩ : ∃ (v28_81 : ByteArray), v28_81 = (joinB ([] ++ [((ByteArray.mk #[102, 108, 97, 103, 103, 101, 100]) : ByteArray)]) (ByteArray.mk #[32])) ∧ Real Tryd.prog 20 [.sl 1 (eraseR r74), .str (ByteArray.mk #[32])] (.str v28_81) := ⟨_, rfl, by subst er74; simp only [erR_String]; exact rJoin A hA ([] ++ [((ByteArray.mk #[102, 108, 97, 103, 103, 101, 100]) : ByteArray)]) (ByteArray.mk #[32]) (by decide) (by decide)⟩
          refine ops_callV rfl rfl (by cbv) (by cbv) hc82 (.inl trivial) (by cbv) ?_
          obtain ⟨s83, hs83⟩ : ∃ s : ByteArray, s = (ByteArray.mk #[40]) ++ v28_81 := ⟨_, rfl⟩
          have zs83 : ByteArray.size s83 = ByteArray.size (ByteArray.mk #[40]) + ByteArray.size v28_81 := by rw [hs83]; exact ByteArray.size_append
          have bs83 : ByteArray.size (ByteArray.mk #[40]) + ByteArray.size v28_81 ≤ 140737488355328 := by
            have hj : ByteArray.size v28_81 ≤ 30 := by rw [hv28_81]; decide
            have e1 : (ByteArray.mk #[40]).size = 1 := rfl
            have e2 : (ByteArray.mk #[41]).size = 1 := rfl
            omega
          refine ops_step rfl rfl (str_add rfl rfl rfl hs83 bs83) ?_
          obtain ⟨s84, hs84⟩ : ∃ s : ByteArray, s = s83 ++ (ByteArray.mk #[41]) := ⟨_, rfl⟩
          have zs84 : ByteArray.size s84 = ByteArray.size s83 + ByteArray.size (ByteArray.mk #[41]) := by rw [hs84]; exact ByteArray.size_append
          have bs84 : ByteArray.size s83 + ByteArray.size (ByteArray.mk #[41]) ≤ 140737488355328 := by
            have hj : ByteArray.size v28_81 ≤ 30 := by rw [hv28_81]; decide
            have e1 : (ByteArray.mk #[40]).size = 1 := rfl
            have e2 : (ByteArray.mk #[41]).size = 1 := rfl
            omega
          refine ops_step rfl rfl (str_add rfl rfl rfl hs84 bs84) ?_
          refine run_aops hA 1 _ _ _ _ (by cbv) ?_
          refine ops_done ?_
          refine go_ret ⟨_, by cbv, ?_⟩
          show _ = (PV.str s84)
          refine congrArg PV.str ?_
          subst hA
          have b0 : bitF f 0 = false := by
            have hab : std.num .and .i64 f 1 = 0 ↔ bitF f 0 = false := and_bit 0 (by decide) hf (.inl ⟨by omega, rfl⟩)
            exact hab.1 (by assumption)
          have b1 : bitF f 1 = true := by
            have hab : std.num .and .i64 f 2 = 0 ↔ bitF f 1 = false := and_bit 1 (by decide) hf (.inl ⟨by omega, rfl⟩)
            cases hb : bitF f 1 with
            | true => rfl
            | false => exact absurd (hab.2 hb) (by assumption)
          have b2 : bitF f 2 = false := by
            have hab : std.num .and .i64 f 4 = 0 ↔ bitF f 2 = false := and_bit 2 (by decide) hf (.inl ⟨by omega, rfl⟩)
            exact hab.1 (by assumption)
          have hj : (joinB ([] ++ [((ByteArray.mk #[102, 108, 97, 103, 103, 101, 100]) : ByteArray)]) (ByteArray.mk #[32])) = fwS f 3 := fwS_join f _ (by simp [b0, b1, b2, wdF, wdsF])
          rw [hs84, hs83, hv28_81, hj]; rfl
      · skip
        have ec73 : (A.num .and .i64 f 2) = 0 := neq_f hA c73
        refine go_skip ?_
        refine go_seq ?_
        refine go_seq ?_
        refine go_reg ?_
        refine run_aops hA 3 _ _ _ _ (by cbv) ?_
        refine ops_done ?_
        refine go_cond rfl (fun c85 => ?_) (fun c85 => ?_)
        · skip
          have ec85 : (A.num .and .i64 f 4) ≠ 0 := neq_t hA c85
          refine go_reg ?_
          refine run_aops hA 2 _ _ _ _ (by cbv) ?_
          obtain ⟨r86, hr86⟩ : ∃ r : List (List PV), r = ([]) ++ [[.str (ByteArray.mk #[100, 101, 108, 101, 116, 101, 100])]] := ⟨_, rfl⟩
          have er86 : r86 = List.map eString (([]) ++ ([((ByteArray.mk #[100, 101, 108, 101, 116, 101, 100]) : ByteArray)])) := by rw [hr86]; exact app_eq rfl (by rfl)
          have lr86 : A.rlen r86 = (List.length (([]) ++ ([((ByteArray.mk #[100, 101, 108, 101, 116, 101, 100]) : ByteArray)])) : Int) := rlen_map hA er86
          refine ops_step rfl rfl (app_own rfl rfl rfl rfl rfl rfl rfl rfl hr86 (by cbv) (by cbv) (by cbv) rfl (by
            show (List.length ([]) + List.length ([[.str (ByteArray.mk #[100, 101, 108, 101, 116, 101, 100])]])) * _ ≤ _
            decide) (by decide) (by decide)) ?_
          refine run_aops hA 1 _ _ _ _ (by cbv) ?_
          refine ops_done ?_
          refine go_seq ?_
          refine go_reg ?_
          refine run_aops hA 1 _ _ _ _ (by cbv) ?_
          obtain ⟨v28_87, hv28_87, hc88⟩ : ∃ (v28_87 : ByteArray), v28_87 = (joinB ([] ++ [((ByteArray.mk #[100, 101, 108, 101, 116, 101, 100]) : ByteArray)]) (ByteArray.mk #[32])) ∧ Real Tryd.prog 20 [.sl 1 (eraseR r86), .str (ByteArray.mk #[32])] (.str v28_87) := ⟨_, rfl, by subst er86; simp only [erR_String]; exact rJoin A hA ([] ++ [((ByteArray.mk #[100, 101, 108, 101, 116, 101, 100]) : ByteArray)]) (ByteArray.mk #[32]) (by decide) (by decide)⟩
          refine ops_callV rfl rfl (by cbv) (by cbv) hc88 (.inl trivial) (by cbv) ?_
          obtain ⟨s89, hs89⟩ : ∃ s : ByteArray, s = (ByteArray.mk #[40]) ++ v28_87 := ⟨_, rfl⟩
          have zs89 : ByteArray.size s89 = ByteArray.size (ByteArray.mk #[40]) + ByteArray.size v28_87 := by rw [hs89]; exact ByteArray.size_append
          have bs89 : ByteArray.size (ByteArray.mk #[40]) + ByteArray.size v28_87 ≤ 140737488355328 := by
            have hj : ByteArray.size v28_87 ≤ 30 := by rw [hv28_87]; decide
            have e1 : (ByteArray.mk #[40]).size = 1 := rfl
            have e2 : (ByteArray.mk #[41]).size = 1 := rfl
            omega
          refine ops_step rfl rfl (str_add rfl rfl rfl hs89 bs89) ?_
          obtain ⟨s90, hs90⟩ : ∃ s : ByteArray, s = s89 ++ (ByteArray.mk #[41]) := ⟨_, rfl⟩
          have zs90 : ByteArray.size s90 = ByteArray.size s89 + ByteArray.size (ByteArray.mk #[41]) := by rw [hs90]; exact ByteArray.size_append
          have bs90 : ByteArray.size s89 + ByteArray.size (ByteArray.mk #[41]) ≤ 140737488355328 := by
            have hj : ByteArray.size v28_87 ≤ 30 := by rw [hv28_87]; decide
            have e1 : (ByteArray.mk #[40]).size = 1 := rfl
            have e2 : (ByteArray.mk #[41]).size = 1 := rfl
            omega
          refine ops_step rfl rfl (str_add rfl rfl rfl hs90 bs90) ?_
          refine run_aops hA 1 _ _ _ _ (by cbv) ?_
          refine ops_done ?_
          refine go_ret ⟨_, by cbv, ?_⟩
          show _ = (PV.str s90)
          refine congrArg PV.str ?_
          subst hA
          have b0 : bitF f 0 = false := by
            have hab : std.num .and .i64 f 1 = 0 ↔ bitF f 0 = false := and_bit 0 (by decide) hf (.inl ⟨by omega, rfl⟩)
            exact hab.1 (by assumption)
          have b1 : bitF f 1 = false := by
            have hab : std.num .and .i64 f 2 = 0 ↔ bitF f 1 = false := and_bit 1 (by decide) hf (.inl ⟨by omega, rfl⟩)
            exact hab.1 (by assumption)
          have b2 : bitF f 2 = true := by
            have hab : std.num .and .i64 f 4 = 0 ↔ bitF f 2 = false := and_bit 2 (by decide) hf (.inl ⟨by omega, rfl⟩)
            cases hb : bitF f 2 with
            | true => rfl
            | false => exact absurd (hab.2 hb) (by assumption)
          have hj : (joinB ([] ++ [((ByteArray.mk #[100, 101, 108, 101, 116, 101, 100]) : ByteArray)]) (ByteArray.mk #[32])) = fwS f 3 := fwS_join f _ (by simp [b0, b1, b2, wdF, wdsF])
          rw [hs90, hs89, hv28_87, hj]; rfl
        · skip
          have ec85 : (A.num .and .i64 f 4) = 0 := neq_f hA c85
          refine go_skip ?_
          refine go_seq ?_
          refine go_reg ?_
          refine run_aops hA 1 _ _ _ _ (by cbv) ?_
          obtain ⟨v28_91, hv28_91, hc92⟩ : ∃ (v28_91 : ByteArray), v28_91 = (joinB ([]) (ByteArray.mk #[32])) ∧ Real Tryd.prog 20 [.sl 1 (eraseR []), .str (ByteArray.mk #[32])] (.str v28_91) := ⟨_, rfl, by exact rJoin A hA ([]) (ByteArray.mk #[32]) (by decide) (by decide)⟩
          refine ops_callV rfl rfl (by cbv) (by cbv) hc92 (.inl trivial) (by cbv) ?_
          obtain ⟨s93, hs93⟩ : ∃ s : ByteArray, s = (ByteArray.mk #[40]) ++ v28_91 := ⟨_, rfl⟩
          have zs93 : ByteArray.size s93 = ByteArray.size (ByteArray.mk #[40]) + ByteArray.size v28_91 := by rw [hs93]; exact ByteArray.size_append
          have bs93 : ByteArray.size (ByteArray.mk #[40]) + ByteArray.size v28_91 ≤ 140737488355328 := by
            have hj : ByteArray.size v28_91 ≤ 30 := by rw [hv28_91]; decide
            have e1 : (ByteArray.mk #[40]).size = 1 := rfl
            have e2 : (ByteArray.mk #[41]).size = 1 := rfl
            omega
          refine ops_step rfl rfl (str_add rfl rfl rfl hs93 bs93) ?_
          obtain ⟨s94, hs94⟩ : ∃ s : ByteArray, s = s93 ++ (ByteArray.mk #[41]) := ⟨_, rfl⟩
          have zs94 : ByteArray.size s94 = ByteArray.size s93 + ByteArray.size (ByteArray.mk #[41]) := by rw [hs94]; exact ByteArray.size_append
          have bs94 : ByteArray.size s93 + ByteArray.size (ByteArray.mk #[41]) ≤ 140737488355328 := by
            have hj : ByteArray.size v28_91 ≤ 30 := by rw [hv28_91]; decide
            have e1 : (ByteArray.mk #[40]).size = 1 := rfl
            have e2 : (ByteArray.mk #[41]).size = 1 := rfl
            omega
          refine ops_step rfl rfl (str_add rfl rfl rfl hs94 bs94) ?_
          refine run_aops hA 1 _ _ _ _ (by cbv) ?_
          refine ops_done ?_
          refine go_ret ⟨_, by cbv, ?_⟩
          show _ = (PV.str s94)
          refine congrArg PV.str ?_
          subst hA
          have b0 : bitF f 0 = false := by
            have hab : std.num .and .i64 f 1 = 0 ↔ bitF f 0 = false := and_bit 0 (by decide) hf (.inl ⟨by omega, rfl⟩)
            exact hab.1 (by assumption)
          have b1 : bitF f 1 = false := by
            have hab : std.num .and .i64 f 2 = 0 ↔ bitF f 1 = false := and_bit 1 (by decide) hf (.inl ⟨by omega, rfl⟩)
            exact hab.1 (by assumption)
          have b2 : bitF f 2 = false := by
            have hab : std.num .and .i64 f 4 = 0 ↔ bitF f 2 = false := and_bit 2 (by decide) hf (.inl ⟨by omega, rfl⟩)
            exact hab.1 (by assumption)
          have hj : (joinB ([]) (ByteArray.mk #[32])) = fwS f 3 := fwS_join f _ (by simp [b0, b1, b2, wdF, wdsF])
          rw [hs94, hs93, hv28_91, hj]; rfl
end Go.Av
