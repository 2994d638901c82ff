/- Walks: ways to talk that are right. -/
import Derived.Test.YtjbokkoiicoahaaR1
namespace Go.Av
open Go Go.Proofs
set_option maxRecDepth 100000
set_option maxHeartbeats 4000000
set_option linter.unusedVariables false
set_option linter.unusedSimpArgs false
def S67_1 (p0 : List (List PV)) (p1 : Int) (p2 : Int) (p3 : Int) (p4 : ByteArray) (p5 : List (List PV)) : St := { sl := [.bad, .pt 1 0 0, .bad, .bad, .bad, .bad, .bad, .bad, .bad, .bad, .bad, .bad, .bad, .bad, .bad, .bad, .bad, .bad, .bad, .bad, .bad, .bad, .bad, .bad, .bad, .bad, .bad, .bad, .bad, .bad, .bad, .bad, .bad, .bad, .bad, .bad, .sl 3 p0, .int .i64 p1, .int .i64 p2, .bad, .bad, .bad, .bad, .bad, .bad, .bad, .bad, .bad, .bad, .bad, .bad, .bad, .bad, .bad, .bad, .bad, .bad, .bad], bl := [(1, ⟨.var, 4, [[.int .i64 p3, .str p4, .sl 3 p0, .sl 1 p5]]⟩)] }
def S67_2 (p0 : List (List PV)) (p1 : Int) (p2 : Int) (p3 : Int) (p4 : ByteArray) (p5 : List (List PV)) : St := { sl := [.bad, .pt 1 0 0, .bad, .bad, .bad, .bad, .bad, .bad, .bad, .bad, .bad, .bad, .bad, .bad, .bad, .bad, .bad, .bad, .bad, .bad, .bad, .bad, .bad, .bad, .bad, .bad, .bad, .bad, .bad, .bad, .bad, .bad, .bad, .bad, .bad, .bad, .sl 3 p0, .int .i64 p1, .int .i64 p2, .bad, .bad, .bad, .bad, .bad, .bad, .bad, .bad, .bad, .bad, .bad, .bad, .bad, .bad, .bad, .bad, .bad, .bad, .bad], bl := [(1, ⟨.var, 4, [[.int .i64 p3, .str p4, .sl 3 p0, .sl 1 p5]]⟩)] }
theorem r_impl_FetchOk (A : Alg) (hA : A = std) (f : GFetch) (hz : ∀ q ∈ zsFetch f, (q : Int) ≤ 4611686018427387904) : Real Try.prog 67 [.agg (eFetch f)] (.bool (fetchOk f)) := by
  obtain ⟨f_State, f_User, f_Mails, f_Gone⟩ := f
  obtain ⟨f_Mails_r, hf_Mails_r⟩ : ∃ r, r = f_Mails.map eMail := ⟨_, rfl⟩
  have lf_Mails_r : A.rlen f_Mails_r = (List.length f_Mails : Int) := rlen_map hA hf_Mails_r
  obtain ⟨f_Gone_r, hf_Gone_r⟩ : ∃ r, r = f_Gone.map eBool := ⟨_, rfl⟩
  have lf_Gone_r : A.rlen f_Gone_r = (List.length f_Gone : Int) := rlen_map hA hf_Gone_r
  refine real_args (args' := [.agg [.int .i64 f_State, .str f_User, .sl 3 f_Mails_r, .sl 1 f_Gone_r]]) (by subst hf_Mails_r hf_Gone_r; rfl) ?_
  have zU : (ByteArray.size f_User : Int) ≤ 4611686018427387904 := hz _ (by simp [zsFetch])
  have nX : (List.length f_Mails : Int) ≤ 4611686018427387904 := hz _ (by simp [zsFetch, zsMailS, zsIntS])
  refine real tyOk Try.func67 (by kernel_rfl) (afun_of rfl ?_)
  refine go_seq ?_
  refine go_reg ?_
  refine run_aops hA 2 _ _ _ _ (by cbv) ?_
  refine ops_done ?_
  refine go_seq ?_
  refine go_seq ?_
  refine go_reg ?_
  refine run_aops hA 2 _ _ _ _ (by cbv) ?_
  obtain ⟨v7_1, hv7_1, hc2⟩ : ∃ (v7_1 : Bool), v7_1 = (inR f_State 0 2) ∧ Real Try.prog 101 [.int .i64 f_State, .int .i64 0, .int .i64 2] (.bool v7_1) := ⟨_, rfl, by exact r_impl_in A hA f_State 0 2 ⟩
  refine ops_callV rfl rfl (by cbv) (by cbv) hc2 (.inr rfl) (by cbv) ?_
  refine run_aops hA 2 _ _ _ _ (by cbv) ?_
  refine ops_split 9 rfl (fun c3 => ?_) (fun c3 => ?_)
  · skip
    have c4 : v7_1 = false := bnot_t hA c3
    refine run_aops hA 25 _ _ _ _ (by cbv) ?_
    refine ops_done ?_
    refine go_cond rfl (fun c5 => ?_) (fun c5 => ?_)
    · skip
      refine go_seq ?_
      refine go_reg ?_
      refine run_aops hA 1 _ _ _ _ (by cbv) ?_
      refine ops_done ?_
      refine go_ret ⟨_, by cbv, ?_⟩
      show _ = (PV.bool false)
      refine congrArg PV.bool ?_
      try simp only [slen_eq hA, lf_Mails_r, lf_Gone_r] at *
      subst hv7_1
      subst hA
      simp [fetchOk, textOk, std, c4]
    · skip
      exact absurd (show true = false from c5) (by rw [show true = true from by rfl]; decide)
  · skip
    have c6 : v7_1 = true := bnot_f hA c3
    refine run_aops hA 4 _ _ _ _ (by cbv) ?_
    refine ops_split 13 rfl (fun c7 => ?_) (fun c7 => ?_)
    · skip
      have ec7 : f_User ≠ (ByteArray.mk #[]) := sneq_t hA c7
      refine run_aops hA 2 _ _ _ _ (by cbv) ?_
      obtain ⟨v16_8, hv16_8, hc9⟩ : ∃ (v16_8 : Bool), v16_8 = (wordOk f_User) ∧ Real Try.prog 102 [.str f_User] (.bool v16_8) := ⟨_, rfl, by exact r_impl_WordOk A hA f_User (by first | assumption | omega)⟩
      refine ops_callG rfl rfl rfl rfl (by cbv) (by cbv) hc9 (.inr rfl) (by cbv) ?_
      refine run_aops hA 4 _ _ _ _ (by cbv) ?_
      refine ops_split 20 rfl (fun c10 => ?_) (fun c10 => ?_)
      · skip
        have c11 : v16_8 = false := bnot_t hA c10
        refine run_aops hA 14 _ _ _ _ (by cbv) ?_
        refine ops_done ?_
        refine go_cond rfl (fun c12 => ?_) (fun c12 => ?_)
        · skip
          refine go_seq ?_
          refine go_reg ?_
          refine run_aops hA 1 _ _ _ _ (by cbv) ?_
          refine ops_done ?_
          refine go_ret ⟨_, by cbv, ?_⟩
          show _ = (PV.bool false)
          refine congrArg PV.bool ?_
          try simp only [slen_eq hA, lf_Mails_r, lf_Gone_r] at *
          subst hv16_8 hv7_1
          subst hA
          simp [fetchOk, textOk, std, c6, ec7, ec7.symm, c11]
        · skip
          exact absurd (show true = false from c12) (by rw [show true = true from by rfl]; decide)
      · skip
        have c13 : v16_8 = true := bnot_f hA c10
        refine run_aops hA 6 _ _ _ _ (by cbv) ?_
        refine ops_split 26 rfl (fun c14 => ?_) (fun c14 => ?_)
        · skip
          have ec14 : 8 < (A.rlen f_Mails_r) := gtr_t hA c14
          refine run_aops hA 8 _ _ _ _ (by cbv) ?_
          refine ops_done ?_
          refine go_cond rfl (fun c15 => ?_) (fun c15 => ?_)
          · skip
            refine go_seq ?_
            refine go_reg ?_
            refine run_aops hA 1 _ _ _ _ (by cbv) ?_
            refine ops_done ?_
            refine go_ret ⟨_, by cbv, ?_⟩
            show _ = (PV.bool false)
            refine congrArg PV.bool ?_
            try simp only [slen_eq hA, lf_Mails_r, lf_Gone_r] at *
            subst hv16_8 hv7_1
            subst hA
            simp [fetchOk, textOk, std, c6, ec7, ec7.symm, c13, ec14]
          · skip
            exact absurd (show true = false from c15) (by rw [show true = true from by rfl]; decide)
        · skip
          have ec14 : (A.rlen f_Mails_r) ≤ 8 := gtr_f hA c14
          refine run_aops hA 8 _ _ _ _ (by cbv) ?_
          refine ops_done ?_
          refine go_cond rfl (fun c16 => ?_) (fun c16 => ?_)
          · skip
            have ec16 : (A.rlen f_Gone_r) ≠ (A.rlen f_Mails_r) := neq_t hA c16
            refine go_seq ?_
            refine go_reg ?_
            refine run_aops hA 1 _ _ _ _ (by cbv) ?_
            refine ops_done ?_
            refine go_ret ⟨_, by cbv, ?_⟩
            show _ = (PV.bool false)
            refine congrArg PV.bool ?_
            try simp only [slen_eq hA, lf_Mails_r, lf_Gone_r] at *
            subst hv16_8 hv7_1
            subst hA
            simp [fetchOk, textOk, std, c6, ec7, ec7.symm, c13, ec14, Int.not_lt.2 ec14, ec16, ec16.symm]
          · skip
            have ec16 : (A.rlen f_Gone_r) = (A.rlen f_Mails_r) := neq_f hA c16
            refine go_skip ?_
            refine go_seq ?_
            refine go_seq ?_
            refine go_reg ?_
            refine run_aops hA 4 _ _ _ _ (by cbv) ?_
            refine ops_done ?_
            refine go_block ?_
            refine go_loopE (fun σ m => ∃ (i : Nat) (n : Int), σ = (S67_1 f_Mails_r (A.rlen f_Mails_r) n f_State f_User f_Gone_r) ∧ (n = (i : Int) ∧ 0 ≤ i ∧ (i ≤ List.length f_Mails ∨ i = 1) ∧ incFrom (fM f_Mails) 0 (List.length f_Mails) = incFrom (fM f_Mails) i (List.length f_Mails - i)) ∧ m = List.length f_Mails - i) _ [] [1, 36, 37, 38] [1] (S67_1 f_Mails_r (A.rlen f_Mails_r) 0 f_State f_User f_Gone_r) rfl (by cbv) ⟨0, 0, rfl, ?_, rfl⟩ (fun σ m hI => ?_)
            · skip
              exact ⟨rfl, Nat.le_refl _, .inl (Nat.zero_le _), rfl⟩
            obtain ⟨i, n, rfl, ⟨hn, hlo, hi, hE⟩, rfl⟩ := hI
            refine go_seq ?_
            refine go_reg ?_
            refine run_aops hA 1 _ _ _ _ (by cbv) ?_
            refine ops_done ?_
            refine go_seq ?_
            refine go_cond rfl (fun c17 => ?_) (fun c17 => ?_)
            · skip
              have ec17 : n < (A.rlen f_Mails_r) := lss_t hA c17
              refine go_skip ?_
              refine go_seq ?_
              refine go_block ?_
              refine go_seq ?_
              refine go_reg ?_
              refine run_aops hA 1 _ _ _ _ (by cbv) ?_
              have h0x18 : (0 : Int) ≤ n := by
                omega
              have hlx18 : (Int.toNat n) < List.length f_Mails := by
                omega
              obtain ⟨x18, hx18⟩ : ∃ x, (f_Mails)[(Int.toNat n)]? = some x := ⟨_, List.getElem?_eq_getElem hlx18⟩
              have hmx18 := List.mem_of_getElem? hx18
              obtain ⟨x18_Uid, x18_Flags, x18_Text⟩ := x18
              have hrx18 : f_Mails_r[(Int.toNat n)]? = some [.int .i64 x18_Uid, .int .i64 x18_Flags, .str x18_Text] := by
                exact map_at eMail hf_Mails_r hx18
              have hix18 := hx18
              rw [hn] at hix18
              have hix18 : (f_Mails)[i]? = some (⟨x18_Uid, x18_Flags, x18_Text⟩ : GMail) := hix18
              refine ops_step rfl rfl (idx_sl rfl rfl rfl rfl rfl h0x18 rfl hrx18) ?_
              refine run_aops hA 4 _ _ _ _ (by cbv) ?_
              refine ops_done ?_
              refine go_seq ?_
              have wsub : A.num .sub .i64 n 1 = n - 1 := sub_i64 hA (by omega) (by omega)
              refine go_draw (by cbv) ?_
              refine run_dops hA 3 _ _ _ _ (by cbv) ?_
              refine dops_split 45 rfl (fun c19 => ?_) (fun c19 => ?_)
              · skip
                have ec19 : 0 < n := gtr_t hA c19
                refine run_dops hA 4 _ _ _ _ (by cbv) ?_
                have h0x20 : (0 : Int) ≤ (A.num .sub .i64 n 1) := by
                  omega
                have hlx20 : (Int.toNat (A.num .sub .i64 n 1)) < List.length f_Mails := by
                  omega
                obtain ⟨x20, hx20⟩ : ∃ x, (f_Mails)[(Int.toNat (A.num .sub .i64 n 1))]? = some x := ⟨_, List.getElem?_eq_getElem hlx20⟩
                have hmx20 := List.mem_of_getElem? hx20
                obtain ⟨x20_Uid, x20_Flags, x20_Text⟩ := x20
                have hrx20 : f_Mails_r[(Int.toNat (A.num .sub .i64 n 1))]? = some [.int .i64 x20_Uid, .int .i64 x20_Flags, .str x20_Text] := by
                  exact map_at eMail hf_Mails_r hx20
                have ipos : ¬ i = 0 := by omega
                have hix20 := hx20
                rw [wsub, show Int.toNat (n - 1) = i - 1 by omega] at hix20
                have hix20 : (f_Mails)[i - 1]? = some (⟨x20_Uid, x20_Flags, x20_Text⟩ : GMail) := hix20
                refine dops_stepG rfl rfl rfl rfl rfl (idx_sl rfl rfl rfl rfl rfl h0x20 rfl hrx20) ?_
                refine run_dops hA 6 _ _ _ _ (by cbv) ?_
                refine dops_done ?_
                refine go_cond rfl (fun c21 => ?_) (fun c21 => ?_)
                · skip
                  have ec21 : x18_Uid ≤ x20_Uid := geq_t hA c21
                  refine go_seq ?_
                  refine go_reg ?_
                  refine run_aops hA 1 _ _ _ _ (by cbv) ?_
                  refine ops_done ?_
                  refine go_ret ⟨_, by cbv, ?_⟩
                  show _ = (PV.bool false)
                  refine congrArg PV.bool ?_
                  try simp only [slen_eq hA, lf_Mails_r, lf_Gone_r] at *
                  subst hv16_8 hv7_1
                  have hI : incFrom (fM f_Mails) 0 (List.length f_Mails) = false := by
                    rw [hE, inc_at (by omega)]
                    simp [fM_at hix18, fM_at hix20, ipos, c6, ec7, ec7.symm, c13, ec14, Int.not_lt.2 ec14, ec16, ec17, ec19, ec21]
                  subst hA
                  simp [fetchOk, textOk, hI, std, c6, ec7, ec7.symm, c13, ec14, Int.not_lt.2 ec14, ec16, ec17, ec19, ec21]
                · skip
                  have ec21 : x20_Uid < x18_Uid := geq_f hA c21
                  refine go_skip ?_
                  refine go_reg ?_
                  refine run_aops hA 2 _ _ _ _ (by cbv) ?_
                  refine ops_done ?_
                  refine ⟨(S67_1 f_Mails_r (A.rlen f_Mails_r) (A.num .add .i64 n 1) f_State f_User f_Gone_r), List.length f_Mails - (i + 1), ?_, by cbv, i + 1, (A.num .add .i64 n 1), rfl, ?_, rfl⟩
                  · skip
                    omega
                  · skip
                    try simp only [slen_eq hA, lf_Mails_r, lf_Gone_r] at *
                    subst hv16_8 hv7_1
                    refine ⟨by rw [add_i64 hA (by omega) (by omega)]; omega, by omega, by omega, ?_⟩
                    rw [hE, inc_at (by omega)]
                    simp [fM_at hix18, fM_at hix20, ipos, c6, ec7, ec7.symm, c13, ec14, Int.not_lt.2 ec14, ec16, ec17, ec19, ec21, Int.not_le.2 ec21]
              · skip
                have ec19 : n ≤ 0 := gtr_f hA c19
                refine run_dops hA 11 _ _ _ _ (by cbv) ?_
                refine dops_done ?_
                refine go_cond rfl (fun c22 => ?_) (fun c22 => ?_)
                · skip
                  exact absurd (show false = true from c22) (by rw [show false = false from by rfl]; decide)
                · skip
                  refine go_skip ?_
                  refine go_reg ?_
                  refine run_aops hA 2 _ _ _ _ (by cbv) ?_
                  refine ops_done ?_
                  refine ⟨(S67_1 f_Mails_r (A.rlen f_Mails_r) (A.num .add .i64 n 1) f_State f_User f_Gone_r), List.length f_Mails - (i + 1), ?_, by cbv, i + 1, (A.num .add .i64 n 1), rfl, ?_, rfl⟩
                  · skip
                    omega
                  · skip
                    try simp only [slen_eq hA, lf_Mails_r, lf_Gone_r] at *
                    subst hv16_8 hv7_1
                    have iz : i = 0 := by omega
                    refine ⟨by rw [add_i64 hA (by omega) (by omega)]; omega, by omega, by omega, ?_⟩
                    rw [hE, inc_at (by omega)]
                    simp [fM_at hix18, iz, c6, ec7, ec7.symm, c13, ec14, Int.not_lt.2 ec14, ec16, ec17, ec19, Int.not_lt.2 ec19]
            · skip
              have ec17 : (A.rlen f_Mails_r) ≤ n := lss_f hA c17
              refine go_exit ⟨fun _ => ?_, fun h => absurd rfl h⟩
              refine go_seq ?_
              refine go_reg ?_
              refine run_aops hA 1 _ _ _ _ (by cbv) ?_
              refine ops_done ?_
              refine go_ret ⟨_, by cbv, ?_⟩
              show _ = (PV.bool true)
              refine congrArg PV.bool ?_
              try simp only [slen_eq hA, lf_Mails_r, lf_Gone_r] at *
              subst hv16_8 hv7_1
              have hI : incFrom (fM f_Mails) 0 (List.length f_Mails) = true := by rw [hE, inc_end (by omega)]
              subst hA
              simp [fetchOk, textOk, hI, std, c6, ec7, ec7.symm, c13, ec14, Int.not_lt.2 ec14, ec16, ec17, Int.not_lt.2 ec17]
    · skip
      have ec7 : f_User = (ByteArray.mk #[]) := sneq_f hA c7
      refine run_aops hA 13 _ _ _ _ (by cbv) ?_
      refine ops_split 26 rfl (fun c23 => ?_) (fun c23 => ?_)
      · skip
        have ec23 : 8 < (A.rlen f_Mails_r) := gtr_t hA c23
        refine run_aops hA 8 _ _ _ _ (by cbv) ?_
        refine ops_done ?_
        refine go_cond rfl (fun c24 => ?_) (fun c24 => ?_)
        · skip
          refine go_seq ?_
          refine go_reg ?_
          refine run_aops hA 1 _ _ _ _ (by cbv) ?_
          refine ops_done ?_
          refine go_ret ⟨_, by cbv, ?_⟩
          show _ = (PV.bool false)
          refine congrArg PV.bool ?_
          try simp only [slen_eq hA, lf_Mails_r, lf_Gone_r] at *
          subst hv7_1
          subst hA
          simp [fetchOk, textOk, std, c6, ec7, ec23]
        · skip
          exact absurd (show true = false from c24) (by rw [show true = true from by rfl]; decide)
      · skip
        have ec23 : (A.rlen f_Mails_r) ≤ 8 := gtr_f hA c23
        refine run_aops hA 8 _ _ _ _ (by cbv) ?_
        refine ops_done ?_
        refine go_cond rfl (fun c25 => ?_) (fun c25 => ?_)
        · skip
          have ec25 : (A.rlen f_Gone_r) ≠ (A.rlen f_Mails_r) := neq_t hA c25
          refine go_seq ?_
          refine go_reg ?_
          refine run_aops hA 1 _ _ _ _ (by cbv) ?_
          refine ops_done ?_
          refine go_ret ⟨_, by cbv, ?_⟩
          show _ = (PV.bool false)
          refine congrArg PV.bool ?_
          try simp only [slen_eq hA, lf_Mails_r, lf_Gone_r] at *
          subst hv7_1
          subst hA
          simp [fetchOk, textOk, std, c6, ec7, ec23, Int.not_lt.2 ec23, ec25, ec25.symm]
        · skip
          have ec25 : (A.rlen f_Gone_r) = (A.rlen f_Mails_r) := neq_f hA c25
          refine go_skip ?_
          refine go_seq ?_
          refine go_seq ?_
          refine go_reg ?_
          refine run_aops hA 4 _ _ _ _ (by cbv) ?_
          refine ops_done ?_
          refine go_block ?_
          refine go_loopE (fun σ m => ∃ (i : Nat) (n : Int), σ = (S67_2 f_Mails_r (A.rlen f_Mails_r) n f_State f_User f_Gone_r) ∧ (n = (i : Int) ∧ 0 ≤ i ∧ (i ≤ List.length f_Mails ∨ i = 1) ∧ incFrom (fM f_Mails) 0 (List.length f_Mails) = incFrom (fM f_Mails) i (List.length f_Mails - i)) ∧ m = List.length f_Mails - i) _ [] [1, 36, 37, 38] [1] (S67_2 f_Mails_r (A.rlen f_Mails_r) 0 f_State f_User f_Gone_r) rfl (by cbv) ⟨0, 0, rfl, ?_, rfl⟩ (fun σ m hI => ?_)
          · skip
            exact ⟨rfl, Nat.le_refl _, .inl (Nat.zero_le _), rfl⟩
          obtain ⟨i, n, rfl, ⟨hn, hlo, hi, hE⟩, rfl⟩ := hI
          refine go_seq ?_
          refine go_reg ?_
          refine run_aops hA 1 _ _ _ _ (by cbv) ?_
          refine ops_done ?_
          refine go_seq ?_
          refine go_cond rfl (fun c26 => ?_) (fun c26 => ?_)
          · skip
            have ec26 : n < (A.rlen f_Mails_r) := lss_t hA c26
            refine go_skip ?_
            refine go_seq ?_
            refine go_block ?_
            refine go_seq ?_
            refine go_reg ?_
            refine run_aops hA 1 _ _ _ _ (by cbv) ?_
            have h0x27 : (0 : Int) ≤ n := by
              omega
            have hlx27 : (Int.toNat n) < List.length f_Mails := by
              omega
            obtain ⟨x27, hx27⟩ : ∃ x, (f_Mails)[(Int.toNat n)]? = some x := ⟨_, List.getElem?_eq_getElem hlx27⟩
            have hmx27 := List.mem_of_getElem? hx27
            obtain ⟨x27_Uid, x27_Flags, x27_Text⟩ := x27
            have hrx27 : f_Mails_r[(Int.toNat n)]? = some [.int .i64 x27_Uid, .int .i64 x27_Flags, .str x27_Text] := by
              exact map_at eMail hf_Mails_r hx27
            have hix27 := hx27
            rw [hn] at hix27
            have hix27 : (f_Mails)[i]? = some (⟨x27_Uid, x27_Flags, x27_Text⟩ : GMail) := hix27
            refine ops_step rfl rfl (idx_sl rfl rfl rfl rfl rfl h0x27 rfl hrx27) ?_
            refine run_aops hA 4 _ _ _ _ (by cbv) ?_
            refine ops_done ?_
            refine go_seq ?_
            have wsub : A.num .sub .i64 n 1 = n - 1 := sub_i64 hA (by omega) (by omega)
            refine go_draw (by cbv) ?_
            refine run_dops hA 3 _ _ _ _ (by cbv) ?_
            refine dops_split 45 rfl (fun c28 => ?_) (fun c28 => ?_)
            · skip
              have ec28 : 0 < n := gtr_t hA c28
              refine run_dops hA 4 _ _ _ _ (by cbv) ?_
              have h0x29 : (0 : Int) ≤ (A.num .sub .i64 n 1) := by
                omega
              have hlx29 : (Int.toNat (A.num .sub .i64 n 1)) < List.length f_Mails := by
                omega
              obtain ⟨x29, hx29⟩ : ∃ x, (f_Mails)[(Int.toNat (A.num .sub .i64 n 1))]? = some x := ⟨_, List.getElem?_eq_getElem hlx29⟩
              have hmx29 := List.mem_of_getElem? hx29
              obtain ⟨x29_Uid, x29_Flags, x29_Text⟩ := x29
              have hrx29 : f_Mails_r[(Int.toNat (A.num .sub .i64 n 1))]? = some [.int .i64 x29_Uid, .int .i64 x29_Flags, .str x29_Text] := by
                exact map_at eMail hf_Mails_r hx29
              have ipos : ¬ i = 0 := by omega
              have hix29 := hx29
              rw [wsub, show Int.toNat (n - 1) = i - 1 by omega] at hix29
              have hix29 : (f_Mails)[i - 1]? = some (⟨x29_Uid, x29_Flags, x29_Text⟩ : GMail) := hix29
              refine dops_stepG rfl rfl rfl rfl rfl (idx_sl rfl rfl rfl rfl rfl h0x29 rfl hrx29) ?_
              refine run_dops hA 6 _ _ _ _ (by cbv) ?_
              refine dops_done ?_
              refine go_cond rfl (fun c30 => ?_) (fun c30 => ?_)
              · skip
                have ec30 : x27_Uid ≤ x29_Uid := geq_t hA c30
                refine go_seq ?_
                refine go_reg ?_
                refine run_aops hA 1 _ _ _ _ (by cbv) ?_
                refine ops_done ?_
                refine go_ret ⟨_, by cbv, ?_⟩
                show _ = (PV.bool false)
                refine congrArg PV.bool ?_
                try simp only [slen_eq hA, lf_Mails_r, lf_Gone_r] at *
                subst hv7_1
                have hI : incFrom (fM f_Mails) 0 (List.length f_Mails) = false := by
                  rw [hE, inc_at (by omega)]
                  simp [fM_at hix27, fM_at hix29, ipos, c6, ec7, ec23, Int.not_lt.2 ec23, ec25, ec26, ec28, ec30]
                subst hA
                simp [fetchOk, textOk, hI, std, c6, ec7, ec23, Int.not_lt.2 ec23, ec25, ec26, ec28, ec30]
              · skip
                have ec30 : x29_Uid < x27_Uid := geq_f hA c30
                refine go_skip ?_
                refine go_reg ?_
                refine run_aops hA 2 _ _ _ _ (by cbv) ?_
                refine ops_done ?_
                refine ⟨(S67_2 f_Mails_r (A.rlen f_Mails_r) (A.num .add .i64 n 1) f_State f_User f_Gone_r), List.length f_Mails - (i + 1), ?_, by cbv, i + 1, (A.num .add .i64 n 1), rfl, ?_, rfl⟩
                · skip
                  omega
                · skip
                  try simp only [slen_eq hA, lf_Mails_r, lf_Gone_r] at *
                  subst hv7_1
                  refine ⟨by rw [add_i64 hA (by omega) (by omega)]; omega, by omega, by omega, ?_⟩
                  rw [hE, inc_at (by omega)]
                  simp [fM_at hix27, fM_at hix29, ipos, c6, ec7, ec23, Int.not_lt.2 ec23, ec25, ec26, ec28, ec30, Int.not_le.2 ec30]
            · skip
              have ec28 : n ≤ 0 := gtr_f hA c28
              refine run_dops hA 11 _ _ _ _ (by cbv) ?_
              refine dops_done ?_
              refine go_cond rfl (fun c31 => ?_) (fun c31 => ?_)
              · skip
                exact absurd (show false = true from c31) (by rw [show false = false from by rfl]; decide)
              · skip
                refine go_skip ?_
                refine go_reg ?_
                refine run_aops hA 2 _ _ _ _ (by cbv) ?_
                refine ops_done ?_
                refine ⟨(S67_2 f_Mails_r (A.rlen f_Mails_r) (A.num .add .i64 n 1) f_State f_User f_Gone_r), List.length f_Mails - (i + 1), ?_, by cbv, i + 1, (A.num .add .i64 n 1), rfl, ?_, rfl⟩
                · skip
                  omega
                · skip
                  try simp only [slen_eq hA, lf_Mails_r, lf_Gone_r] at *
                  subst hv7_1
                  have iz : i = 0 := by omega
                  refine ⟨by rw [add_i64 hA (by omega) (by omega)]; omega, by omega, by omega, ?_⟩
                  rw [hE, inc_at (by omega)]
                  simp [fM_at hix27, iz, c6, ec7, ec23, Int.not_lt.2 ec23, ec25, ec26, ec28, Int.not_lt.2 ec28]
          · skip
            have ec26 : (A.rlen f_Mails_r) ≤ n := lss_f hA c26
            refine go_exit ⟨fun _ => ?_, fun h => absurd rfl h⟩
            refine go_seq ?_
            refine go_reg ?_
            refine run_aops hA 1 _ _ _ _ (by cbv) ?_
            refine ops_done ?_
            refine go_ret ⟨_, by cbv, ?_⟩
            show _ = (PV.bool true)
            refine congrArg PV.bool ?_
            try simp only [slen_eq hA, lf_Mails_r, lf_Gone_r] at *
            subst hv7_1
            have hI : incFrom (fM f_Mails) 0 (List.length f_Mails) = true := by rw [hE, inc_end (by omega)]
            subst hA
            simp [fetchOk, textOk, hI, std, c6, ec7, ec23, Int.not_lt.2 ec23, ec25, ec26, Int.not_lt.2 ec26]

def S60_1 (p0 : Int) (p1 : Int) (p2 : ByteArray) (p3 : List (List PV)) (p4 : List (List PV)) : St := { sl := [.bad, .pt 1 0 0, .bad, .int .i64 p0, .bad, .bad, .bad, .bad, .bad, .bad, .bad, .bad, .bad, .bad, .bad, .bad, .bad, .bad, .bad, .bad, .bad, .bad, .bad, .bad, .bad, .bad, .bad, .bad, .bad, .bad, .bad, .bad, .bad, .bad, .bad, .bad, .bad, .bad, .bad, .bad, .bad, .bad, .bad, .bad, .bad, .bad, .bad, .bad, .bad, .bad], bl := [(1, ⟨.var, 4, [[.int .i64 p1, .str p2, .sl 3 p3, .sl 1 p4]]⟩)] }
theorem r_spec_FetchOk (A : Alg) (hA : A = std) (f : GFetch) (hz : ∀ q ∈ zsFetch f, (q : Int) ≤ 4611686018427387904) : Real Try.prog 60 [.agg (eFetch f)] (.bool (fetchOk f)) := by
  obtain ⟨f_State, f_User, f_Mails, f_Gone⟩ := f
  obtain ⟨f_Mails_r, hf_Mails_r⟩ : ∃ r, r = f_Mails.map eMail := ⟨_, rfl⟩
  have lf_Mails_r : A.rlen f_Mails_r = (List.length f_Mails : Int) := rlen_map hA hf_Mails_r
  obtain ⟨f_Gone_r, hf_Gone_r⟩ : ∃ r, r = f_Gone.map eBool := ⟨_, rfl⟩
  have lf_Gone_r : A.rlen f_Gone_r = (List.length f_Gone : Int) := rlen_map hA hf_Gone_r
  refine real_args (args' := [.agg [.int .i64 f_State, .str f_User, .sl 3 f_Mails_r, .sl 1 f_Gone_r]]) (by subst hf_Mails_r hf_Gone_r; rfl) ?_
  have zU : (ByteArray.size f_User : Int) ≤ 4611686018427387904 := hz _ (by simp [zsFetch])
  have nX : (List.length f_Mails : Int) ≤ 4611686018427387904 := hz _ (by simp [zsFetch, zsMailS, zsIntS])
  refine real tyOk Try.func60 (by kernel_rfl) (afun_of rfl ?_)
  refine go_seq ?_
  refine go_reg ?_
  refine run_aops hA 2 _ _ _ _ (by cbv) ?_
  refine ops_done ?_
  refine go_seq ?_
  refine go_seq ?_
  refine go_reg ?_
  refine run_aops hA 2 _ _ _ _ (by cbv) ?_
  obtain ⟨v6_1, hv6_1, hc2⟩ : ∃ (v6_1 : Bool), v6_1 = (inR f_State 0 2) ∧ Real Try.prog 95 [.int .i64 f_State, .int .i64 0, .int .i64 2] (.bool v6_1) := ⟨_, rfl, by exact r_spec_l01In A hA f_State 0 2 ⟩
  refine ops_callV rfl rfl (by cbv) (by cbv) hc2 (.inr rfl) (by cbv) ?_
  refine run_aops hA 2 _ _ _ _ (by cbv) ?_
  refine ops_split 8 rfl (fun c3 => ?_) (fun c3 => ?_)
  · skip
    have c4 : v6_1 = false := bnot_t hA c3
    refine run_aops hA 20 _ _ _ _ (by cbv) ?_
    refine ops_done ?_
    refine go_cond rfl (fun c5 => ?_) (fun c5 => ?_)
    · skip
      refine go_seq ?_
      refine go_reg ?_
      refine run_aops hA 1 _ _ _ _ (by cbv) ?_
      refine ops_done ?_
      refine go_ret ⟨_, by cbv, ?_⟩
      show _ = (PV.bool false)
      refine congrArg PV.bool ?_
      try simp only [slen_eq hA, lf_Mails_r, lf_Gone_r] at *
      subst hv6_1
      subst hA
      simp [fetchOk, std, c4]
    · skip
      exact absurd (show true = false from c5) (by rw [show true = true from by rfl]; decide)
  · skip
    have c6 : v6_1 = true := bnot_f hA c3
    refine run_aops hA 2 _ _ _ _ (by cbv) ?_
    obtain ⟨v11_7, hv11_7, hc8⟩ : ∃ (v11_7 : Bool), v11_7 = (textOk f_User) ∧ Real Try.prog 96 [.str f_User] (.bool v11_7) := ⟨_, rfl, by exact r_spec_l19Text A hA f_User (by first | assumption | omega)⟩
    refine ops_callG rfl rfl rfl rfl (by cbv) (by cbv) hc8 (.inr rfl) (by cbv) ?_
    refine run_aops hA 3 _ _ _ _ (by cbv) ?_
    refine ops_split 14 rfl (fun c9 => ?_) (fun c9 => ?_)
    · skip
      have c10 : v11_7 = false := bnot_t hA c9
      refine run_aops hA 14 _ _ _ _ (by cbv) ?_
      refine ops_done ?_
      refine go_cond rfl (fun c11 => ?_) (fun c11 => ?_)
      · skip
        refine go_seq ?_
        refine go_reg ?_
        refine run_aops hA 1 _ _ _ _ (by cbv) ?_
        refine ops_done ?_
        refine go_ret ⟨_, by cbv, ?_⟩
        show _ = (PV.bool false)
        refine congrArg PV.bool ?_
        try simp only [slen_eq hA, lf_Mails_r, lf_Gone_r] at *
        subst hv11_7 hv6_1
        subst hA
        simp [fetchOk, std, c6, c10]
      · skip
        exact absurd (show true = false from c11) (by rw [show true = true from by rfl]; decide)
    · skip
      have c12 : v11_7 = true := bnot_f hA c9
      refine run_aops hA 6 _ _ _ _ (by cbv) ?_
      refine ops_split 20 rfl (fun c13 => ?_) (fun c13 => ?_)
      · skip
        have ec13 : 8 < (A.rlen f_Mails_r) := gtr_t hA c13
        refine run_aops hA 8 _ _ _ _ (by cbv) ?_
        refine ops_done ?_
        refine go_cond rfl (fun c14 => ?_) (fun c14 => ?_)
        · skip
          refine go_seq ?_
          refine go_reg ?_
          refine run_aops hA 1 _ _ _ _ (by cbv) ?_
          refine ops_done ?_
          refine go_ret ⟨_, by cbv, ?_⟩
          show _ = (PV.bool false)
          refine congrArg PV.bool ?_
          try simp only [slen_eq hA, lf_Mails_r, lf_Gone_r] at *
          subst hv11_7 hv6_1
          subst hA
          simp [fetchOk, std, c6, c12, ec13]
        · skip
          exact absurd (show true = false from c14) (by rw [show true = true from by rfl]; decide)
      · skip
        have ec13 : (A.rlen f_Mails_r) ≤ 8 := gtr_f hA c13
        refine run_aops hA 8 _ _ _ _ (by cbv) ?_
        refine ops_done ?_
        refine go_cond rfl (fun c15 => ?_) (fun c15 => ?_)
        · skip
          have ec15 : (A.rlen f_Gone_r) ≠ (A.rlen f_Mails_r) := neq_t hA c15
          refine go_seq ?_
          refine go_reg ?_
          refine run_aops hA 1 _ _ _ _ (by cbv) ?_
          refine ops_done ?_
          refine go_ret ⟨_, by cbv, ?_⟩
          show _ = (PV.bool false)
          refine congrArg PV.bool ?_
          try simp only [slen_eq hA, lf_Mails_r, lf_Gone_r] at *
          subst hv11_7 hv6_1
          subst hA
          simp [fetchOk, std, c6, c12, ec13, Int.not_lt.2 ec13, ec15, ec15.symm]
        · skip
          have ec15 : (A.rlen f_Gone_r) = (A.rlen f_Mails_r) := neq_f hA c15
          refine go_skip ?_
          refine go_seq ?_
          refine go_seq ?_
          refine go_reg ?_
          refine run_aops hA 1 _ _ _ _ (by cbv) ?_
          refine ops_done ?_
          refine go_block ?_
          refine go_loopE (fun σ m => ∃ (i : Nat) (n : Int), σ = (S60_1 n f_State f_User f_Mails_r f_Gone_r) ∧ (n = (i : Int) ∧ 1 ≤ i ∧ (i ≤ List.length f_Mails ∨ i = 1) ∧ incFrom (fM f_Mails) 0 (List.length f_Mails) = incFrom (fM f_Mails) i (List.length f_Mails - i)) ∧ m = List.length f_Mails - i) _ [] [1, 3] [1] (S60_1 1 f_State f_User f_Mails_r f_Gone_r) rfl (by cbv) ⟨1, 1, rfl, ?_, rfl⟩ (fun σ m hI => ?_)
          · skip
            exact ⟨rfl, Nat.le_refl _, .inr rfl, inc_1 _⟩
          obtain ⟨i, n, rfl, ⟨hn, hlo, hi, hE⟩, rfl⟩ := hI
          refine go_seq ?_
          refine go_seq ?_
          refine go_reg ?_
          refine run_aops hA 5 _ _ _ _ (by cbv) ?_
          refine ops_done ?_
          refine go_cond rfl (fun c16 => ?_) (fun c16 => ?_)
          · skip
            have ec16 : n < (A.rlen f_Mails_r) := lss_t hA c16
            refine go_skip ?_
            refine go_seq ?_
            refine go_block ?_
            refine go_seq ?_
            have wsub : A.num .sub .i64 n 1 = n - 1 := sub_i64 hA (by omega) (by omega)
            refine go_draw (by cbv) ?_
            refine run_dops hA 4 _ _ _ _ (by cbv) ?_
            have h0x17 : (0 : Int) ≤ (A.num .sub .i64 n 1) := by
              omega
            have hlx17 : (Int.toNat (A.num .sub .i64 n 1)) < List.length f_Mails := by
              omega
            obtain ⟨x17, hx17⟩ : ∃ x, (f_Mails)[(Int.toNat (A.num .sub .i64 n 1))]? = some x := ⟨_, List.getElem?_eq_getElem hlx17⟩
            have hmx17 := List.mem_of_getElem? hx17
            obtain ⟨x17_Uid, x17_Flags, x17_Text⟩ := x17
            have hrx17 : f_Mails_r[(Int.toNat (A.num .sub .i64 n 1))]? = some [.int .i64 x17_Uid, .int .i64 x17_Flags, .str x17_Text] := by
              exact map_at eMail hf_Mails_r hx17
            have ipos : ¬ i = 0 := by omega
            have hix17 := hx17
            rw [wsub, show Int.toNat (n - 1) = i - 1 by omega] at hix17
            have hix17 : (f_Mails)[i - 1]? = some (⟨x17_Uid, x17_Flags, x17_Text⟩ : GMail) := hix17
            refine dops_step rfl rfl rfl (idx_sl rfl rfl rfl rfl rfl h0x17 rfl hrx17) ?_
            refine run_dops hA 5 _ _ _ _ (by cbv) ?_
            have h0x18 : (0 : Int) ≤ n := by
              omega
            have hlx18 : (Int.toNat n) < List.length f_Mails := by
              omega
            obtain ⟨x18, hx18⟩ : ∃ x, (f_Mails)[(Int.toNat n)]? = some x := ⟨_, List.getElem?_eq_getElem hlx18⟩
            have hmx18 := List.mem_of_getElem? hx18
            obtain ⟨x18_Uid, x18_Flags, x18_Text⟩ := x18
            have hrx18 : f_Mails_r[(Int.toNat n)]? = some [.int .i64 x18_Uid, .int .i64 x18_Flags, .str x18_Text] := by
              exact map_at eMail hf_Mails_r hx18
            have hix18 := hx18
            rw [hn] at hix18
            have hix18 : (f_Mails)[i]? = some (⟨x18_Uid, x18_Flags, x18_Text⟩ : GMail) := hix18
            refine dops_step rfl rfl rfl (idx_sl rfl rfl rfl rfl rfl h0x18 rfl hrx18) ?_
            refine run_dops hA 3 _ _ _ _ (by cbv) ?_
            refine dops_done ?_
            refine go_cond rfl (fun c19 => ?_) (fun c19 => ?_)
            · skip
              have ec19 : x18_Uid ≤ x17_Uid := geq_t hA c19
              refine go_seq ?_
              refine go_reg ?_
              refine run_aops hA 1 _ _ _ _ (by cbv) ?_
              refine ops_done ?_
              refine go_ret ⟨_, by cbv, ?_⟩
              show _ = (PV.bool false)
              refine congrArg PV.bool ?_
              try simp only [slen_eq hA, lf_Mails_r, lf_Gone_r] at *
              subst hv11_7 hv6_1
              have hI : incFrom (fM f_Mails) 0 (List.length f_Mails) = false := by
                rw [hE, inc_at (by omega)]
                simp [fM_at hix17, fM_at hix18, ipos, c6, c12, ec13, Int.not_lt.2 ec13, ec15, ec16, ec19]
              subst hA
              simp [fetchOk, hI, std, c6, c12, ec13, Int.not_lt.2 ec13, ec15, ec16, ec19]
            · skip
              have ec19 : x17_Uid < x18_Uid := geq_f hA c19
              refine go_skip ?_
              refine go_reg ?_
              refine run_aops hA 3 _ _ _ _ (by cbv) ?_
              refine ops_done ?_
              refine ⟨(S60_1 (A.num .add .i64 n 1) f_State f_User f_Mails_r f_Gone_r), List.length f_Mails - (i + 1), ?_, by cbv, i + 1, (A.num .add .i64 n 1), rfl, ?_, rfl⟩
              · skip
                omega
              · skip
                try simp only [slen_eq hA, lf_Mails_r, lf_Gone_r] at *
                subst hv11_7 hv6_1
                refine ⟨by rw [add_i64 hA (by omega) (by omega)]; omega, by omega, by omega, ?_⟩
                rw [hE, inc_at (by omega)]
                simp [fM_at hix17, fM_at hix18, ipos, c6, c12, ec13, Int.not_lt.2 ec13, ec15, ec16, ec19, Int.not_le.2 ec19]
          · skip
            have ec16 : (A.rlen f_Mails_r) ≤ n := lss_f hA c16
            refine go_exit ⟨fun _ => ?_, fun h => absurd rfl h⟩
            refine go_seq ?_
            refine go_reg ?_
            refine run_aops hA 1 _ _ _ _ (by cbv) ?_
            refine ops_done ?_
            refine go_ret ⟨_, by cbv, ?_⟩
            show _ = (PV.bool true)
            refine congrArg PV.bool ?_
            try simp only [slen_eq hA, lf_Mails_r, lf_Gone_r] at *
            subst hv11_7 hv6_1
            have hI : incFrom (fM f_Mails) 0 (List.length f_Mails) = true := by rw [hE, inc_end (by omega)]
            subst hA
            simp [fetchOk, hI, std, c6, c12, ec13, Int.not_lt.2 ec13, ec15, ec16, Int.not_lt.2 ec16]

def S68_1 (p0 : List (List PV)) (p1 : Int) (p2 : Int) (p3 : Int) (p4 : ByteArray) (p5 : ByteArray) (p6 : Int) : St := { sl := [.bad, .pt 1 0 0, .bad, .bad, .bad, .bad, .bad, .bad, .bad, .bad, .bad, .bad, .bad, .bad, .bad, .bad, .bad, .bad, .bad, .bad, .bad, .bad, .bad, .bad, .bad, .bad, .bad, .bad, .bad, .bad, .bad, .bad, .bad, .bad, .bad, .bad, .bad, .bad, .bad, .bad, .bad, .bad, .bad, .bad, .sl 1 p0, .int .i64 p1, .int .i64 p2, .bad, .bad, .bad, .bad, .bad, .bad, .bad, .bad, .bad, .bad, .bad, .bad, .bad, .bad, .bad, .bad, .bad], bl := [(1, ⟨.var, 5, [[.int .i64 p3, .str p4, .str p5, .int .i64 p6, .sl 1 p0]]⟩)] }
def S68_2 (p0 : List (List PV)) (p1 : Int) (p2 : Int) (p3 : Int) (p4 : ByteArray) (p5 : ByteArray) (p6 : Int) : St := { sl := [.bad, .pt 1 0 0, .bad, .bad, .bad, .bad, .bad, .bad, .bad, .bad, .bad, .bad, .bad, .bad, .bad, .bad, .bad, .bad, .bad, .bad, .bad, .bad, .bad, .bad, .bad, .bad, .bad, .bad, .bad, .bad, .bad, .bad, .bad, .bad, .bad, .bad, .bad, .bad, .bad, .bad, .bad, .bad, .bad, .bad, .sl 1 p0, .int .i64 p1, .int .i64 p2, .bad, .bad, .bad, .bad, .bad, .bad, .bad, .bad, .bad, .bad, .bad, .bad, .bad, .bad, .bad, .bad, .bad], bl := [(1, ⟨.var, 5, [[.int .i64 p3, .str p4, .str p5, .int .i64 p6, .sl 1 p0]]⟩)] }
def S68_3 (p0 : List (List PV)) (p1 : Int) (p2 : Int) (p3 : Int) (p4 : ByteArray) (p5 : ByteArray) (p6 : Int) : St := { sl := [.bad, .pt 1 0 0, .bad, .bad, .bad, .bad, .bad, .bad, .bad, .bad, .bad, .bad, .bad, .bad, .bad, .bad, .bad, .bad, .bad, .bad, .bad, .bad, .bad, .bad, .bad, .bad, .bad, .bad, .bad, .bad, .bad, .bad, .bad, .bad, .bad, .bad, .bad, .bad, .bad, .bad, .bad, .bad, .bad, .bad, .sl 1 p0, .int .i64 p1, .int .i64 p2, .bad, .bad, .bad, .bad, .bad, .bad, .bad, .bad, .bad, .bad, .bad, .bad, .bad, .bad, .bad, .bad, .bad], bl := [(1, ⟨.var, 5, [[.int .i64 p3, .str p4, .str p5, .int .i64 p6, .sl 1 p0]]⟩)] }
def S68_4 (p0 : List (List PV)) (p1 : Int) (p2 : Int) (p3 : Int) (p4 : ByteArray) (p5 : ByteArray) (p6 : Int) : St := { sl := [.bad, .pt 1 0 0, .bad, .bad, .bad, .bad, .bad, .bad, .bad, .bad, .bad, .bad, .bad, .bad, .bad, .bad, .bad, .bad, .bad, .bad, .bad, .bad, .bad, .bad, .bad, .bad, .bad, .bad, .bad, .bad, .bad, .bad, .bad, .bad, .bad, .bad, .bad, .bad, .bad, .bad, .bad, .bad, .bad, .bad, .sl 1 p0, .int .i64 p1, .int .i64 p2, .bad, .bad, .bad, .bad, .bad, .bad, .bad, .bad, .bad, .bad, .bad, .bad, .bad, .bad, .bad, .bad, .bad], bl := [(1, ⟨.var, 5, [[.int .i64 p3, .str p4, .str p5, .int .i64 p6, .sl 1 p0]]⟩)] }
theorem r_impl_LookOk (A : Alg) (hA : A = std) (k : GLook) (hz : ∀ q ∈ zsLook k, (q : Int) ≤ 4611686018427387904) : Real Try.prog 68 [.agg (eLook k)] (.bool (lookOk k)) := by
  obtain ⟨k_State, k_User, k_Box, k_Valid, k_Uids⟩ := k
  obtain ⟨k_Uids_r, hk_Uids_r⟩ : ∃ r, r = k_Uids.map eInt := ⟨_, rfl⟩
  have lk_Uids_r : A.rlen k_Uids_r = (List.length k_Uids : Int) := rlen_map hA hk_Uids_r
  refine real_args (args' := [.agg [.int .i64 k_State, .str k_User, .str k_Box, .int .i64 k_Valid, .sl 1 k_Uids_r]]) (by subst hk_Uids_r; rfl) ?_
  have zU : (ByteArray.size k_User : Int) ≤ 4611686018427387904 := hz _ (by simp [zsLook])
  have nX : (List.length k_Uids : Int) ≤ 4611686018427387904 := hz _ (by simp [zsLook, zsMailS, zsIntS])
  have zBo : (ByteArray.size k_Box : Int) ≤ 4611686018427387904 := hz _ (by simp [zsLook])
  refine real tyOk Try.func68 (by kernel_rfl) (afun_of rfl ?_)
  refine go_seq ?_
  refine go_reg ?_
  refine run_aops hA 2 _ _ _ _ (by cbv) ?_
  refine ops_done ?_
  refine go_seq ?_
  refine go_seq ?_
  refine go_reg ?_
  refine run_aops hA 2 _ _ _ _ (by cbv) ?_
  obtain ⟨v7_1, hv7_1, hc2⟩ : ∃ (v7_1 : Bool), v7_1 = (inR k_State 0 2) ∧ Real Try.prog 101 [.int .i64 k_State, .int .i64 0, .int .i64 2] (.bool v7_1) := ⟨_, rfl, by exact r_impl_in A hA k_State 0 2 ⟩
  refine ops_callV rfl rfl (by cbv) (by cbv) hc2 (.inr rfl) (by cbv) ?_
  refine run_aops hA 2 _ _ _ _ (by cbv) ?_
  refine ops_split 9 rfl (fun c3 => ?_) (fun c3 => ?_)
  · skip
    have c4 : v7_1 = false := bnot_t hA c3
    refine run_aops hA 33 _ _ _ _ (by cbv) ?_
    refine ops_done ?_
    refine go_cond rfl (fun c5 => ?_) (fun c5 => ?_)
    · skip
      refine go_seq ?_
      refine go_reg ?_
      refine run_aops hA 1 _ _ _ _ (by cbv) ?_
      refine ops_done ?_
      refine go_ret ⟨_, by cbv, ?_⟩
      show _ = (PV.bool false)
      refine congrArg PV.bool ?_
      try simp only [slen_eq hA, lk_Uids_r] at *
      subst hv7_1
      subst hA
      simp [lookOk, textOk, std, c4]
    · skip
      exact absurd (show true = false from c5) (by rw [show true = true from by rfl]; decide)
  · skip
    have c6 : v7_1 = true := bnot_f hA c3
    refine run_aops hA 4 _ _ _ _ (by cbv) ?_
    refine ops_split 13 rfl (fun c7 => ?_) (fun c7 => ?_)
    · skip
      have ec7 : k_User ≠ (ByteArray.mk #[]) := sneq_t hA c7
      refine run_aops hA 2 _ _ _ _ (by cbv) ?_
      obtain ⟨v16_8, hv16_8, hc9⟩ : ∃ (v16_8 : Bool), v16_8 = (wordOk k_User) ∧ Real Try.prog 102 [.str k_User] (.bool v16_8) := ⟨_, rfl, by exact r_impl_WordOk A hA k_User (by first | assumption | omega)⟩
      refine ops_callG rfl rfl rfl rfl (by cbv) (by cbv) hc9 (.inr rfl) (by cbv) ?_
      refine run_aops hA 4 _ _ _ _ (by cbv) ?_
      refine ops_split 20 rfl (fun c10 => ?_) (fun c10 => ?_)
      · skip
        have c11 : v16_8 = false := bnot_t hA c10
        refine run_aops hA 22 _ _ _ _ (by cbv) ?_
        refine ops_done ?_
        refine go_cond rfl (fun c12 => ?_) (fun c12 => ?_)
        · skip
          refine go_seq ?_
          refine go_reg ?_
          refine run_aops hA 1 _ _ _ _ (by cbv) ?_
          refine ops_done ?_
          refine go_ret ⟨_, by cbv, ?_⟩
          show _ = (PV.bool false)
          refine congrArg PV.bool ?_
          try simp only [slen_eq hA, lk_Uids_r] at *
          subst hv16_8 hv7_1
          subst hA
          simp [lookOk, textOk, std, c6, ec7, ec7.symm, c11]
        · skip
          exact absurd (show true = false from c12) (by rw [show true = true from by rfl]; decide)
      · skip
        have c13 : v16_8 = true := bnot_f hA c10
        refine run_aops hA 4 _ _ _ _ (by cbv) ?_
        refine ops_split 24 rfl (fun c14 => ?_) (fun c14 => ?_)
        · skip
          have ec14 : k_Box ≠ (ByteArray.mk #[]) := sneq_t hA c14
          refine run_aops hA 2 _ _ _ _ (by cbv) ?_
          obtain ⟨v27_15, hv27_15, hc16⟩ : ∃ (v27_15 : Bool), v27_15 = (wordOk k_Box) ∧ Real Try.prog 102 [.str k_Box] (.bool v27_15) := ⟨_, rfl, by exact r_impl_WordOk A hA k_Box (by first | assumption | omega)⟩
          refine ops_callG rfl rfl rfl rfl (by cbv) (by cbv) hc16 (.inr rfl) (by cbv) ?_
          refine run_aops hA 4 _ _ _ _ (by cbv) ?_
          refine ops_split 31 rfl (fun c17 => ?_) (fun c17 => ?_)
          · skip
            have c18 : v27_15 = false := bnot_t hA c17
            refine run_aops hA 11 _ _ _ _ (by cbv) ?_
            refine ops_done ?_
            refine go_cond rfl (fun c19 => ?_) (fun c19 => ?_)
            · skip
              refine go_seq ?_
              refine go_reg ?_
              refine run_aops hA 1 _ _ _ _ (by cbv) ?_
              refine ops_done ?_
              refine go_ret ⟨_, by cbv, ?_⟩
              show _ = (PV.bool false)
              refine congrArg PV.bool ?_
              try simp only [slen_eq hA, lk_Uids_r] at *
              subst hv27_15 hv16_8 hv7_1
              subst hA
              simp [lookOk, textOk, std, c6, ec7, ec7.symm, c13, ec14, ec14.symm, c18]
            · skip
              exact absurd (show true = false from c19) (by rw [show true = true from by rfl]; decide)
          · skip
            have c20 : v27_15 = true := bnot_f hA c17
            refine run_aops hA 2 _ _ _ _ (by cbv) ?_
            obtain ⟨v34_21, hv34_21, hc22⟩ : ∃ (v34_21 : Bool), v34_21 = (inR k_Valid 0 9999) ∧ Real Try.prog 101 [.int .i64 k_Valid, .int .i64 0, .int .i64 9999] (.bool v34_21) := ⟨_, rfl, by exact r_impl_in A hA k_Valid 0 9999 ⟩
            refine ops_callG rfl rfl rfl rfl (by cbv) (by cbv) hc22 (.inr rfl) (by cbv) ?_
            refine run_aops hA 3 _ _ _ _ (by cbv) ?_
            refine ops_split 37 rfl (fun c23 => ?_) (fun c23 => ?_)
            · skip
              have c24 : v34_21 = false := bnot_t hA c23
              refine run_aops hA 5 _ _ _ _ (by cbv) ?_
              refine ops_done ?_
              refine go_cond rfl (fun c25 => ?_) (fun c25 => ?_)
              · skip
                refine go_seq ?_
                refine go_reg ?_
                refine run_aops hA 1 _ _ _ _ (by cbv) ?_
                refine ops_done ?_
                refine go_ret ⟨_, by cbv, ?_⟩
                show _ = (PV.bool false)
                refine congrArg PV.bool ?_
                try simp only [slen_eq hA, lk_Uids_r] at *
                subst hv34_21 hv27_15 hv16_8 hv7_1
                subst hA
                simp [lookOk, textOk, std, c6, ec7, ec7.symm, c13, ec14, ec14.symm, c20, c24]
              · skip
                exact absurd (show true = false from c25) (by rw [show true = true from by rfl]; decide)
            · skip
              have c26 : v34_21 = true := bnot_f hA c23
              refine run_aops hA 5 _ _ _ _ (by cbv) ?_
              refine ops_done ?_
              refine go_cond rfl (fun c27 => ?_) (fun c27 => ?_)
              · skip
                have ec27 : 8 < (A.rlen k_Uids_r) := gtr_t hA c27
                refine go_seq ?_
                refine go_reg ?_
                refine run_aops hA 1 _ _ _ _ (by cbv) ?_
                refine ops_done ?_
                refine go_ret ⟨_, by cbv, ?_⟩
                show _ = (PV.bool false)
                refine congrArg PV.bool ?_
                try simp only [slen_eq hA, lk_Uids_r] at *
                subst hv34_21 hv27_15 hv16_8 hv7_1
                subst hA
                simp [lookOk, textOk, std, c6, ec7, ec7.symm, c13, ec14, ec14.symm, c20, c26, ec27]
              · skip
                have ec27 : (A.rlen k_Uids_r) ≤ 8 := gtr_f hA c27
                refine go_skip ?_
                refine go_seq ?_
                refine go_seq ?_
                refine go_reg ?_
                refine run_aops hA 4 _ _ _ _ (by cbv) ?_
                refine ops_done ?_
                refine go_block ?_
                refine go_loopE (fun σ m => ∃ (i : Nat) (n : Int), σ = (S68_1 k_Uids_r (A.rlen k_Uids_r) n k_State k_User k_Box k_Valid) ∧ (n = (i : Int) ∧ 0 ≤ i ∧ (i ≤ List.length k_Uids ∨ i = 1) ∧ incFrom (fU k_Uids) 0 (List.length k_Uids) = incFrom (fU k_Uids) i (List.length k_Uids - i)) ∧ m = List.length k_Uids - i) _ [] [1, 44, 45, 46] [1] (S68_1 k_Uids_r (A.rlen k_Uids_r) 0 k_State k_User k_Box k_Valid) rfl (by cbv) ⟨0, 0, rfl, ?_, rfl⟩ (fun σ m hI => ?_)
                · skip
                  exact ⟨rfl, Nat.le_refl _, .inl (Nat.zero_le _), rfl⟩
                obtain ⟨i, n, rfl, ⟨hn, hlo, hi, hE⟩, rfl⟩ := hI
                refine go_seq ?_
                refine go_reg ?_
                refine run_aops hA 1 _ _ _ _ (by cbv) ?_
                refine ops_done ?_
                refine go_seq ?_
                refine go_cond rfl (fun c28 => ?_) (fun c28 => ?_)
                · skip
                  have ec28 : n < (A.rlen k_Uids_r) := lss_t hA c28
                  refine go_skip ?_
                  refine go_seq ?_
                  refine go_block ?_
                  refine go_seq ?_
                  refine go_reg ?_
                  refine run_aops hA 1 _ _ _ _ (by cbv) ?_
                  have h0x29 : (0 : Int) ≤ n := by
                    omega
                  have hlx29 : (Int.toNat n) < List.length k_Uids := by
                    omega
                  obtain ⟨x29, hx29⟩ : ∃ x, (k_Uids)[(Int.toNat n)]? = some x := ⟨_, List.getElem?_eq_getElem hlx29⟩
                  have hmx29 := List.mem_of_getElem? hx29
                  have hrx29 : k_Uids_r[(Int.toNat n)]? = some [.int .i64 x29] := by
                    exact map_at eInt hk_Uids_r hx29
                  have hix29 := hx29
                  rw [hn] at hix29
                  have hix29 : (k_Uids)[i]? = some x29 := hix29
                  refine ops_step rfl rfl (idx_sl rfl rfl rfl rfl rfl h0x29 rfl hrx29) ?_
                  refine run_aops hA 3 _ _ _ _ (by cbv) ?_
                  refine ops_done ?_
                  refine go_seq ?_
                  have wsub : A.num .sub .i64 n 1 = n - 1 := sub_i64 hA (by omega) (by omega)
                  refine go_reg ?_
                  refine run_aops hA 3 _ _ _ _ (by cbv) ?_
                  refine ops_split 53 rfl (fun c30 => ?_) (fun c30 => ?_)
                  · skip
                    have ec30 : 0 < n := gtr_t hA c30
                    refine run_aops hA 4 _ _ _ _ (by cbv) ?_
                    have h0x31 : (0 : Int) ≤ (A.num .sub .i64 n 1) := by
                      omega
                    have hlx31 : (Int.toNat (A.num .sub .i64 n 1)) < List.length k_Uids := by
                      omega
                    obtain ⟨x31, hx31⟩ : ∃ x, (k_Uids)[(Int.toNat (A.num .sub .i64 n 1))]? = some x := ⟨_, List.getElem?_eq_getElem hlx31⟩
                    have hmx31 := List.mem_of_getElem? hx31
                    have hrx31 : k_Uids_r[(Int.toNat (A.num .sub .i64 n 1))]? = some [.int .i64 x31] := by
                      exact map_at eInt hk_Uids_r hx31
                    have ipos : ¬ i = 0 := by omega
                    have hix31 := hx31
                    rw [wsub, show Int.toNat (n - 1) = i - 1 by omega] at hix31
                    have hix31 : (k_Uids)[i - 1]? = some x31 := hix31
                    refine ops_stepG rfl rfl rfl rfl (idx_sl rfl rfl rfl rfl rfl h0x31 rfl hrx31) ?_
                    refine run_aops hA 4 _ _ _ _ (by cbv) ?_
                    refine ops_done ?_
                    refine go_cond rfl (fun c32 => ?_) (fun c32 => ?_)
                    · skip
                      have ec32 : x29 ≤ x31 := geq_t hA c32
                      refine go_seq ?_
                      refine go_reg ?_
                      refine run_aops hA 1 _ _ _ _ (by cbv) ?_
                      refine ops_done ?_
                      refine go_ret ⟨_, by cbv, ?_⟩
                      show _ = (PV.bool false)
                      refine congrArg PV.bool ?_
                      try simp only [slen_eq hA, lk_Uids_r] at *
                      subst hv34_21 hv27_15 hv16_8 hv7_1
                      have hI : incFrom (fU k_Uids) 0 (List.length k_Uids) = false := by
                        rw [hE, inc_at (by omega)]
                        simp [fU_at hix29, fU_at hix31, ipos, c6, ec7, ec7.symm, c13, ec14, ec14.symm, c20, c26, ec27, Int.not_lt.2 ec27, ec28, ec30, ec32]
                      subst hA
                      simp [lookOk, textOk, hI, std, c6, ec7, ec7.symm, c13, ec14, ec14.symm, c20, c26, ec27, Int.not_lt.2 ec27, ec28, ec30, ec32]
                    · skip
                      have ec32 : x31 < x29 := geq_f hA c32
                      refine go_skip ?_
                      refine go_reg ?_
                      refine run_aops hA 2 _ _ _ _ (by cbv) ?_
                      refine ops_done ?_
                      refine ⟨(S68_1 k_Uids_r (A.rlen k_Uids_r) (A.num .add .i64 n 1) k_State k_User k_Box k_Valid), List.length k_Uids - (i + 1), ?_, by cbv, i + 1, (A.num .add .i64 n 1), rfl, ?_, rfl⟩
                      · skip
                        omega
                      · skip
                        try simp only [slen_eq hA, lk_Uids_r] at *
                        subst hv34_21 hv27_15 hv16_8 hv7_1
                        refine ⟨by rw [add_i64 hA (by omega) (by omega)]; omega, by omega, by omega, ?_⟩
                        rw [hE, inc_at (by omega)]
                        simp [fU_at hix29, fU_at hix31, ipos, c6, ec7, ec7.symm, c13, ec14, ec14.symm, c20, c26, ec27, Int.not_lt.2 ec27, ec28, ec30, ec32, Int.not_le.2 ec32]
                  · skip
                    have ec30 : n ≤ 0 := gtr_f hA c30
                    refine run_aops hA 9 _ _ _ _ (by cbv) ?_
                    refine ops_done ?_
                    refine go_cond rfl (fun c33 => ?_) (fun c33 => ?_)
                    · skip
                      exact absurd (show false = true from c33) (by rw [show false = false from by rfl]; decide)
                    · skip
                      refine go_skip ?_
                      refine go_reg ?_
                      refine run_aops hA 2 _ _ _ _ (by cbv) ?_
                      refine ops_done ?_
                      refine ⟨(S68_1 k_Uids_r (A.rlen k_Uids_r) (A.num .add .i64 n 1) k_State k_User k_Box k_Valid), List.length k_Uids - (i + 1), ?_, by cbv, i + 1, (A.num .add .i64 n 1), rfl, ?_, rfl⟩
                      · skip
                        omega
                      · skip
                        try simp only [slen_eq hA, lk_Uids_r] at *
                        subst hv34_21 hv27_15 hv16_8 hv7_1
                        have iz : i = 0 := by omega
                        refine ⟨by rw [add_i64 hA (by omega) (by omega)]; omega, by omega, by omega, ?_⟩
                        rw [hE, inc_at (by omega)]
                        simp [fU_at hix29, iz, c6, ec7, ec7.symm, c13, ec14, ec14.symm, c20, c26, ec27, Int.not_lt.2 ec27, ec28, ec30, Int.not_lt.2 ec30]
                · skip
                  have ec28 : (A.rlen k_Uids_r) ≤ n := lss_f hA c28
                  refine go_exit ⟨fun _ => ?_, fun h => absurd rfl h⟩
                  refine go_seq ?_
                  refine go_reg ?_
                  refine run_aops hA 1 _ _ _ _ (by cbv) ?_
                  refine ops_done ?_
                  refine go_ret ⟨_, by cbv, ?_⟩
                  show _ = (PV.bool true)
                  refine congrArg PV.bool ?_
                  try simp only [slen_eq hA, lk_Uids_r] at *
                  subst hv34_21 hv27_15 hv16_8 hv7_1
                  have hI : incFrom (fU k_Uids) 0 (List.length k_Uids) = true := by rw [hE, inc_end (by omega)]
                  subst hA
                  simp [lookOk, textOk, hI, std, c6, ec7, ec7.symm, c13, ec14, ec14.symm, c20, c26, ec27, Int.not_lt.2 ec27, ec28, Int.not_lt.2 ec28]
        · skip
          have ec14 : k_Box = (ByteArray.mk #[]) := sneq_f hA c14
          refine run_aops hA 9 _ _ _ _ (by cbv) ?_
          obtain ⟨v34_34, hv34_34, hc35⟩ : ∃ (v34_34 : Bool), v34_34 = (inR k_Valid 0 9999) ∧ Real Try.prog 101 [.int .i64 k_Valid, .int .i64 0, .int .i64 9999] (.bool v34_34) := ⟨_, rfl, by exact r_impl_in A hA k_Valid 0 9999 ⟩
          refine ops_callG rfl rfl rfl rfl (by cbv) (by cbv) hc35 (.inr rfl) (by cbv) ?_
          refine run_aops hA 3 _ _ _ _ (by cbv) ?_
          refine ops_split 37 rfl (fun c36 => ?_) (fun c36 => ?_)
          · skip
            have c37 : v34_34 = false := bnot_t hA c36
            refine run_aops hA 5 _ _ _ _ (by cbv) ?_
            refine ops_done ?_
            refine go_cond rfl (fun c38 => ?_) (fun c38 => ?_)
            · skip
              refine go_seq ?_
              refine go_reg ?_
              refine run_aops hA 1 _ _ _ _ (by cbv) ?_
              refine ops_done ?_
              refine go_ret ⟨_, by cbv, ?_⟩
              show _ = (PV.bool false)
              refine congrArg PV.bool ?_
              try simp only [slen_eq hA, lk_Uids_r] at *
              subst hv34_34 hv16_8 hv7_1
              subst hA
              simp [lookOk, textOk, std, c6, ec7, ec7.symm, c13, ec14, c37]
            · skip
              exact absurd (show true = false from c38) (by rw [show true = true from by rfl]; decide)
          · skip
            have c39 : v34_34 = true := bnot_f hA c36
            refine run_aops hA 5 _ _ _ _ (by cbv) ?_
            refine ops_done ?_
            refine go_cond rfl (fun c40 => ?_) (fun c40 => ?_)
            · skip
              have ec40 : 8 < (A.rlen k_Uids_r) := gtr_t hA c40
              refine go_seq ?_
              refine go_reg ?_
              refine run_aops hA 1 _ _ _ _ (by cbv) ?_
              refine ops_done ?_
              refine go_ret ⟨_, by cbv, ?_⟩
              show _ = (PV.bool false)
              refine congrArg PV.bool ?_
              try simp only [slen_eq hA, lk_Uids_r] at *
              subst hv34_34 hv16_8 hv7_1
              subst hA
              simp [lookOk, textOk, std, c6, ec7, ec7.symm, c13, ec14, c39, ec40]
            · skip
              have ec40 : (A.rlen k_Uids_r) ≤ 8 := gtr_f hA c40
              refine go_skip ?_
              refine go_seq ?_
              refine go_seq ?_
              refine go_reg ?_
              refine run_aops hA 4 _ _ _ _ (by cbv) ?_
              refine ops_done ?_
              refine go_block ?_
              refine go_loopE (fun σ m => ∃ (i : Nat) (n : Int), σ = (S68_2 k_Uids_r (A.rlen k_Uids_r) n k_State k_User k_Box k_Valid) ∧ (n = (i : Int) ∧ 0 ≤ i ∧ (i ≤ List.length k_Uids ∨ i = 1) ∧ incFrom (fU k_Uids) 0 (List.length k_Uids) = incFrom (fU k_Uids) i (List.length k_Uids - i)) ∧ m = List.length k_Uids - i) _ [] [1, 44, 45, 46] [1] (S68_2 k_Uids_r (A.rlen k_Uids_r) 0 k_State k_User k_Box k_Valid) rfl (by cbv) ⟨0, 0, rfl, ?_, rfl⟩ (fun σ m hI => ?_)
              · skip
                exact ⟨rfl, Nat.le_refl _, .inl (Nat.zero_le _), rfl⟩
              obtain ⟨i, n, rfl, ⟨hn, hlo, hi, hE⟩, rfl⟩ := hI
              refine go_seq ?_
              refine go_reg ?_
              refine run_aops hA 1 _ _ _ _ (by cbv) ?_
              refine ops_done ?_
              refine go_seq ?_
              refine go_cond rfl (fun c41 => ?_) (fun c41 => ?_)
              · skip
                have ec41 : n < (A.rlen k_Uids_r) := lss_t hA c41
                refine go_skip ?_
                refine go_seq ?_
                refine go_block ?_
                refine go_seq ?_
                refine go_reg ?_
                refine run_aops hA 1 _ _ _ _ (by cbv) ?_
                have h0x42 : (0 : Int) ≤ n := by
                  omega
                have hlx42 : (Int.toNat n) < List.length k_Uids := by
                  omega
                obtain ⟨x42, hx42⟩ : ∃ x, (k_Uids)[(Int.toNat n)]? = some x := ⟨_, List.getElem?_eq_getElem hlx42⟩
                have hmx42 := List.mem_of_getElem? hx42
                have hrx42 : k_Uids_r[(Int.toNat n)]? = some [.int .i64 x42] := by
                  exact map_at eInt hk_Uids_r hx42
                have hix42 := hx42
                rw [hn] at hix42
                have hix42 : (k_Uids)[i]? = some x42 := hix42
                refine ops_step rfl rfl (idx_sl rfl rfl rfl rfl rfl h0x42 rfl hrx42) ?_
                refine run_aops hA 3 _ _ _ _ (by cbv) ?_
                refine ops_done ?_
                refine go_seq ?_
                have wsub : A.num .sub .i64 n 1 = n - 1 := sub_i64 hA (by omega) (by omega)
                refine go_reg ?_
                refine run_aops hA 3 _ _ _ _ (by cbv) ?_
                refine ops_split 53 rfl (fun c43 => ?_) (fun c43 => ?_)
                · skip
                  have ec43 : 0 < n := gtr_t hA c43
                  refine run_aops hA 4 _ _ _ _ (by cbv) ?_
                  have h0x44 : (0 : Int) ≤ (A.num .sub .i64 n 1) := by
                    omega
                  have hlx44 : (Int.toNat (A.num .sub .i64 n 1)) < List.length k_Uids := by
                    omega
                  obtain ⟨x44, hx44⟩ : ∃ x, (k_Uids)[(Int.toNat (A.num .sub .i64 n 1))]? = some x := ⟨_, List.getElem?_eq_getElem hlx44⟩
                  have hmx44 := List.mem_of_getElem? hx44
                  have hrx44 : k_Uids_r[(Int.toNat (A.num .sub .i64 n 1))]? = some [.int .i64 x44] := by
                    exact map_at eInt hk_Uids_r hx44
                  have ipos : ¬ i = 0 := by omega
                  have hix44 := hx44
                  rw [wsub, show Int.toNat (n - 1) = i - 1 by omega] at hix44
                  have hix44 : (k_Uids)[i - 1]? = some x44 := hix44
                  refine ops_stepG rfl rfl rfl rfl (idx_sl rfl rfl rfl rfl rfl h0x44 rfl hrx44) ?_
                  refine run_aops hA 4 _ _ _ _ (by cbv) ?_
                  refine ops_done ?_
                  refine go_cond rfl (fun c45 => ?_) (fun c45 => ?_)
                  · skip
                    have ec45 : x42 ≤ x44 := geq_t hA c45
                    refine go_seq ?_
                    refine go_reg ?_
                    refine run_aops hA 1 _ _ _ _ (by cbv) ?_
                    refine ops_done ?_
                    refine go_ret ⟨_, by cbv, ?_⟩
                    show _ = (PV.bool false)
                    refine congrArg PV.bool ?_
                    try simp only [slen_eq hA, lk_Uids_r] at *
                    subst hv34_34 hv16_8 hv7_1
                    have hI : incFrom (fU k_Uids) 0 (List.length k_Uids) = false := by
                      rw [hE, inc_at (by omega)]
                      simp [fU_at hix42, fU_at hix44, ipos, c6, ec7, ec7.symm, c13, ec14, c39, ec40, Int.not_lt.2 ec40, ec41, ec43, ec45]
                    subst hA
                    simp [lookOk, textOk, hI, std, c6, ec7, ec7.symm, c13, ec14, c39, ec40, Int.not_lt.2 ec40, ec41, ec43, ec45]
                  · skip
                    have ec45 : x44 < x42 := geq_f hA c45
                    refine go_skip ?_
                    refine go_reg ?_
                    refine run_aops hA 2 _ _ _ _ (by cbv) ?_
                    refine ops_done ?_
                    refine ⟨(S68_2 k_Uids_r (A.rlen k_Uids_r) (A.num .add .i64 n 1) k_State k_User k_Box k_Valid), List.length k_Uids - (i + 1), ?_, by cbv, i + 1, (A.num .add .i64 n 1), rfl, ?_, rfl⟩
                    · skip
                      omega
                    · skip
                      try simp only [slen_eq hA, lk_Uids_r] at *
                      subst hv34_34 hv16_8 hv7_1
                      refine ⟨by rw [add_i64 hA (by omega) (by omega)]; omega, by omega, by omega, ?_⟩
                      rw [hE, inc_at (by omega)]
                      simp [fU_at hix42, fU_at hix44, ipos, c6, ec7, ec7.symm, c13, ec14, c39, ec40, Int.not_lt.2 ec40, ec41, ec43, ec45, Int.not_le.2 ec45]
                · skip
                  have ec43 : n ≤ 0 := gtr_f hA c43
                  refine run_aops hA 9 _ _ _ _ (by cbv) ?_
                  refine ops_done ?_
                  refine go_cond rfl (fun c46 => ?_) (fun c46 => ?_)
                  · skip
                    exact absurd (show false = true from c46) (by rw [show false = false from by rfl]; decide)
                  · skip
                    refine go_skip ?_
                    refine go_reg ?_
                    refine run_aops hA 2 _ _ _ _ (by cbv) ?_
                    refine ops_done ?_
                    refine ⟨(S68_2 k_Uids_r (A.rlen k_Uids_r) (A.num .add .i64 n 1) k_State k_User k_Box k_Valid), List.length k_Uids - (i + 1), ?_, by cbv, i + 1, (A.num .add .i64 n 1), rfl, ?_, rfl⟩
                    · skip
                      omega
                    · skip
                      try simp only [slen_eq hA, lk_Uids_r] at *
                      subst hv34_34 hv16_8 hv7_1
                      have iz : i = 0 := by omega
                      refine ⟨by rw [add_i64 hA (by omega) (by omega)]; omega, by omega, by omega, ?_⟩
                      rw [hE, inc_at (by omega)]
                      simp [fU_at hix42, iz, c6, ec7, ec7.symm, c13, ec14, c39, ec40, Int.not_lt.2 ec40, ec41, ec43, Int.not_lt.2 ec43]
              · skip
                have ec41 : (A.rlen k_Uids_r) ≤ n := lss_f hA c41
                refine go_exit ⟨fun _ => ?_, fun h => absurd rfl h⟩
                refine go_seq ?_
                refine go_reg ?_
                refine run_aops hA 1 _ _ _ _ (by cbv) ?_
                refine ops_done ?_
                refine go_ret ⟨_, by cbv, ?_⟩
                show _ = (PV.bool true)
                refine congrArg PV.bool ?_
                try simp only [slen_eq hA, lk_Uids_r] at *
                subst hv34_34 hv16_8 hv7_1
                have hI : incFrom (fU k_Uids) 0 (List.length k_Uids) = true := by rw [hE, inc_end (by omega)]
                subst hA
                simp [lookOk, textOk, hI, std, c6, ec7, ec7.symm, c13, ec14, c39, ec40, Int.not_lt.2 ec40, ec41, Int.not_lt.2 ec41]
    · skip
      have ec7 : k_User = (ByteArray.mk #[]) := sneq_f hA c7
      refine run_aops hA 11 _ _ _ _ (by cbv) ?_
      refine ops_split 24 rfl (fun c47 => ?_) (fun c47 => ?_)
      · skip
        have ec47 : k_Box ≠ (ByteArray.mk #[]) := sneq_t hA c47
        refine run_aops hA 2 _ _ _ _ (by cbv) ?_
        obtain ⟨v27_48, hv27_48, hc49⟩ : ∃ (v27_48 : Bool), v27_48 = (wordOk k_Box) ∧ Real Try.prog 102 [.str k_Box] (.bool v27_48) := ⟨_, rfl, by exact r_impl_WordOk A hA k_Box (by first | assumption | omega)⟩
        refine ops_callG rfl rfl rfl rfl (by cbv) (by cbv) hc49 (.inr rfl) (by cbv) ?_
        refine run_aops hA 4 _ _ _ _ (by cbv) ?_
        refine ops_split 31 rfl (fun c50 => ?_) (fun c50 => ?_)
        · skip
          have c51 : v27_48 = false := bnot_t hA c50
          refine run_aops hA 11 _ _ _ _ (by cbv) ?_
          refine ops_done ?_
          refine go_cond rfl (fun c52 => ?_) (fun c52 => ?_)
          · skip
            refine go_seq ?_
            refine go_reg ?_
            refine run_aops hA 1 _ _ _ _ (by cbv) ?_
            refine ops_done ?_
            refine go_ret ⟨_, by cbv, ?_⟩
            show _ = (PV.bool false)
            refine congrArg PV.bool ?_
            try simp only [slen_eq hA, lk_Uids_r] at *
            subst hv27_48 hv7_1
            subst hA
            simp [lookOk, textOk, std, c6, ec7, ec47, ec47.symm, c51]
          · skip
            exact absurd (show true = false from c52) (by rw [show true = true from by rfl]; decide)
        · skip
          have c53 : v27_48 = true := bnot_f hA c50
          refine run_aops hA 2 _ _ _ _ (by cbv) ?_
          obtain ⟨v34_54, hv34_54, hc55⟩ : ∃ (v34_54 : Bool), v34_54 = (inR k_Valid 0 9999) ∧ Real Try.prog 101 [.int .i64 k_Valid, .int .i64 0, .int .i64 9999] (.bool v34_54) := ⟨_, rfl, by exact r_impl_in A hA k_Valid 0 9999 ⟩
          refine ops_callG rfl rfl rfl rfl (by cbv) (by cbv) hc55 (.inr rfl) (by cbv) ?_
          refine run_aops hA 3 _ _ _ _ (by cbv) ?_
          refine ops_split 37 rfl (fun c56 => ?_) (fun c56 => ?_)
          · skip
            have c57 : v34_54 = false := bnot_t hA c56
            refine run_aops hA 5 _ _ _ _ (by cbv) ?_
            refine ops_done ?_
            refine go_cond rfl (fun c58 => ?_) (fun c58 => ?_)
            · skip
              refine go_seq ?_
              refine go_reg ?_
              refine run_aops hA 1 _ _ _ _ (by cbv) ?_
              refine ops_done ?_
              refine go_ret ⟨_, by cbv, ?_⟩
              show _ = (PV.bool false)
              refine congrArg PV.bool ?_
              try simp only [slen_eq hA, lk_Uids_r] at *
              subst hv34_54 hv27_48 hv7_1
              subst hA
              simp [lookOk, textOk, std, c6, ec7, ec47, ec47.symm, c53, c57]
            · skip
              exact absurd (show true = false from c58) (by rw [show true = true from by rfl]; decide)
          · skip
            have c59 : v34_54 = true := bnot_f hA c56
            refine run_aops hA 5 _ _ _ _ (by cbv) ?_
            refine ops_done ?_
            refine go_cond rfl (fun c60 => ?_) (fun c60 => ?_)
            · skip
              have ec60 : 8 < (A.rlen k_Uids_r) := gtr_t hA c60
              refine go_seq ?_
              refine go_reg ?_
              refine run_aops hA 1 _ _ _ _ (by cbv) ?_
              refine ops_done ?_
              refine go_ret ⟨_, by cbv, ?_⟩
              show _ = (PV.bool false)
              refine congrArg PV.bool ?_
              try simp only [slen_eq hA, lk_Uids_r] at *
              subst hv34_54 hv27_48 hv7_1
              subst hA
              simp [lookOk, textOk, std, c6, ec7, ec47, ec47.symm, c53, c59, ec60]
            · skip
              have ec60 : (A.rlen k_Uids_r) ≤ 8 := gtr_f hA c60
              refine go_skip ?_
              refine go_seq ?_
              refine go_seq ?_
              refine go_reg ?_
              refine run_aops hA 4 _ _ _ _ (by cbv) ?_
              refine ops_done ?_
              refine go_block ?_
              refine go_loopE (fun σ m => ∃ (i : Nat) (n : Int), σ = (S68_3 k_Uids_r (A.rlen k_Uids_r) n k_State k_User k_Box k_Valid) ∧ (n = (i : Int) ∧ 0 ≤ i ∧ (i ≤ List.length k_Uids ∨ i = 1) ∧ incFrom (fU k_Uids) 0 (List.length k_Uids) = incFrom (fU k_Uids) i (List.length k_Uids - i)) ∧ m = List.length k_Uids - i) _ [] [1, 44, 45, 46] [1] (S68_3 k_Uids_r (A.rlen k_Uids_r) 0 k_State k_User k_Box k_Valid) rfl (by cbv) ⟨0, 0, rfl, ?_, rfl⟩ (fun σ m hI => ?_)
              · skip
                exact ⟨rfl, Nat.le_refl _, .inl (Nat.zero_le _), rfl⟩
              obtain ⟨i, n, rfl, ⟨hn, hlo, hi, hE⟩, rfl⟩ := hI
              refine go_seq ?_
              refine go_reg ?_
              refine run_aops hA 1 _ _ _ _ (by cbv) ?_
              refine ops_done ?_
              refine go_seq ?_
              refine go_cond rfl (fun c61 => ?_) (fun c61 => ?_)
              · skip
                have ec61 : n < (A.rlen k_Uids_r) := lss_t hA c61
                refine go_skip ?_
                refine go_seq ?_
                refine go_block ?_
                refine go_seq ?_
                refine go_reg ?_
                refine run_aops hA 1 _ _ _ _ (by cbv) ?_
                have h0x62 : (0 : Int) ≤ n := by
                  omega
                have hlx62 : (Int.toNat n) < List.length k_Uids := by
                  omega
                obtain ⟨x62, hx62⟩ : ∃ x, (k_Uids)[(Int.toNat n)]? = some x := ⟨_, List.getElem?_eq_getElem hlx62⟩
                have hmx62 := List.mem_of_getElem? hx62
                have hrx62 : k_Uids_r[(Int.toNat n)]? = some [.int .i64 x62] := by
                  exact map_at eInt hk_Uids_r hx62
                have hix62 := hx62
                rw [hn] at hix62
                have hix62 : (k_Uids)[i]? = some x62 := hix62
                refine ops_step rfl rfl (idx_sl rfl rfl rfl rfl rfl h0x62 rfl hrx62) ?_
                refine run_aops hA 3 _ _ _ _ (by cbv) ?_
                refine ops_done ?_
                refine go_seq ?_
                have wsub : A.num .sub .i64 n 1 = n - 1 := sub_i64 hA (by omega) (by omega)
                refine go_reg ?_
                refine run_aops hA 3 _ _ _ _ (by cbv) ?_
                refine ops_split 53 rfl (fun c63 => ?_) (fun c63 => ?_)
                · skip
                  have ec63 : 0 < n := gtr_t hA c63
                  refine run_aops hA 4 _ _ _ _ (by cbv) ?_
                  have h0x64 : (0 : Int) ≤ (A.num .sub .i64 n 1) := by
                    omega
                  have hlx64 : (Int.toNat (A.num .sub .i64 n 1)) < List.length k_Uids := by
                    omega
                  obtain ⟨x64, hx64⟩ : ∃ x, (k_Uids)[(Int.toNat (A.num .sub .i64 n 1))]? = some x := ⟨_, List.getElem?_eq_getElem hlx64⟩
                  have hmx64 := List.mem_of_getElem? hx64
                  have hrx64 : k_Uids_r[(Int.toNat (A.num .sub .i64 n 1))]? = some [.int .i64 x64] := by
                    exact map_at eInt hk_Uids_r hx64
                  have ipos : ¬ i = 0 := by omega
                  have hix64 := hx64
                  rw [wsub, show Int.toNat (n - 1) = i - 1 by omega] at hix64
                  have hix64 : (k_Uids)[i - 1]? = some x64 := hix64
                  refine ops_stepG rfl rfl rfl rfl (idx_sl rfl rfl rfl rfl rfl h0x64 rfl hrx64) ?_
                  refine run_aops hA 4 _ _ _ _ (by cbv) ?_
                  refine ops_done ?_
                  refine go_cond rfl (fun c65 => ?_) (fun c65 => ?_)
                  · skip
                    have ec65 : x62 ≤ x64 := geq_t hA c65
                    refine go_seq ?_
                    refine go_reg ?_
                    refine run_aops hA 1 _ _ _ _ (by cbv) ?_
                    refine ops_done ?_
                    refine go_ret ⟨_, by cbv, ?_⟩
                    show _ = (PV.bool false)
                    refine congrArg PV.bool ?_
                    try simp only [slen_eq hA, lk_Uids_r] at *
                    subst hv34_54 hv27_48 hv7_1
                    have hI : incFrom (fU k_Uids) 0 (List.length k_Uids) = false := by
                      rw [hE, inc_at (by omega)]
                      simp [fU_at hix62, fU_at hix64, ipos, c6, ec7, ec47, ec47.symm, c53, c59, ec60, Int.not_lt.2 ec60, ec61, ec63, ec65]
                    subst hA
                    simp [lookOk, textOk, hI, std, c6, ec7, ec47, ec47.symm, c53, c59, ec60, Int.not_lt.2 ec60, ec61, ec63, ec65]
                  · skip
                    have ec65 : x64 < x62 := geq_f hA c65
                    refine go_skip ?_
                    refine go_reg ?_
                    refine run_aops hA 2 _ _ _ _ (by cbv) ?_
                    refine ops_done ?_
                    refine ⟨(S68_3 k_Uids_r (A.rlen k_Uids_r) (A.num .add .i64 n 1) k_State k_User k_Box k_Valid), List.length k_Uids - (i + 1), ?_, by cbv, i + 1, (A.num .add .i64 n 1), rfl, ?_, rfl⟩
                    · skip
                      omega
                    · skip
                      try simp only [slen_eq hA, lk_Uids_r] at *
                      subst hv34_54 hv27_48 hv7_1
                      refine ⟨by rw [add_i64 hA (by omega) (by omega)]; omega, by omega, by omega, ?_⟩
                      rw [hE, inc_at (by omega)]
                      simp [fU_at hix62, fU_at hix64, ipos, c6, ec7, ec47, ec47.symm, c53, c59, ec60, Int.not_lt.2 ec60, ec61, ec63, ec65, Int.not_le.2 ec65]
                · skip
                  have ec63 : n ≤ 0 := gtr_f hA c63
                  refine run_aops hA 9 _ _ _ _ (by cbv) ?_
                  refine ops_done ?_
                  refine go_cond rfl (fun c66 => ?_) (fun c66 => ?_)
                  · skip
                    exact absurd (show false = true from c66) (by rw [show false = false from by rfl]; decide)
                  · skip
                    refine go_skip ?_
                    refine go_reg ?_
                    refine run_aops hA 2 _ _ _ _ (by cbv) ?_
                    refine ops_done ?_
                    refine ⟨(S68_3 k_Uids_r (A.rlen k_Uids_r) (A.num .add .i64 n 1) k_State k_User k_Box k_Valid), List.length k_Uids - (i + 1), ?_, by cbv, i + 1, (A.num .add .i64 n 1), rfl, ?_, rfl⟩
                    · skip
                      omega
                    · skip
                      try simp only [slen_eq hA, lk_Uids_r] at *
                      subst hv34_54 hv27_48 hv7_1
                      have iz : i = 0 := by omega
                      refine ⟨by rw [add_i64 hA (by omega) (by omega)]; omega, by omega, by omega, ?_⟩
                      rw [hE, inc_at (by omega)]
                      simp [fU_at hix62, iz, c6, ec7, ec47, ec47.symm, c53, c59, ec60, Int.not_lt.2 ec60, ec61, ec63, Int.not_lt.2 ec63]
              · skip
                have ec61 : (A.rlen k_Uids_r) ≤ n := lss_f hA c61
                refine go_exit ⟨fun _ => ?_, fun h => absurd rfl h⟩
                refine go_seq ?_
                refine go_reg ?_
                refine run_aops hA 1 _ _ _ _ (by cbv) ?_
                refine ops_done ?_
                refine go_ret ⟨_, by cbv, ?_⟩
                show _ = (PV.bool true)
                refine congrArg PV.bool ?_
                try simp only [slen_eq hA, lk_Uids_r] at *
                subst hv34_54 hv27_48 hv7_1
                have hI : incFrom (fU k_Uids) 0 (List.length k_Uids) = true := by rw [hE, inc_end (by omega)]
                subst hA
                simp [lookOk, textOk, hI, std, c6, ec7, ec47, ec47.symm, c53, c59, ec60, Int.not_lt.2 ec60, ec61, Int.not_lt.2 ec61]
      · skip
        have ec47 : k_Box = (ByteArray.mk #[]) := sneq_f hA c47
        refine run_aops hA 9 _ _ _ _ (by cbv) ?_
        obtain ⟨v34_67, hv34_67, hc68⟩ : ∃ (v34_67 : Bool), v34_67 = (inR k_Valid 0 9999) ∧ Real Try.prog 101 [.int .i64 k_Valid, .int .i64 0, .int .i64 9999] (.bool v34_67) := ⟨_, rfl, by exact r_impl_in A hA k_Valid 0 9999 ⟩
        refine ops_callG rfl rfl rfl rfl (by cbv) (by cbv) hc68 (.inr rfl) (by cbv) ?_
        refine run_aops hA 3 _ _ _ _ (by cbv) ?_
        refine ops_split 37 rfl (fun c69 => ?_) (fun c69 => ?_)
        · skip
          have c70 : v34_67 = false := bnot_t hA c69
          refine run_aops hA 5 _ _ _ _ (by cbv) ?_
          refine ops_done ?_
          refine go_cond rfl (fun c71 => ?_) (fun c71 => ?_)
          · skip
            refine go_seq ?_
            refine go_reg ?_
            refine run_aops hA 1 _ _ _ _ (by cbv) ?_
            refine ops_done ?_
            refine go_ret ⟨_, by cbv, ?_⟩
            show _ = (PV.bool false)
            refine congrArg PV.bool ?_
            try simp only [slen_eq hA, lk_Uids_r] at *
            subst hv34_67 hv7_1
            subst hA
            simp [lookOk, textOk, std, c6, ec7, ec47, c70]
          · skip
            exact absurd (show true = false from c71) (by rw [show true = true from by rfl]; decide)
        · skip
          have c72 : v34_67 = true := bnot_f hA c69
          refine run_aops hA 5 _ _ _ _ (by cbv) ?_
          refine ops_done ?_
          refine go_cond rfl (fun c73 => ?_) (fun c73 => ?_)
          · skip
            have ec73 : 8 < (A.rlen k_Uids_r) := gtr_t hA c73
            refine go_seq ?_
            refine go_reg ?_
            refine run_aops hA 1 _ _ _ _ (by cbv) ?_
            refine ops_done ?_
            refine go_ret ⟨_, by cbv, ?_⟩
            show _ = (PV.bool false)
            refine congrArg PV.bool ?_
            try simp only [slen_eq hA, lk_Uids_r] at *
            subst hv34_67 hv7_1
            subst hA
            simp [lookOk, textOk, std, c6, ec7, ec47, c72, ec73]
          · skip
            have ec73 : (A.rlen k_Uids_r) ≤ 8 := gtr_f hA c73
            refine go_skip ?_
            refine go_seq ?_
            refine go_seq ?_
            refine go_reg ?_
            refine run_aops hA 4 _ _ _ _ (by cbv) ?_
            refine ops_done ?_
            refine go_block ?_
            refine go_loopE (fun σ m => ∃ (i : Nat) (n : Int), σ = (S68_4 k_Uids_r (A.rlen k_Uids_r) n k_State k_User k_Box k_Valid) ∧ (n = (i : Int) ∧ 0 ≤ i ∧ (i ≤ List.length k_Uids ∨ i = 1) ∧ incFrom (fU k_Uids) 0 (List.length k_Uids) = incFrom (fU k_Uids) i (List.length k_Uids - i)) ∧ m = List.length k_Uids - i) _ [] [1, 44, 45, 46] [1] (S68_4 k_Uids_r (A.rlen k_Uids_r) 0 k_State k_User k_Box k_Valid) rfl (by cbv) ⟨0, 0, rfl, ?_, rfl⟩ (fun σ m hI => ?_)
            · skip
              exact ⟨rfl, Nat.le_refl _, .inl (Nat.zero_le _), rfl⟩
            obtain ⟨i, n, rfl, ⟨hn, hlo, hi, hE⟩, rfl⟩ := hI
            refine go_seq ?_
            refine go_reg ?_
            refine run_aops hA 1 _ _ _ _ (by cbv) ?_
            refine ops_done ?_
            refine go_seq ?_
            refine go_cond rfl (fun c74 => ?_) (fun c74 => ?_)
            · skip
              have ec74 : n < (A.rlen k_Uids_r) := lss_t hA c74
              refine go_skip ?_
              refine go_seq ?_
              refine go_block ?_
              refine go_seq ?_
              refine go_reg ?_
              refine run_aops hA 1 _ _ _ _ (by cbv) ?_
              have h0x75 : (0 : Int) ≤ n := by
                omega
              have hlx75 : (Int.toNat n) < List.length k_Uids := by
                omega
              obtain ⟨x75, hx75⟩ : ∃ x, (k_Uids)[(Int.toNat n)]? = some x := ⟨_, List.getElem?_eq_getElem hlx75⟩
              have hmx75 := List.mem_of_getElem? hx75
              have hrx75 : k_Uids_r[(Int.toNat n)]? = some [.int .i64 x75] := by
                exact map_at eInt hk_Uids_r hx75
              have hix75 := hx75
              rw [hn] at hix75
              have hix75 : (k_Uids)[i]? = some x75 := hix75
              refine ops_step rfl rfl (idx_sl rfl rfl rfl rfl rfl h0x75 rfl hrx75) ?_
              refine run_aops hA 3 _ _ _ _ (by cbv) ?_
              refine ops_done ?_
              refine go_seq ?_
              have wsub : A.num .sub .i64 n 1 = n - 1 := sub_i64 hA (by omega) (by omega)
              refine go_reg ?_
              refine run_aops hA 3 _ _ _ _ (by cbv) ?_
              refine ops_split 53 rfl (fun c76 => ?_) (fun c76 => ?_)
              · skip
                have ec76 : 0 < n := gtr_t hA c76
                refine run_aops hA 4 _ _ _ _ (by cbv) ?_
                have h0x77 : (0 : Int) ≤ (A.num .sub .i64 n 1) := by
                  omega
                have hlx77 : (Int.toNat (A.num .sub .i64 n 1)) < List.length k_Uids := by
                  omega
                obtain ⟨x77, hx77⟩ : ∃ x, (k_Uids)[(Int.toNat (A.num .sub .i64 n 1))]? = some x := ⟨_, List.getElem?_eq_getElem hlx77⟩
                have hmx77 := List.mem_of_getElem? hx77
                have hrx77 : k_Uids_r[(Int.toNat (A.num .sub .i64 n 1))]? = some [.int .i64 x77] := by
                  exact map_at eInt hk_Uids_r hx77
                have ipos : ¬ i = 0 := by omega
                have hix77 := hx77
                rw [wsub, show Int.toNat (n - 1) = i - 1 by omega] at hix77
                have hix77 : (k_Uids)[i - 1]? = some x77 := hix77
                refine ops_stepG rfl rfl rfl rfl (idx_sl rfl rfl rfl rfl rfl h0x77 rfl hrx77) ?_
                refine run_aops hA 4 _ _ _ _ (by cbv) ?_
                refine ops_done ?_
                refine go_cond rfl (fun c78 => ?_) (fun c78 => ?_)
                · skip
                  have ec78 : x75 ≤ x77 := geq_t hA c78
                  refine go_seq ?_
                  refine go_reg ?_
                  refine run_aops hA 1 _ _ _ _ (by cbv) ?_
                  refine ops_done ?_
                  refine go_ret ⟨_, by cbv, ?_⟩
                  show _ = (PV.bool false)
                  refine congrArg PV.bool ?_
                  try simp only [slen_eq hA, lk_Uids_r] at *
                  subst hv34_67 hv7_1
                  have hI : incFrom (fU k_Uids) 0 (List.length k_Uids) = false := by
                    rw [hE, inc_at (by omega)]
                    simp [fU_at hix75, fU_at hix77, ipos, c6, ec7, ec47, c72, ec73, Int.not_lt.2 ec73, ec74, ec76, ec78]
                  subst hA
                  simp [lookOk, textOk, hI, std, c6, ec7, ec47, c72, ec73, Int.not_lt.2 ec73, ec74, ec76, ec78]
                · skip
                  have ec78 : x77 < x75 := geq_f hA c78
                  refine go_skip ?_
                  refine go_reg ?_
                  refine run_aops hA 2 _ _ _ _ (by cbv) ?_
                  refine ops_done ?_
                  refine ⟨(S68_4 k_Uids_r (A.rlen k_Uids_r) (A.num .add .i64 n 1) k_State k_User k_Box k_Valid), List.length k_Uids - (i + 1), ?_, by cbv, i + 1, (A.num .add .i64 n 1), rfl, ?_, rfl⟩
                  · skip
                    omega
                  · skip
                    try simp only [slen_eq hA, lk_Uids_r] at *
                    subst hv34_67 hv7_1
                    refine ⟨by rw [add_i64 hA (by omega) (by omega)]; omega, by omega, by omega, ?_⟩
                    rw [hE, inc_at (by omega)]
                    simp [fU_at hix75, fU_at hix77, ipos, c6, ec7, ec47, c72, ec73, Int.not_lt.2 ec73, ec74, ec76, ec78, Int.not_le.2 ec78]
              · skip
                have ec76 : n ≤ 0 := gtr_f hA c76
                refine run_aops hA 9 _ _ _ _ (by cbv) ?_
                refine ops_done ?_
                refine go_cond rfl (fun c79 => ?_) (fun c79 => ?_)
                · skip
                  exact absurd (show false = true from c79) (by rw [show false = false from by rfl]; decide)
                · skip
                  refine go_skip ?_
                  refine go_reg ?_
                  refine run_aops hA 2 _ _ _ _ (by cbv) ?_
                  refine ops_done ?_
                  refine ⟨(S68_4 k_Uids_r (A.rlen k_Uids_r) (A.num .add .i64 n 1) k_State k_User k_Box k_Valid), List.length k_Uids - (i + 1), ?_, by cbv, i + 1, (A.num .add .i64 n 1), rfl, ?_, rfl⟩
                  · skip
                    omega
                  · skip
                    try simp only [slen_eq hA, lk_Uids_r] at *
                    subst hv34_67 hv7_1
                    have iz : i = 0 := by omega
                    refine ⟨by rw [add_i64 hA (by omega) (by omega)]; omega, by omega, by omega, ?_⟩
                    rw [hE, inc_at (by omega)]
                    simp [fU_at hix75, iz, c6, ec7, ec47, c72, ec73, Int.not_lt.2 ec73, ec74, ec76, Int.not_lt.2 ec76]
            · skip
              have ec74 : (A.rlen k_Uids_r) ≤ n := lss_f hA c74
              refine go_exit ⟨fun _ => ?_, fun h => absurd rfl h⟩
              refine go_seq ?_
              refine go_reg ?_
              refine run_aops hA 1 _ _ _ _ (by cbv) ?_
              refine ops_done ?_
              refine go_ret ⟨_, by cbv, ?_⟩
              show _ = (PV.bool true)
              refine congrArg PV.bool ?_
              try simp only [slen_eq hA, lk_Uids_r] at *
              subst hv34_67 hv7_1
              have hI : incFrom (fU k_Uids) 0 (List.length k_Uids) = true := by rw [hE, inc_end (by omega)]
              subst hA
              simp [lookOk, textOk, hI, std, c6, ec7, ec47, c72, ec73, Int.not_lt.2 ec73, ec74, Int.not_lt.2 ec74]

def S61_1 (p0 : Int) (p1 : Int) (p2 : ByteArray) (p3 : ByteArray) (p4 : Int) (p5 : List (List PV)) : St := { sl := [.bad, .pt 1 0 0, .bad, .int .i64 p0, .bad, .bad, .bad, .bad, .bad, .bad, .bad, .bad, .bad, .bad, .bad, .bad, .bad, .bad, .bad, .bad, .bad, .bad, .bad, .bad, .bad, .bad, .bad, .bad, .bad, .bad, .bad, .bad, .bad, .bad, .bad, .bad, .bad, .bad, .bad, .bad, .bad, .bad, .bad, .bad, .bad, .bad, .bad, .bad, .bad, .bad, .bad], bl := [(1, ⟨.var, 5, [[.int .i64 p1, .str p2, .str p3, .int .i64 p4, .sl 1 p5]]⟩)] }
theorem r_spec_LookOk (A : Alg) (hA : A = std) (k : GLook) (hz : ∀ q ∈ zsLook k, (q : Int) ≤ 4611686018427387904) : Real Try.prog 61 [.agg (eLook k)] (.bool (lookOk k)) := by
  obtain ⟨k_State, k_User, k_Box, k_Valid, k_Uids⟩ := k
  obtain ⟨k_Uids_r, hk_Uids_r⟩ : ∃ r, r = k_Uids.map eInt := ⟨_, rfl⟩
  have lk_Uids_r : A.rlen k_Uids_r = (List.length k_Uids : Int) := rlen_map hA hk_Uids_r
  refine real_args (args' := [.agg [.int .i64 k_State, .str k_User, .str k_Box, .int .i64 k_Valid, .sl 1 k_Uids_r]]) (by subst hk_Uids_r; rfl) ?_
  have zU : (ByteArray.size k_User : Int) ≤ 4611686018427387904 := hz _ (by simp [zsLook])
  have nX : (List.length k_Uids : Int) ≤ 4611686018427387904 := hz _ (by simp [zsLook, zsMailS, zsIntS])
  have zBo : (ByteArray.size k_Box : Int) ≤ 4611686018427387904 := hz _ (by simp [zsLook])
  refine real tyOk Try.func61 (by kernel_rfl) (afun_of rfl ?_)
  refine go_seq ?_
  refine go_reg ?_
  refine run_aops hA 2 _ _ _ _ (by cbv) ?_
  refine ops_done ?_
  refine go_seq ?_
  refine go_seq ?_
  refine go_reg ?_
  refine run_aops hA 2 _ _ _ _ (by cbv) ?_
  obtain ⟨v6_1, hv6_1, hc2⟩ : ∃ (v6_1 : Bool), v6_1 = (inR k_State 0 2) ∧ Real Try.prog 95 [.int .i64 k_State, .int .i64 0, .int .i64 2] (.bool v6_1) := ⟨_, rfl, by exact r_spec_l01In A hA k_State 0 2 ⟩
  refine ops_callV rfl rfl (by cbv) (by cbv) hc2 (.inr rfl) (by cbv) ?_
  refine run_aops hA 2 _ _ _ _ (by cbv) ?_
  refine ops_split 8 rfl (fun c3 => ?_) (fun c3 => ?_)
  · skip
    have c4 : v6_1 = false := bnot_t hA c3
    refine run_aops hA 23 _ _ _ _ (by cbv) ?_
    refine ops_done ?_
    refine go_cond rfl (fun c5 => ?_) (fun c5 => ?_)
    · skip
      refine go_seq ?_
      refine go_reg ?_
      refine run_aops hA 1 _ _ _ _ (by cbv) ?_
      refine ops_done ?_
      refine go_ret ⟨_, by cbv, ?_⟩
      show _ = (PV.bool false)
      refine congrArg PV.bool ?_
      try simp only [slen_eq hA, lk_Uids_r] at *
      subst hv6_1
      subst hA
      simp [lookOk, std, c4]
    · skip
      exact absurd (show true = false from c5) (by rw [show true = true from by rfl]; decide)
  · skip
    have c6 : v6_1 = true := bnot_f hA c3
    refine run_aops hA 2 _ _ _ _ (by cbv) ?_
    obtain ⟨v11_7, hv11_7, hc8⟩ : ∃ (v11_7 : Bool), v11_7 = (textOk k_User) ∧ Real Try.prog 96 [.str k_User] (.bool v11_7) := ⟨_, rfl, by exact r_spec_l19Text A hA k_User (by first | assumption | omega)⟩
    refine ops_callG rfl rfl rfl rfl (by cbv) (by cbv) hc8 (.inr rfl) (by cbv) ?_
    refine run_aops hA 3 _ _ _ _ (by cbv) ?_
    refine ops_split 14 rfl (fun c9 => ?_) (fun c9 => ?_)
    · skip
      have c10 : v11_7 = false := bnot_t hA c9
      refine run_aops hA 17 _ _ _ _ (by cbv) ?_
      refine ops_done ?_
      refine go_cond rfl (fun c11 => ?_) (fun c11 => ?_)
      · skip
        refine go_seq ?_
        refine go_reg ?_
        refine run_aops hA 1 _ _ _ _ (by cbv) ?_
        refine ops_done ?_
        refine go_ret ⟨_, by cbv, ?_⟩
        show _ = (PV.bool false)
        refine congrArg PV.bool ?_
        try simp only [slen_eq hA, lk_Uids_r] at *
        subst hv11_7 hv6_1
        subst hA
        simp [lookOk, std, c6, c10]
      · skip
        exact absurd (show true = false from c11) (by rw [show true = true from by rfl]; decide)
    · skip
      have c12 : v11_7 = true := bnot_f hA c9
      refine run_aops hA 2 _ _ _ _ (by cbv) ?_
      obtain ⟨v17_13, hv17_13, hc14⟩ : ∃ (v17_13 : Bool), v17_13 = (textOk k_Box) ∧ Real Try.prog 96 [.str k_Box] (.bool v17_13) := ⟨_, rfl, by exact r_spec_l19Text A hA k_Box (by first | assumption | omega)⟩
      refine ops_callG rfl rfl rfl rfl (by cbv) (by cbv) hc14 (.inr rfl) (by cbv) ?_
      refine run_aops hA 3 _ _ _ _ (by cbv) ?_
      refine ops_split 20 rfl (fun c15 => ?_) (fun c15 => ?_)
      · skip
        have c16 : v17_13 = false := bnot_t hA c15
        refine run_aops hA 11 _ _ _ _ (by cbv) ?_
        refine ops_done ?_
        refine go_cond rfl (fun c17 => ?_) (fun c17 => ?_)
        · skip
          refine go_seq ?_
          refine go_reg ?_
          refine run_aops hA 1 _ _ _ _ (by cbv) ?_
          refine ops_done ?_
          refine go_ret ⟨_, by cbv, ?_⟩
          show _ = (PV.bool false)
          refine congrArg PV.bool ?_
          try simp only [slen_eq hA, lk_Uids_r] at *
          subst hv17_13 hv11_7 hv6_1
          subst hA
          simp [lookOk, std, c6, c12, c16]
        · skip
          exact absurd (show true = false from c17) (by rw [show true = true from by rfl]; decide)
      · skip
        have c18 : v17_13 = true := bnot_f hA c15
        refine run_aops hA 2 _ _ _ _ (by cbv) ?_
        obtain ⟨v23_19, hv23_19, hc20⟩ : ∃ (v23_19 : Bool), v23_19 = (inR k_Valid 0 9999) ∧ Real Try.prog 95 [.int .i64 k_Valid, .int .i64 0, .int .i64 9999] (.bool v23_19) := ⟨_, rfl, by exact r_spec_l01In A hA k_Valid 0 9999 ⟩
        refine ops_callG rfl rfl rfl rfl (by cbv) (by cbv) hc20 (.inr rfl) (by cbv) ?_
        refine run_aops hA 3 _ _ _ _ (by cbv) ?_
        refine ops_split 26 rfl (fun c21 => ?_) (fun c21 => ?_)
        · skip
          have c22 : v23_19 = false := bnot_t hA c21
          refine run_aops hA 5 _ _ _ _ (by cbv) ?_
          refine ops_done ?_
          refine go_cond rfl (fun c23 => ?_) (fun c23 => ?_)
          · skip
            refine go_seq ?_
            refine go_reg ?_
            refine run_aops hA 1 _ _ _ _ (by cbv) ?_
            refine ops_done ?_
            refine go_ret ⟨_, by cbv, ?_⟩
            show _ = (PV.bool false)
            refine congrArg PV.bool ?_
            try simp only [slen_eq hA, lk_Uids_r] at *
            subst hv23_19 hv17_13 hv11_7 hv6_1
            subst hA
            simp [lookOk, std, c6, c12, c18, c22]
          · skip
            exact absurd (show true = false from c23) (by rw [show true = true from by rfl]; decide)
        · skip
          have c24 : v23_19 = true := bnot_f hA c21
          refine run_aops hA 5 _ _ _ _ (by cbv) ?_
          refine ops_done ?_
          refine go_cond rfl (fun c25 => ?_) (fun c25 => ?_)
          · skip
            have ec25 : 8 < (A.rlen k_Uids_r) := gtr_t hA c25
            refine go_seq ?_
            refine go_reg ?_
            refine run_aops hA 1 _ _ _ _ (by cbv) ?_
            refine ops_done ?_
            refine go_ret ⟨_, by cbv, ?_⟩
            show _ = (PV.bool false)
            refine congrArg PV.bool ?_
            try simp only [slen_eq hA, lk_Uids_r] at *
            subst hv23_19 hv17_13 hv11_7 hv6_1
            subst hA
            simp [lookOk, std, c6, c12, c18, c24, ec25]
          · skip
            have ec25 : (A.rlen k_Uids_r) ≤ 8 := gtr_f hA c25
            refine go_skip ?_
            refine go_seq ?_
            refine go_seq ?_
            refine go_reg ?_
            refine run_aops hA 1 _ _ _ _ (by cbv) ?_
            refine ops_done ?_
            refine go_block ?_
            refine go_loopE (fun σ m => ∃ (i : Nat) (n : Int), σ = (S61_1 n k_State k_User k_Box k_Valid k_Uids_r) ∧ (n = (i : Int) ∧ 1 ≤ i ∧ (i ≤ List.length k_Uids ∨ i = 1) ∧ incFrom (fU k_Uids) 0 (List.length k_Uids) = incFrom (fU k_Uids) i (List.length k_Uids - i)) ∧ m = List.length k_Uids - i) _ [] [1, 3] [1] (S61_1 1 k_State k_User k_Box k_Valid k_Uids_r) rfl (by cbv) ⟨1, 1, rfl, ?_, rfl⟩ (fun σ m hI => ?_)
            · skip
              exact ⟨rfl, Nat.le_refl _, .inr rfl, inc_1 _⟩
            obtain ⟨i, n, rfl, ⟨hn, hlo, hi, hE⟩, rfl⟩ := hI
            refine go_seq ?_
            refine go_seq ?_
            refine go_reg ?_
            refine run_aops hA 5 _ _ _ _ (by cbv) ?_
            refine ops_done ?_
            refine go_cond rfl (fun c26 => ?_) (fun c26 => ?_)
            · skip
              have ec26 : n < (A.rlen k_Uids_r) := lss_t hA c26
              refine go_skip ?_
              refine go_seq ?_
              refine go_block ?_
              refine go_seq ?_
              have wsub : A.num .sub .i64 n 1 = n - 1 := sub_i64 hA (by omega) (by omega)
              refine go_draw (by cbv) ?_
              refine run_dops hA 4 _ _ _ _ (by cbv) ?_
              have h0x27 : (0 : Int) ≤ (A.num .sub .i64 n 1) := by
                omega
              have hlx27 : (Int.toNat (A.num .sub .i64 n 1)) < List.length k_Uids := by
                omega
              obtain ⟨x27, hx27⟩ : ∃ x, (k_Uids)[(Int.toNat (A.num .sub .i64 n 1))]? = some x := ⟨_, List.getElem?_eq_getElem hlx27⟩
              have hmx27 := List.mem_of_getElem? hx27
              have hrx27 : k_Uids_r[(Int.toNat (A.num .sub .i64 n 1))]? = some [.int .i64 x27] := by
                exact map_at eInt hk_Uids_r hx27
              have ipos : ¬ i = 0 := by omega
              have hix27 := hx27
              rw [wsub, show Int.toNat (n - 1) = i - 1 by omega] at hix27
              have hix27 : (k_Uids)[i - 1]? = some x27 := hix27
              refine dops_step rfl rfl rfl (idx_sl rfl rfl rfl rfl rfl h0x27 rfl hrx27) ?_
              refine run_dops hA 4 _ _ _ _ (by cbv) ?_
              have h0x28 : (0 : Int) ≤ n := by
                omega
              have hlx28 : (Int.toNat n) < List.length k_Uids := by
                omega
              obtain ⟨x28, hx28⟩ : ∃ x, (k_Uids)[(Int.toNat n)]? = some x := ⟨_, List.getElem?_eq_getElem hlx28⟩
              have hmx28 := List.mem_of_getElem? hx28
              have hrx28 : k_Uids_r[(Int.toNat n)]? = some [.int .i64 x28] := by
                exact map_at eInt hk_Uids_r hx28
              have hix28 := hx28
              rw [hn] at hix28
              have hix28 : (k_Uids)[i]? = some x28 := hix28
              refine dops_step rfl rfl rfl (idx_sl rfl rfl rfl rfl rfl h0x28 rfl hrx28) ?_
              refine run_dops hA 2 _ _ _ _ (by cbv) ?_
              refine dops_done ?_
              refine go_cond rfl (fun c29 => ?_) (fun c29 => ?_)
              · skip
                have ec29 : x28 ≤ x27 := geq_t hA c29
                refine go_seq ?_
                refine go_reg ?_
                refine run_aops hA 1 _ _ _ _ (by cbv) ?_
                refine ops_done ?_
                refine go_ret ⟨_, by cbv, ?_⟩
                show _ = (PV.bool false)
                refine congrArg PV.bool ?_
                try simp only [slen_eq hA, lk_Uids_r] at *
                subst hv23_19 hv17_13 hv11_7 hv6_1
                have hI : incFrom (fU k_Uids) 0 (List.length k_Uids) = false := by
                  rw [hE, inc_at (by omega)]
                  simp [fU_at hix27, fU_at hix28, ipos, c6, c12, c18, c24, ec25, Int.not_lt.2 ec25, ec26, ec29]
                subst hA
                simp [lookOk, hI, std, c6, c12, c18, c24, ec25, Int.not_lt.2 ec25, ec26, ec29]
              · skip
                have ec29 : x27 < x28 := geq_f hA c29
                refine go_skip ?_
                refine go_reg ?_
                refine run_aops hA 3 _ _ _ _ (by cbv) ?_
                refine ops_done ?_
                refine ⟨(S61_1 (A.num .add .i64 n 1) k_State k_User k_Box k_Valid k_Uids_r), List.length k_Uids - (i + 1), ?_, by cbv, i + 1, (A.num .add .i64 n 1), rfl, ?_, rfl⟩
                · skip
                  omega
                · skip
                  try simp only [slen_eq hA, lk_Uids_r] at *
                  subst hv23_19 hv17_13 hv11_7 hv6_1
                  refine ⟨by rw [add_i64 hA (by omega) (by omega)]; omega, by omega, by omega, ?_⟩
                  rw [hE, inc_at (by omega)]
                  simp [fU_at hix27, fU_at hix28, ipos, c6, c12, c18, c24, ec25, Int.not_lt.2 ec25, ec26, ec29, Int.not_le.2 ec29]
            · skip
              have ec26 : (A.rlen k_Uids_r) ≤ n := lss_f hA c26
              refine go_exit ⟨fun _ => ?_, fun h => absurd rfl h⟩
              refine go_seq ?_
              refine go_reg ?_
              refine run_aops hA 1 _ _ _ _ (by cbv) ?_
              refine ops_done ?_
              refine go_ret ⟨_, by cbv, ?_⟩
              show _ = (PV.bool true)
              refine congrArg PV.bool ?_
              try simp only [slen_eq hA, lk_Uids_r] at *
              subst hv23_19 hv17_13 hv11_7 hv6_1
              have hI : incFrom (fU k_Uids) 0 (List.length k_Uids) = true := by rw [hE, inc_end (by omega)]
              subst hA
              simp [lookOk, hI, std, c6, c12, c18, c24, ec25, Int.not_lt.2 ec25, ec26, Int.not_lt.2 ec26]
end Go.Av
