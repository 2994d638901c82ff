/- Walks: ways to talk that are right. -/
import Derived.Test.YtjbokkoiicoahaaR1
namespace Go.Av
open Go Go.Proofs
set_option maxRecDepth 100000
set_option maxHeartbeats 4000000
set_option linter.unusedVariables false
set_option linter.unusedSimpArgs false
def S66_1 (p0 : List (List PV)) (p1 : Int) (p2 : Int) (p3 : Int) (p4 : ByteArray) (p5 : List (List PV)) : St := { sl := [.bad, .pt 1 0 0, .bad, .bad, .bad, .bad, .bad, .bad, .bad, .bad, .bad, .bad, .bad, .bad, .bad, .bad, .bad, .bad, .bad, .bad, .bad, .bad, .bad, .bad, .bad, .bad, .bad, .bad, .bad, .bad, .bad, .bad, .bad, .sl 1 p0, .int .i64 p1, .int .i64 p2, .bad, .bad, .bad, .bad, .bad, .bad, .bad, .bad, .bad, .bad, .bad, .bad, .bad, .bad, .bad, .bad, .bad, .bad, .bad, .bad], bl := [(1, ⟨.var, 4, [[.int .i64 p3, .str p4, .sl 1 p0, .sl 1 p5]]⟩)] }
def S66_2 (p0 : List (List PV)) (p1 : Int) (p2 : Int) (p3 : Int) (p4 : ByteArray) (p5 : List (List PV)) : St := { sl := [.bad, .pt 1 0 0, .bad, .bad, .bad, .bad, .bad, .bad, .bad, .bad, .bad, .bad, .bad, .bad, .bad, .bad, .bad, .bad, .bad, .bad, .bad, .bad, .bad, .bad, .bad, .bad, .bad, .bad, .bad, .bad, .bad, .bad, .bad, .sl 1 p0, .int .i64 p1, .int .i64 p2, .bad, .bad, .bad, .bad, .bad, .bad, .bad, .bad, .bad, .bad, .bad, .bad, .bad, .bad, .bad, .bad, .bad, .bad, .bad, .bad], bl := [(1, ⟨.var, 4, [[.int .i64 p3, .str p4, .sl 1 p0, .sl 1 p5]]⟩)] }
theorem r_impl_BringOk (A : Alg) (hA : A = std) (b : GBring) (hz : ∀ k ∈ zsBring b, (k : Int) ≤ 4611686018427387904) : Real Try.prog 66 [.agg (eBring b)] (.bool (bringOk b)) := by
  obtain ⟨b_State, b_From, b_To, b_Data⟩ := b
  obtain ⟨b_To_r, hb_To_r⟩ : ∃ r, r = b_To.map eString := ⟨_, rfl⟩
  have lb_To_r : A.rlen b_To_r = (List.length b_To : Int) := rlen_map hA hb_To_r
  obtain ⟨b_Data_r, hb_Data_r⟩ : ∃ r, r = b_Data.map eString := ⟨_, rfl⟩
  have lb_Data_r : A.rlen b_Data_r = (List.length b_Data : Int) := rlen_map hA hb_Data_r
  refine real_args (args' := [.agg [.int .i64 b_State, .str b_From, .sl 1 b_To_r, .sl 1 b_Data_r]]) (by subst hb_To_r hb_Data_r; rfl) ?_
  have zF : (ByteArray.size b_From : Int) ≤ 4611686018427387904 := hz _ (by simp [zsBring])
  have nT : (List.length b_To : Int) ≤ 4611686018427387904 := hz _ (by simp [zsBring, zsStringS])
  have nD : (List.length b_Data : Int) ≤ 4611686018427387904 := hz _ (by simp [zsBring, zsStringS])
  have zT : ∀ x ∈ b_To, (ByteArray.size x : Int) ≤ 4611686018427387904 := fun x hx => hz _ (List.mem_append_right _ (List.mem_append_left _ (List.mem_cons_of_mem _ (List.mem_flatMap.2 ⟨x, hx, by simp [zsString]⟩))))
  refine real tyOk Try.func66 (by kernel_rfl) (afun_of rfl ?_)
  refine go_seq ?_
  refine go_reg ?_
  refine run_aops hA 2 _ _ _ _ (by cbv) ?_
  refine ops_done ?_
  refine go_seq ?_
  refine go_seq ?_
  refine go_reg ?_
  refine run_aops hA 2 _ _ _ _ (by cbv) ?_
  obtain ⟨v7_1, hv7_1, hc2⟩ : ∃ (v7_1 : Bool), v7_1 = (inR b_State 0 4) ∧ Real Try.prog 101 [.int .i64 b_State, .int .i64 0, .int .i64 4] (.bool v7_1) := ⟨_, rfl, by exact r_impl_in A hA b_State 0 4 ⟩
  refine ops_callV rfl rfl (by cbv) (by cbv) hc2 (.inr rfl) (by cbv) ?_
  refine run_aops hA 2 _ _ _ _ (by cbv) ?_
  refine ops_split 9 rfl (fun c3 => ?_) (fun c3 => ?_)
  · skip
    have c4 : v7_1 = false := bnot_t hA c3
    refine run_aops hA 22 _ _ _ _ (by cbv) ?_
    refine ops_done ?_
    refine go_cond rfl (fun c5 => ?_) (fun c5 => ?_)
    · skip
      refine go_seq ?_
      refine go_reg ?_
      refine run_aops hA 1 _ _ _ _ (by cbv) ?_
      refine ops_done ?_
      refine go_ret ⟨_, by cbv, ?_⟩
      show _ = (PV.bool false)
      refine congrArg PV.bool ?_
      try simp only [slen_eq hA, lb_To_r, lb_Data_r] at *
      subst hv7_1
      subst hA
      simp [bringOk, textOk, std, c4]
    · skip
      exact absurd (show true = false from c5) (by rw [show true = true from by rfl]; decide)
  · skip
    have c6 : v7_1 = true := bnot_f hA c3
    refine run_aops hA 4 _ _ _ _ (by cbv) ?_
    refine ops_split 13 rfl (fun c7 => ?_) (fun c7 => ?_)
    · skip
      have ec7 : b_From ≠ (ByteArray.mk #[]) := sneq_t hA c7
      refine run_aops hA 2 _ _ _ _ (by cbv) ?_
      obtain ⟨v16_8, hv16_8, hc9⟩ : ∃ (v16_8 : Bool), v16_8 = (wordOk b_From) ∧ Real Try.prog 102 [.str b_From] (.bool v16_8) := ⟨_, rfl, by exact r_impl_WordOk A hA b_From (by first | assumption | omega)⟩
      refine ops_callG rfl rfl rfl rfl (by cbv) (by cbv) hc9 (.inr rfl) (by cbv) ?_
      refine run_aops hA 4 _ _ _ _ (by cbv) ?_
      refine ops_split 20 rfl (fun c10 => ?_) (fun c10 => ?_)
      · skip
        have c11 : v16_8 = false := bnot_t hA c10
        refine run_aops hA 11 _ _ _ _ (by cbv) ?_
        refine ops_done ?_
        refine go_cond rfl (fun c12 => ?_) (fun c12 => ?_)
        · skip
          refine go_seq ?_
          refine go_reg ?_
          refine run_aops hA 1 _ _ _ _ (by cbv) ?_
          refine ops_done ?_
          refine go_ret ⟨_, by cbv, ?_⟩
          show _ = (PV.bool false)
          refine congrArg PV.bool ?_
          try simp only [slen_eq hA, lb_To_r, lb_Data_r] at *
          subst hv16_8 hv7_1
          subst hA
          simp [bringOk, textOk, std, c6, ec7, ec7.symm, c11]
        · skip
          exact absurd (show true = false from c12) (by rw [show true = true from by rfl]; decide)
      · skip
        have c13 : v16_8 = true := bnot_f hA c10
        refine run_aops hA 6 _ _ _ _ (by cbv) ?_
        refine ops_split 26 rfl (fun c14 => ?_) (fun c14 => ?_)
        · skip
          have ec14 : 3 < (A.rlen b_To_r) := gtr_t hA c14
          refine run_aops hA 5 _ _ _ _ (by cbv) ?_
          refine ops_done ?_
          refine go_cond rfl (fun c15 => ?_) (fun c15 => ?_)
          · skip
            refine go_seq ?_
            refine go_reg ?_
            refine run_aops hA 1 _ _ _ _ (by cbv) ?_
            refine ops_done ?_
            refine go_ret ⟨_, by cbv, ?_⟩
            show _ = (PV.bool false)
            refine congrArg PV.bool ?_
            try simp only [slen_eq hA, lb_To_r, lb_Data_r] at *
            subst hv16_8 hv7_1
            subst hA
            simp [bringOk, textOk, std, c6, ec7, ec7.symm, c13, ec14]
          · skip
            exact absurd (show true = false from c15) (by rw [show true = true from by rfl]; decide)
        · skip
          have ec14 : (A.rlen b_To_r) ≤ 3 := gtr_f hA c14
          refine run_aops hA 5 _ _ _ _ (by cbv) ?_
          refine ops_done ?_
          refine go_cond rfl (fun c16 => ?_) (fun c16 => ?_)
          · skip
            have ec16 : 101 < (A.rlen b_Data_r) := gtr_t hA c16
            refine go_seq ?_
            refine go_reg ?_
            refine run_aops hA 1 _ _ _ _ (by cbv) ?_
            refine ops_done ?_
            refine go_ret ⟨_, by cbv, ?_⟩
            show _ = (PV.bool false)
            refine congrArg PV.bool ?_
            try simp only [slen_eq hA, lb_To_r, lb_Data_r] at *
            subst hv16_8 hv7_1
            subst hA
            simp [bringOk, textOk, std, c6, ec7, ec7.symm, c13, ec14, Int.not_lt.2 ec14, ec16]
          · skip
            have ec16 : (A.rlen b_Data_r) ≤ 101 := gtr_f hA c16
            refine go_skip ?_
            refine go_seq ?_
            refine go_seq ?_
            refine go_reg ?_
            refine run_aops hA 4 _ _ _ _ (by cbv) ?_
            refine ops_done ?_
            refine go_block ?_
            refine go_loopE (fun σ m => ∃ (i : Nat) (n : Int), σ = (S66_1 b_To_r (A.rlen b_To_r) n b_State b_From b_Data_r) ∧ (n = (i : Int) ∧ i ≤ List.length b_To ∧ toGo [] b_To = toGo (b_To.take i) (b_To.drop i)) ∧ m = List.length b_To - i) _ [] [1, 33, 34, 35] [1] (S66_1 b_To_r (A.rlen b_To_r) 0 b_State b_From b_Data_r) rfl (by cbv) ⟨0, 0, rfl, ?_, rfl⟩ (fun σ m hI => ?_)
            · skip
              exact ⟨rfl, Nat.zero_le _, rfl⟩
            obtain ⟨i, n, rfl, ⟨hn, hi, hE⟩, rfl⟩ := hI
            refine go_seq ?_
            refine go_reg ?_
            refine run_aops hA 1 _ _ _ _ (by cbv) ?_
            refine ops_done ?_
            refine go_seq ?_
            refine go_cond rfl (fun c17 => ?_) (fun c17 => ?_)
            · skip
              have ec17 : n < (A.rlen b_To_r) := lss_t hA c17
              refine go_skip ?_
              refine go_seq ?_
              refine go_block ?_
              refine go_seq ?_
              refine go_reg ?_
              refine run_aops hA 1 _ _ _ _ (by cbv) ?_
              have h0x18 : (0 : Int) ≤ n := by
                omega
              have hlx18 : (Int.toNat n) < List.length b_To := by
                omega
              obtain ⟨x18, hx18⟩ : ∃ x, (b_To)[(Int.toNat n)]? = some x := ⟨_, List.getElem?_eq_getElem hlx18⟩
              have hmx18 := List.mem_of_getElem? hx18
              have hrx18 : b_To_r[(Int.toNat n)]? = some [.str x18] := by
                exact map_at eString hb_To_r hx18
              have hix18 := hx18
              rw [hn] at hix18
              have hix18 : (b_To)[i]? = some x18 := hix18
              try have hzx18 := zT _ hmx18
              refine ops_step rfl rfl (idx_sl rfl rfl rfl rfl rfl h0x18 rfl hrx18) ?_
              refine run_aops hA 3 _ _ _ _ (by cbv) ?_
              refine ops_done ?_
              refine go_seq ?_
              refine go_reg ?_
              refine run_aops hA 1 _ _ _ _ (by cbv) ?_
              obtain ⟨v41_19, hv41_19, hc20⟩ : ∃ (v41_19 : Bool), v41_19 = (wordOk x18) ∧ Real Try.prog 102 [.str x18] (.bool v41_19) := ⟨_, rfl, by exact r_impl_WordOk A hA x18 (by first | assumption | omega)⟩
              refine ops_callV rfl rfl (by cbv) (by cbv) hc20 (.inr rfl) (by cbv) ?_
              refine run_aops hA 2 _ _ _ _ (by cbv) ?_
              refine ops_split 43 rfl (fun c21 => ?_) (fun c21 => ?_)
              · skip
                have c22 : v41_19 = false := bnot_t hA c21
                refine run_aops hA 7 _ _ _ _ (by cbv) ?_
                refine ops_done ?_
                refine go_cond rfl (fun c23 => ?_) (fun c23 => ?_)
                · skip
                  refine go_seq ?_
                  refine go_reg ?_
                  refine run_aops hA 1 _ _ _ _ (by cbv) ?_
                  refine ops_done ?_
                  refine go_ret ⟨_, by cbv, ?_⟩
                  show _ = (PV.bool false)
                  refine congrArg PV.bool ?_
                  try simp only [slen_eq hA, lb_To_r, lb_Data_r] at *
                  subst hv41_19 hv16_8 hv7_1
                  have hTo : toGo [] b_To = false := by
                    rw [hE, to_at hix18]
                    subst hn
                    try simp only [Int.toNat_natCast] at *
                    simp [c6, ec7, ec7.symm, c13, ec14, Int.not_lt.2 ec14, ec16, Int.not_lt.2 ec16, ec17, c22]
                  subst hA
                  simp [bringOk, textOk, hTo, std, c6, ec7, ec7.symm, c13, ec14, Int.not_lt.2 ec14, ec16, Int.not_lt.2 ec16, ec17, c22]
                · skip
                  exact absurd (show true = false from c23) (by rw [show true = true from by rfl]; decide)
              · skip
                have c24 : v41_19 = true := bnot_f hA c21
                refine run_aops hA 3 _ _ _ _ (by cbv) ?_
                obtain ⟨u25, hu25⟩ : ∃ r : List (List PV), r = (List.drop (Int.toNat 0) b_To_r).take (Int.toNat n - Int.toNat 0) := ⟨_, rfl⟩
                have eu25 : u25 = List.map eString (List.take (Int.toNat n) b_To) := by rw [hu25, hb_To_r]; exact (List.map_take ..).symm
                have lu25 : A.rlen u25 = (List.length (List.take (Int.toNat n) b_To) : Int) := rlen_map hA eu25
                refine ops_stepG rfl rfl rfl rfl (slc_sl rfl rfl rfl rfl rfl rfl (by decide) (by omega) (by rw [hb_To_r, List.length_map]; omega) rfl hu25) ?_
                refine run_aops hA 1 _ _ _ _ (by cbv) ?_
                obtain ⟨v49_26, hv49_26, hc27⟩ : ∃ (v49_26 : Bool), v49_26 = (memB x18 (List.take (Int.toNat n) b_To)) ∧ Real Try.prog 73 [.sl 1 u25, .str x18] (.bool v49_26) := ⟨_, rfl, by subst eu25; exact r_slices_Contains_string_string_ A hA (List.take (Int.toNat n) b_To) x18 (by first | omega | (rw [List.length_take]; omega))⟩
                refine ops_callG rfl rfl rfl rfl (by cbv) (by cbv) hc27 (.inr rfl) (by cbv) ?_
                refine run_aops hA 1 _ _ _ _ (by cbv) ?_
                refine ops_done ?_
                refine go_cond rfl (fun c28 => ?_) (fun c28 => ?_)
                · skip
                  refine go_seq ?_
                  refine go_reg ?_
                  refine run_aops hA 1 _ _ _ _ (by cbv) ?_
                  refine ops_done ?_
                  refine go_ret ⟨_, by cbv, ?_⟩
                  show _ = (PV.bool false)
                  refine congrArg PV.bool ?_
                  try simp only [slen_eq hA, lb_To_r, lb_Data_r, lu25] at *
                  subst hv49_26 hv41_19 hv16_8 hv7_1
                  have hTo : toGo [] b_To = false := by
                    rw [hE, to_at hix18]
                    subst hn
                    try simp only [Int.toNat_natCast] at *
                    simp [c6, ec7, ec7.symm, c13, ec14, Int.not_lt.2 ec14, ec16, Int.not_lt.2 ec16, ec17, c24, c28]
                  subst hA
                  simp [bringOk, textOk, hTo, std, c6, ec7, ec7.symm, c13, ec14, Int.not_lt.2 ec14, ec16, Int.not_lt.2 ec16, ec17, c24, c28]
                · skip
                  refine go_skip ?_
                  refine go_reg ?_
                  refine run_aops hA 2 _ _ _ _ (by cbv) ?_
                  refine ops_done ?_
                  refine ⟨(S66_1 b_To_r (A.rlen b_To_r) (A.num .add .i64 n 1) b_State b_From b_Data_r), List.length b_To - (i + 1), ?_, by cbv, i + 1, (A.num .add .i64 n 1), rfl, ?_, rfl⟩
                  · skip
                    omega
                  · skip
                    try simp only [slen_eq hA, lb_To_r, lb_Data_r, lu25] at *
                    subst hv49_26 hv41_19 hv16_8 hv7_1
                    refine ⟨by rw [add_i64 hA (by omega) (by omega)]; omega, by omega, ?_⟩
                    rw [hE, to_at hix18]
                    subst hn
                    try simp only [Int.toNat_natCast] at *
                    simp [c6, ec7, ec7.symm, c13, ec14, Int.not_lt.2 ec14, ec16, Int.not_lt.2 ec16, ec17, c24, c28]
            · skip
              have ec17 : (A.rlen b_To_r) ≤ n := lss_f hA c17
              refine go_exit ⟨fun _ => ?_, fun h => absurd rfl h⟩
              refine go_seq ?_
              refine go_reg ?_
              refine run_aops hA 2 _ _ _ _ (by cbv) ?_
              obtain ⟨v54_29, hv54_29, hc30⟩ : ∃ (v54_29 : Bool), v54_29 = (List.any b_Data lineB) ∧ Real Try.prog 103 [.sl 1 b_Data_r, .fn 104 []] (.bool v54_29) := ⟨_, rfl, by subst hb_Data_r; exact r_ContainsFunc_line A hA b_Data (by omega)⟩
              refine ops_callV rfl rfl (by cbv) (by cbv) hc30 (.inr rfl) (by cbv) ?_
              refine run_aops hA 2 _ _ _ _ (by cbv) ?_
              refine ops_done ?_
              refine go_ret ⟨_, by cbv, ?_⟩
              show _ = (PV.bool (A.bnot v54_29))
              refine congrArg PV.bool ?_
              try simp only [slen_eq hA, lb_To_r, lb_Data_r] at *
              subst hv54_29 hv16_8 hv7_1
              have hTo : toGo [] b_To = true := by rw [hE, to_end (by omega)]
              subst hA
              simp [bringOk, textOk, hTo, std, c6, ec7, ec7.symm, c13, ec14, Int.not_lt.2 ec14, ec16, Int.not_lt.2 ec16, ec17, Int.not_lt.2 ec17]
    · skip
      have ec7 : b_From = (ByteArray.mk #[]) := sneq_f hA c7
      refine run_aops hA 13 _ _ _ _ (by cbv) ?_
      refine ops_split 26 rfl (fun c31 => ?_) (fun c31 => ?_)
      · skip
        have ec31 : 3 < (A.rlen b_To_r) := gtr_t hA c31
        refine run_aops hA 5 _ _ _ _ (by cbv) ?_
        refine ops_done ?_
        refine go_cond rfl (fun c32 => ?_) (fun c32 => ?_)
        · skip
          refine go_seq ?_
          refine go_reg ?_
          refine run_aops hA 1 _ _ _ _ (by cbv) ?_
          refine ops_done ?_
          refine go_ret ⟨_, by cbv, ?_⟩
          show _ = (PV.bool false)
          refine congrArg PV.bool ?_
          try simp only [slen_eq hA, lb_To_r, lb_Data_r] at *
          subst hv7_1
          subst hA
          simp [bringOk, textOk, std, c6, ec7, ec31]
        · skip
          exact absurd (show true = false from c32) (by rw [show true = true from by rfl]; decide)
      · skip
        have ec31 : (A.rlen b_To_r) ≤ 3 := gtr_f hA c31
        refine run_aops hA 5 _ _ _ _ (by cbv) ?_
        refine ops_done ?_
        refine go_cond rfl (fun c33 => ?_) (fun c33 => ?_)
        · skip
          have ec33 : 101 < (A.rlen b_Data_r) := gtr_t hA c33
          refine go_seq ?_
          refine go_reg ?_
          refine run_aops hA 1 _ _ _ _ (by cbv) ?_
          refine ops_done ?_
          refine go_ret ⟨_, by cbv, ?_⟩
          show _ = (PV.bool false)
          refine congrArg PV.bool ?_
          try simp only [slen_eq hA, lb_To_r, lb_Data_r] at *
          subst hv7_1
          subst hA
          simp [bringOk, textOk, std, c6, ec7, ec31, Int.not_lt.2 ec31, ec33]
        · skip
          have ec33 : (A.rlen b_Data_r) ≤ 101 := gtr_f hA c33
          refine go_skip ?_
          refine go_seq ?_
          refine go_seq ?_
          refine go_reg ?_
          refine run_aops hA 4 _ _ _ _ (by cbv) ?_
          refine ops_done ?_
          refine go_block ?_
          refine go_loopE (fun σ m => ∃ (i : Nat) (n : Int), σ = (S66_2 b_To_r (A.rlen b_To_r) n b_State b_From b_Data_r) ∧ (n = (i : Int) ∧ i ≤ List.length b_To ∧ toGo [] b_To = toGo (b_To.take i) (b_To.drop i)) ∧ m = List.length b_To - i) _ [] [1, 33, 34, 35] [1] (S66_2 b_To_r (A.rlen b_To_r) 0 b_State b_From b_Data_r) rfl (by cbv) ⟨0, 0, rfl, ?_, rfl⟩ (fun σ m hI => ?_)
          · skip
            exact ⟨rfl, Nat.zero_le _, rfl⟩
          obtain ⟨i, n, rfl, ⟨hn, hi, hE⟩, rfl⟩ := hI
          refine go_seq ?_
          refine go_reg ?_
          refine run_aops hA 1 _ _ _ _ (by cbv) ?_
          refine ops_done ?_
          refine go_seq ?_
          refine go_cond rfl (fun c34 => ?_) (fun c34 => ?_)
          · skip
            have ec34 : n < (A.rlen b_To_r) := lss_t hA c34
            refine go_skip ?_
            refine go_seq ?_
            refine go_block ?_
            refine go_seq ?_
            refine go_reg ?_
            refine run_aops hA 1 _ _ _ _ (by cbv) ?_
            have h0x35 : (0 : Int) ≤ n := by
              omega
            have hlx35 : (Int.toNat n) < List.length b_To := by
              omega
            obtain ⟨x35, hx35⟩ : ∃ x, (b_To)[(Int.toNat n)]? = some x := ⟨_, List.getElem?_eq_getElem hlx35⟩
            have hmx35 := List.mem_of_getElem? hx35
            have hrx35 : b_To_r[(Int.toNat n)]? = some [.str x35] := by
              exact map_at eString hb_To_r hx35
            have hix35 := hx35
            rw [hn] at hix35
            have hix35 : (b_To)[i]? = some x35 := hix35
            try have hzx35 := zT _ hmx35
            refine ops_step rfl rfl (idx_sl rfl rfl rfl rfl rfl h0x35 rfl hrx35) ?_
            refine run_aops hA 3 _ _ _ _ (by cbv) ?_
            refine ops_done ?_
            refine go_seq ?_
            refine go_reg ?_
            refine run_aops hA 1 _ _ _ _ (by cbv) ?_
            obtain ⟨v41_36, hv41_36, hc37⟩ : ∃ (v41_36 : Bool), v41_36 = (wordOk x35) ∧ Real Try.prog 102 [.str x35] (.bool v41_36) := ⟨_, rfl, by exact r_impl_WordOk A hA x35 (by first | assumption | omega)⟩
            refine ops_callV rfl rfl (by cbv) (by cbv) hc37 (.inr rfl) (by cbv) ?_
            refine run_aops hA 2 _ _ _ _ (by cbv) ?_
            refine ops_split 43 rfl (fun c38 => ?_) (fun c38 => ?_)
            · skip
              have c39 : v41_36 = false := bnot_t hA c38
              refine run_aops hA 7 _ _ _ _ (by cbv) ?_
              refine ops_done ?_
              refine go_cond rfl (fun c40 => ?_) (fun c40 => ?_)
              · skip
                refine go_seq ?_
                refine go_reg ?_
                refine run_aops hA 1 _ _ _ _ (by cbv) ?_
                refine ops_done ?_
                refine go_ret ⟨_, by cbv, ?_⟩
                show _ = (PV.bool false)
                refine congrArg PV.bool ?_
                try simp only [slen_eq hA, lb_To_r, lb_Data_r] at *
                subst hv41_36 hv7_1
                have hTo : toGo [] b_To = false := by
                  rw [hE, to_at hix35]
                  subst hn
                  try simp only [Int.toNat_natCast] at *
                  simp [c6, ec7, ec31, Int.not_lt.2 ec31, ec33, Int.not_lt.2 ec33, ec34, c39]
                subst hA
                simp [bringOk, textOk, hTo, std, c6, ec7, ec31, Int.not_lt.2 ec31, ec33, Int.not_lt.2 ec33, ec34, c39]
              · skip
                exact absurd (show true = false from c40) (by rw [show true = true from by rfl]; decide)
            · skip
              have c41 : v41_36 = true := bnot_f hA c38
              refine run_aops hA 3 _ _ _ _ (by cbv) ?_
              obtain ⟨u42, hu42⟩ : ∃ r : List (List PV), r = (List.drop (Int.toNat 0) b_To_r).take (Int.toNat n - Int.toNat 0) := ⟨_, rfl⟩
              have eu42 : u42 = List.map eString (List.take (Int.toNat n) b_To) := by rw [hu42, hb_To_r]; exact (List.map_take ..).symm
              have lu42 : A.rlen u42 = (List.length (List.take (Int.toNat n) b_To) : Int) := rlen_map hA eu42
              refine ops_stepG rfl rfl rfl rfl (slc_sl rfl rfl rfl rfl rfl rfl (by decide) (by omega) (by rw [hb_To_r, List.length_map]; omega) rfl hu42) ?_
              refine run_aops hA 1 _ _ _ _ (by cbv) ?_
              obtain ⟨v49_43, hv49_43, hc44⟩ : ∃ (v49_43 : Bool), v49_43 = (memB x35 (List.take (Int.toNat n) b_To)) ∧ Real Try.prog 73 [.sl 1 u42, .str x35] (.bool v49_43) := ⟨_, rfl, by subst eu42; exact r_slices_Contains_string_string_ A hA (List.take (Int.toNat n) b_To) x35 (by first | omega | (rw [List.length_take]; omega))⟩
              refine ops_callG rfl rfl rfl rfl (by cbv) (by cbv) hc44 (.inr rfl) (by cbv) ?_
              refine run_aops hA 1 _ _ _ _ (by cbv) ?_
              refine ops_done ?_
              refine go_cond rfl (fun c45 => ?_) (fun c45 => ?_)
              · skip
                refine go_seq ?_
                refine go_reg ?_
                refine run_aops hA 1 _ _ _ _ (by cbv) ?_
                refine ops_done ?_
                refine go_ret ⟨_, by cbv, ?_⟩
                show _ = (PV.bool false)
                refine congrArg PV.bool ?_
                try simp only [slen_eq hA, lb_To_r, lb_Data_r, lu42] at *
                subst hv49_43 hv41_36 hv7_1
                have hTo : toGo [] b_To = false := by
                  rw [hE, to_at hix35]
                  subst hn
                  try simp only [Int.toNat_natCast] at *
                  simp [c6, ec7, ec31, Int.not_lt.2 ec31, ec33, Int.not_lt.2 ec33, ec34, c41, c45]
                subst hA
                simp [bringOk, textOk, hTo, std, c6, ec7, ec31, Int.not_lt.2 ec31, ec33, Int.not_lt.2 ec33, ec34, c41, c45]
              · skip
                refine go_skip ?_
                refine go_reg ?_
                refine run_aops hA 2 _ _ _ _ (by cbv) ?_
                refine ops_done ?_
                refine ⟨(S66_2 b_To_r (A.rlen b_To_r) (A.num .add .i64 n 1) b_State b_From b_Data_r), List.length b_To - (i + 1), ?_, by cbv, i + 1, (A.num .add .i64 n 1), rfl, ?_, rfl⟩
                · skip
                  omega
                · skip
                  try simp only [slen_eq hA, lb_To_r, lb_Data_r, lu42] at *
                  subst hv49_43 hv41_36 hv7_1
                  refine ⟨by rw [add_i64 hA (by omega) (by omega)]; omega, by omega, ?_⟩
                  rw [hE, to_at hix35]
                  subst hn
                  try simp only [Int.toNat_natCast] at *
                  simp [c6, ec7, ec31, Int.not_lt.2 ec31, ec33, Int.not_lt.2 ec33, ec34, c41, c45]
          · skip
            have ec34 : (A.rlen b_To_r) ≤ n := lss_f hA c34
            refine go_exit ⟨fun _ => ?_, fun h => absurd rfl h⟩
            refine go_seq ?_
            refine go_reg ?_
            refine run_aops hA 2 _ _ _ _ (by cbv) ?_
            obtain ⟨v54_46, hv54_46, hc47⟩ : ∃ (v54_46 : Bool), v54_46 = (List.any b_Data lineB) ∧ Real Try.prog 103 [.sl 1 b_Data_r, .fn 104 []] (.bool v54_46) := ⟨_, rfl, by subst hb_Data_r; exact r_ContainsFunc_line A hA b_Data (by omega)⟩
            refine ops_callV rfl rfl (by cbv) (by cbv) hc47 (.inr rfl) (by cbv) ?_
            refine run_aops hA 2 _ _ _ _ (by cbv) ?_
            refine ops_done ?_
            refine go_ret ⟨_, by cbv, ?_⟩
            show _ = (PV.bool (A.bnot v54_46))
            refine congrArg PV.bool ?_
            try simp only [slen_eq hA, lb_To_r, lb_Data_r] at *
            subst hv54_46 hv7_1
            have hTo : toGo [] b_To = true := by rw [hE, to_end (by omega)]
            subst hA
            simp [bringOk, textOk, hTo, std, c6, ec7, ec31, Int.not_lt.2 ec31, ec33, Int.not_lt.2 ec33, ec34, Int.not_lt.2 ec34]

def S59_1 (p0 : Int) (p1 : Int) (p2 : ByteArray) (p3 : List (List PV)) (p4 : List (List PV)) : St := { sl := [.bad, .pt 1 0 0, .bad, .int .i64 p0, .bad, .bad, .bad, .bad, .bad, .bad, .bad, .bad, .bad, .bad, .bad, .bad, .bad, .bad, .bad, .bad, .bad, .bad, .bad, .bad, .bad, .bad, .bad, .bad, .bad, .bad, .bad, .bad, .bad, .bad, .bad, .bad, .bad, .bad, .bad, .bad, .bad, .bad, .bad, .bad, .bad, .bad, .bad, .bad, .bad, .bad, .bad, .bad, .bad, .bad, .bad, .bad, .bad, .bad, .bad, .bad, .bad, .bad, .bad, .bad, .bad, .bad, .bad], bl := [(1, ⟨.var, 4, [[.int .i64 p1, .str p2, .sl 1 p3, .sl 1 p4]]⟩)] }
def S59_2 (p0 : Int) (p1 : Int) (p2 : ByteArray) (p3 : List (List PV)) (p4 : List (List PV)) : St := { sl := [.bad, .pt 1 0 0, .bad, .bad, .int .i64 p0, .bad, .bad, .bad, .bad, .bad, .bad, .bad, .bad, .bad, .bad, .bad, .bad, .bad, .bad, .bad, .bad, .bad, .bad, .bad, .bad, .bad, .bad, .bad, .bad, .bad, .bad, .bad, .bad, .bad, .bad, .bad, .bad, .bad, .bad, .bad, .bad, .bad, .bad, .bad, .bad, .bad, .bad, .bad, .bad, .bad, .bad, .bad, .bad, .bad, .bad, .bad, .bad, .bad, .bad, .bad, .bad, .bad, .bad, .bad, .bad, .bad, .bad], bl := [(1, ⟨.var, 4, [[.int .i64 p1, .str p2, .sl 1 p3, .sl 1 p4]]⟩)] }
theorem r_spec_BringOk (A : Alg) (hA : A = std) (b : GBring) (hz : ∀ k ∈ zsBring b, (k : Int) ≤ 4611686018427387904) : Real Try.prog 59 [.agg (eBring b)] (.bool (bringOk b)) := by
  obtain ⟨b_State, b_From, b_To, b_Data⟩ := b
  obtain ⟨b_To_r, hb_To_r⟩ : ∃ r, r = b_To.map eString := ⟨_, rfl⟩
  have lb_To_r : A.rlen b_To_r = (List.length b_To : Int) := rlen_map hA hb_To_r
  obtain ⟨b_Data_r, hb_Data_r⟩ : ∃ r, r = b_Data.map eString := ⟨_, rfl⟩
  have lb_Data_r : A.rlen b_Data_r = (List.length b_Data : Int) := rlen_map hA hb_Data_r
  refine real_args (args' := [.agg [.int .i64 b_State, .str b_From, .sl 1 b_To_r, .sl 1 b_Data_r]]) (by subst hb_To_r hb_Data_r; rfl) ?_
  have zF : (ByteArray.size b_From : Int) ≤ 4611686018427387904 := hz _ (by simp [zsBring])
  have nT : (List.length b_To : Int) ≤ 4611686018427387904 := hz _ (by simp [zsBring, zsStringS])
  have nD : (List.length b_Data : Int) ≤ 4611686018427387904 := hz _ (by simp [zsBring, zsStringS])
  have zT : ∀ x ∈ b_To, (ByteArray.size x : Int) ≤ 4611686018427387904 := fun x hx => hz _ (List.mem_append_right _ (List.mem_append_left _ (List.mem_cons_of_mem _ (List.mem_flatMap.2 ⟨x, hx, by simp [zsString]⟩))))
  refine real tyOk Try.func59 (by kernel_rfl) (afun_of rfl ?_)
  refine go_seq ?_
  refine go_reg ?_
  refine run_aops hA 2 _ _ _ _ (by cbv) ?_
  refine ops_done ?_
  refine go_seq ?_
  refine go_seq ?_
  refine go_reg ?_
  refine run_aops hA 2 _ _ _ _ (by cbv) ?_
  obtain ⟨v7_1, hv7_1, hc2⟩ : ∃ (v7_1 : Bool), v7_1 = (inR b_State 0 4) ∧ Real Try.prog 95 [.int .i64 b_State, .int .i64 0, .int .i64 4] (.bool v7_1) := ⟨_, rfl, by exact r_spec_l01In A hA b_State 0 4 ⟩
  refine ops_callV rfl rfl (by cbv) (by cbv) hc2 (.inr rfl) (by cbv) ?_
  refine run_aops hA 2 _ _ _ _ (by cbv) ?_
  refine ops_split 9 rfl (fun c3 => ?_) (fun c3 => ?_)
  · skip
    have c4 : v7_1 = false := bnot_t hA c3
    refine run_aops hA 17 _ _ _ _ (by cbv) ?_
    refine ops_done ?_
    refine go_cond rfl (fun c5 => ?_) (fun c5 => ?_)
    · skip
      refine go_seq ?_
      refine go_reg ?_
      refine run_aops hA 1 _ _ _ _ (by cbv) ?_
      refine ops_done ?_
      refine go_ret ⟨_, by cbv, ?_⟩
      show _ = (PV.bool false)
      refine congrArg PV.bool ?_
      try simp only [slen_eq hA, lb_To_r, lb_Data_r] at *
      subst hv7_1
      subst hA
      simp [bringOk, std, c4]
    · skip
      exact absurd (show true = false from c5) (by rw [show true = true from by rfl]; decide)
  · skip
    have c6 : v7_1 = true := bnot_f hA c3
    refine run_aops hA 2 _ _ _ _ (by cbv) ?_
    obtain ⟨v12_7, hv12_7, hc8⟩ : ∃ (v12_7 : Bool), v12_7 = (textOk b_From) ∧ Real Try.prog 96 [.str b_From] (.bool v12_7) := ⟨_, rfl, by exact r_spec_l19Text A hA b_From (by first | assumption | omega)⟩
    refine ops_callG rfl rfl rfl rfl (by cbv) (by cbv) hc8 (.inr rfl) (by cbv) ?_
    refine run_aops hA 3 _ _ _ _ (by cbv) ?_
    refine ops_split 15 rfl (fun c9 => ?_) (fun c9 => ?_)
    · skip
      have c10 : v12_7 = false := bnot_t hA c9
      refine run_aops hA 11 _ _ _ _ (by cbv) ?_
      refine ops_done ?_
      refine go_cond rfl (fun c11 => ?_) (fun c11 => ?_)
      · skip
        refine go_seq ?_
        refine go_reg ?_
        refine run_aops hA 1 _ _ _ _ (by cbv) ?_
        refine ops_done ?_
        refine go_ret ⟨_, by cbv, ?_⟩
        show _ = (PV.bool false)
        refine congrArg PV.bool ?_
        try simp only [slen_eq hA, lb_To_r, lb_Data_r] at *
        subst hv12_7 hv7_1
        subst hA
        simp [bringOk, std, c6, c10]
      · skip
        exact absurd (show true = false from c11) (by rw [show true = true from by rfl]; decide)
    · skip
      have c12 : v12_7 = true := bnot_f hA c9
      refine run_aops hA 6 _ _ _ _ (by cbv) ?_
      refine ops_split 21 rfl (fun c13 => ?_) (fun c13 => ?_)
      · skip
        have ec13 : 3 < (A.rlen b_To_r) := gtr_t hA c13
        refine run_aops hA 5 _ _ _ _ (by cbv) ?_
        refine ops_done ?_
        refine go_cond rfl (fun c14 => ?_) (fun c14 => ?_)
        · skip
          refine go_seq ?_
          refine go_reg ?_
          refine run_aops hA 1 _ _ _ _ (by cbv) ?_
          refine ops_done ?_
          refine go_ret ⟨_, by cbv, ?_⟩
          show _ = (PV.bool false)
          refine congrArg PV.bool ?_
          try simp only [slen_eq hA, lb_To_r, lb_Data_r] at *
          subst hv12_7 hv7_1
          subst hA
          simp [bringOk, std, c6, c12, ec13]
        · skip
          exact absurd (show true = false from c14) (by rw [show true = true from by rfl]; decide)
      · skip
        have ec13 : (A.rlen b_To_r) ≤ 3 := gtr_f hA c13
        refine run_aops hA 5 _ _ _ _ (by cbv) ?_
        refine ops_done ?_
        refine go_cond rfl (fun c15 => ?_) (fun c15 => ?_)
        · skip
          have ec15 : 101 < (A.rlen b_Data_r) := gtr_t hA c15
          refine go_seq ?_
          refine go_reg ?_
          refine run_aops hA 1 _ _ _ _ (by cbv) ?_
          refine ops_done ?_
          refine go_ret ⟨_, by cbv, ?_⟩
          show _ = (PV.bool false)
          refine congrArg PV.bool ?_
          try simp only [slen_eq hA, lb_To_r, lb_Data_r] at *
          subst hv12_7 hv7_1
          subst hA
          simp [bringOk, std, c6, c12, ec13, Int.not_lt.2 ec13, ec15]
        · skip
          have ec15 : (A.rlen b_Data_r) ≤ 101 := gtr_f hA c15
          refine go_skip ?_
          refine go_seq ?_
          refine go_seq ?_
          refine go_reg ?_
          refine run_aops hA 1 _ _ _ _ (by cbv) ?_
          refine ops_done ?_
          refine go_block ?_
          refine go_loopE (fun σ m => ∃ (i : Nat) (n : Int), σ = (S59_1 n b_State b_From b_To_r b_Data_r) ∧ (n = (i : Int) ∧ i ≤ List.length b_To ∧ toGo [] b_To = toGo (b_To.take i) (b_To.drop i)) ∧ m = List.length b_To - i) _ [] [1, 3] [1] (S59_1 0 b_State b_From b_To_r b_Data_r) rfl (by cbv) ⟨0, 0, rfl, ?_, rfl⟩ (fun σ m hI => ?_)
          · skip
            exact ⟨rfl, Nat.zero_le _, rfl⟩
          obtain ⟨i, n, rfl, ⟨hn, hi, hE⟩, rfl⟩ := hI
          refine go_seq ?_
          refine go_seq ?_
          refine go_reg ?_
          refine run_aops hA 5 _ _ _ _ (by cbv) ?_
          refine ops_done ?_
          refine go_cond rfl (fun c16 => ?_) (fun c16 => ?_)
          · skip
            have ec16 : n < (A.rlen b_To_r) := lss_t hA c16
            refine go_skip ?_
            refine go_seq ?_
            refine go_block ?_
            refine go_seq ?_
            refine go_draw (by cbv) ?_
            refine run_dops hA 3 _ _ _ _ (by cbv) ?_
            have h0x17 : (0 : Int) ≤ n := by
              omega
            have hlx17 : (Int.toNat n) < List.length b_To := by
              omega
            obtain ⟨x17, hx17⟩ : ∃ x, (b_To)[(Int.toNat n)]? = some x := ⟨_, List.getElem?_eq_getElem hlx17⟩
            have hmx17 := List.mem_of_getElem? hx17
            have hrx17 : b_To_r[(Int.toNat n)]? = some [.str x17] := by
              exact map_at eString hb_To_r hx17
            have hix17 := hx17
            rw [hn] at hix17
            have hix17 : (b_To)[i]? = some x17 := hix17
            try have hzx17 := zT _ hmx17
            refine dops_step rfl rfl rfl (idx_sl rfl rfl rfl rfl rfl h0x17 rfl hrx17) ?_
            refine run_dops hA 1 _ _ _ _ (by cbv) ?_
            obtain ⟨v39_18, hv39_18, hc19⟩ : ∃ (v39_18 : Bool), v39_18 = (wordOk x17) ∧ Real Try.prog 97 [.str x17] (.bool v39_18) := ⟨_, rfl, by exact r_spec_WordOk A hA x17 (by first | assumption | omega)⟩
            refine dops_callV rfl rfl (by cbv) (by cbv) hc19 (.inr rfl) ?_
            refine run_dops hA 2 _ _ _ _ (by cbv) ?_
            refine dops_split 41 rfl (fun c20 => ?_) (fun c20 => ?_)
            · skip
              have c21 : v39_18 = false := bnot_t hA c20
              refine run_dops hA 11 _ _ _ _ (by cbv) ?_
              refine dops_done ?_
              refine go_cond rfl (fun c22 => ?_) (fun c22 => ?_)
              · skip
                refine go_seq ?_
                refine go_reg ?_
                refine run_aops hA 1 _ _ _ _ (by cbv) ?_
                refine ops_done ?_
                refine go_ret ⟨_, by cbv, ?_⟩
                show _ = (PV.bool false)
                refine congrArg PV.bool ?_
                try simp only [slen_eq hA, lb_To_r, lb_Data_r] at *
                subst hv39_18 hv12_7 hv7_1
                have hTo : toGo [] b_To = false := by
                  rw [hE, to_at hix17]
                  subst hn
                  try simp only [Int.toNat_natCast] at *
                  simp [c6, c12, ec13, Int.not_lt.2 ec13, ec15, Int.not_lt.2 ec15, ec16, c21]
                subst hA
                simp [bringOk, hTo, std, c6, c12, ec13, Int.not_lt.2 ec13, ec15, Int.not_lt.2 ec15, ec16, c21]
              · skip
                exact absurd (show true = false from c22) (by rw [show true = true from by rfl]; decide)
            · skip
              have c23 : v39_18 = true := bnot_f hA c20
              refine run_dops hA 3 _ _ _ _ (by cbv) ?_
              obtain ⟨u24, hu24⟩ : ∃ r : List (List PV), r = (List.drop (Int.toNat 0) b_To_r).take (Int.toNat n - Int.toNat 0) := ⟨_, rfl⟩
              have eu24 : u24 = List.map eString (List.take (Int.toNat n) b_To) := by rw [hu24, hb_To_r]; exact (List.map_take ..).symm
              have lu24 : A.rlen u24 = (List.length (List.take (Int.toNat n) b_To) : Int) := rlen_map hA eu24
              refine dops_stepG rfl rfl rfl rfl rfl (slc_sl rfl rfl rfl rfl rfl rfl (by decide) (by omega) (by rw [hb_To_r, List.length_map]; omega) rfl hu24) ?_
              refine run_dops hA 3 _ _ _ _ (by cbv) ?_
              refine dops_stepG rfl rfl rfl rfl rfl (idx_sl rfl rfl rfl rfl rfl h0x17 rfl hrx17) ?_
              refine run_dops hA 1 _ _ _ _ (by cbv) ?_
              obtain ⟨v51_25, hv51_25, hc26⟩ : ∃ (v51_25 : Bool), v51_25 = (memB x17 (List.take (Int.toNat n) b_To)) ∧ Real Try.prog 98 [.sl 1 u24, .str x17] (.bool v51_25) := ⟨_, rfl, by subst eu24; exact r_spec_l19In A hA (List.take (Int.toNat n) b_To) x17 (by first | omega | (rw [List.length_take]; omega))⟩
              refine dops_callG rfl rfl rfl rfl (by cbv) (by cbv) hc26 (.inr rfl) ?_
              refine run_dops hA 1 _ _ _ _ (by cbv) ?_
              refine dops_done ?_
              refine go_cond rfl (fun c27 => ?_) (fun c27 => ?_)
              · skip
                refine go_seq ?_
                refine go_reg ?_
                refine run_aops hA 1 _ _ _ _ (by cbv) ?_
                refine ops_done ?_
                refine go_ret ⟨_, by cbv, ?_⟩
                show _ = (PV.bool false)
                refine congrArg PV.bool ?_
                try simp only [slen_eq hA, lb_To_r, lb_Data_r, lu24] at *
                subst hv51_25 hv39_18 hv12_7 hv7_1
                have hTo : toGo [] b_To = false := by
                  rw [hE, to_at hix17]
                  subst hn
                  try simp only [Int.toNat_natCast] at *
                  simp [c6, c12, ec13, Int.not_lt.2 ec13, ec15, Int.not_lt.2 ec15, ec16, c23, c27]
                subst hA
                simp [bringOk, hTo, std, c6, c12, ec13, Int.not_lt.2 ec13, ec15, Int.not_lt.2 ec15, ec16, c23, c27]
              · skip
                refine go_skip ?_
                refine go_reg ?_
                refine run_aops hA 3 _ _ _ _ (by cbv) ?_
                refine ops_done ?_
                refine ⟨(S59_1 (A.num .add .i64 n 1) b_State b_From b_To_r b_Data_r), List.length b_To - (i + 1), ?_, by cbv, i + 1, (A.num .add .i64 n 1), rfl, ?_, rfl⟩
                · skip
                  omega
                · skip
                  try simp only [slen_eq hA, lb_To_r, lb_Data_r, lu24] at *
                  subst hv51_25 hv39_18 hv12_7 hv7_1
                  refine ⟨by rw [add_i64 hA (by omega) (by omega)]; omega, by omega, ?_⟩
                  rw [hE, to_at hix17]
                  subst hn
                  try simp only [Int.toNat_natCast] at *
                  simp [c6, c12, ec13, Int.not_lt.2 ec13, ec15, Int.not_lt.2 ec15, ec16, c23, c27]
          · skip
            have ec16 : (A.rlen b_To_r) ≤ n := lss_f hA c16
            refine go_exit ⟨fun _ => ?_, fun h => absurd rfl h⟩
            refine go_seq ?_
            refine go_seq ?_
            have hTo : toGo [] b_To = true := by rw [hE, to_end (by omega)]
            refine go_reg ?_
            refine run_aops hA 1 _ _ _ _ (by cbv) ?_
            refine ops_done ?_
            refine go_block ?_
            refine go_loopE (fun σ m => ∃ (i : Nat) (n : Int), σ = (S59_2 n b_State b_From b_To_r b_Data_r) ∧ (n = (i : Int) ∧ i ≤ List.length b_Data ∧ List.any b_Data lineB = List.any (b_Data.drop i) lineB) ∧ m = List.length b_Data - i) _ [] [1, 4] [1] (S59_2 0 b_State b_From b_To_r b_Data_r) rfl (by cbv) ⟨0, 0, rfl, ?_, rfl⟩ (fun σ m hI => ?_)
            · skip
              exact ⟨rfl, Nat.zero_le _, rfl⟩
            obtain ⟨i, n, rfl, ⟨hn, hi, hE⟩, rfl⟩ := hI
            refine go_seq ?_
            refine go_seq ?_
            refine go_reg ?_
            refine run_aops hA 5 _ _ _ _ (by cbv) ?_
            refine ops_done ?_
            refine go_cond rfl (fun c28 => ?_) (fun c28 => ?_)
            · skip
              have ec28 : n < (A.rlen b_Data_r) := lss_t hA c28
              refine go_skip ?_
              refine go_seq ?_
              refine go_block ?_
              refine go_seq ?_
              refine go_reg ?_
              refine run_aops hA 3 _ _ _ _ (by cbv) ?_
              have h0x29 : (0 : Int) ≤ n := by
                omega
              have hlx29 : (Int.toNat n) < List.length b_Data := by
                omega
              obtain ⟨x29, hx29⟩ : ∃ x, (b_Data)[(Int.toNat n)]? = some x := ⟨_, List.getElem?_eq_getElem hlx29⟩
              have hmx29 := List.mem_of_getElem? hx29
              have hrx29 : b_Data_r[(Int.toNat n)]? = some [.str x29] := by
                exact map_at eString hb_Data_r hx29
              have hix29 := hx29
              rw [hn] at hix29
              have hix29 : (b_Data)[i]? = some x29 := hix29
              try have hzx29 := zT _ hmx29
              refine ops_step rfl rfl (idx_sl rfl rfl rfl rfl rfl h0x29 rfl hrx29) ?_
              refine run_aops hA 3 _ _ _ _ (by cbv) ?_
              refine ops_done ?_
              refine go_cond rfl (fun c30 => ?_) (fun c30 => ?_)
              · skip
                have ec30 : 80 < (A.slen x29) := gtr_t hA c30
                refine go_seq ?_
                refine go_reg ?_
                refine run_aops hA 1 _ _ _ _ (by cbv) ?_
                refine ops_done ?_
                refine go_ret ⟨_, by cbv, ?_⟩
                show _ = (PV.bool false)
                refine congrArg PV.bool ?_
                try simp only [slen_eq hA, lb_To_r, lb_Data_r] at *
                subst hv12_7 hv7_1
                have hD : List.any b_Data lineB = true := by
                  rw [hE, any_at hix29]
                  simp [lineB, c6, c12, ec13, Int.not_lt.2 ec13, ec15, Int.not_lt.2 ec15, ec16, Int.not_lt.2 ec16, ec28, ec30]
                subst hA
                simp [bringOk, hTo, hD, std, c6, c12, ec13, Int.not_lt.2 ec13, ec15, Int.not_lt.2 ec15, ec16, Int.not_lt.2 ec16, ec28, ec30]
              · skip
                have ec30 : (A.slen x29) ≤ 80 := gtr_f hA c30
                refine go_skip ?_
                refine go_reg ?_
                refine run_aops hA 3 _ _ _ _ (by cbv) ?_
                refine ops_done ?_
                refine ⟨(S59_2 (A.num .add .i64 n 1) b_State b_From b_To_r b_Data_r), List.length b_Data - (i + 1), ?_, by cbv, i + 1, (A.num .add .i64 n 1), rfl, ?_, rfl⟩
                · skip
                  omega
                · skip
                  try simp only [slen_eq hA, lb_To_r, lb_Data_r] at *
                  subst hv12_7 hv7_1
                  refine ⟨by rw [add_i64 hA (by omega) (by omega)]; omega, by omega, ?_⟩
                  rw [hE, any_at hix29]
                  simp [lineB, c6, c12, ec13, Int.not_lt.2 ec13, ec15, Int.not_lt.2 ec15, ec16, Int.not_lt.2 ec16, ec28, ec30, Int.not_lt.2 ec30]
            · skip
              have ec28 : (A.rlen b_Data_r) ≤ n := lss_f hA c28
              refine go_exit ⟨fun _ => ?_, fun h => absurd rfl h⟩
              refine go_seq ?_
              refine go_reg ?_
              refine run_aops hA 1 _ _ _ _ (by cbv) ?_
              refine ops_done ?_
              refine go_ret ⟨_, by cbv, ?_⟩
              show _ = (PV.bool true)
              refine congrArg PV.bool ?_
              try simp only [slen_eq hA, lb_To_r, lb_Data_r] at *
              subst hv12_7 hv7_1
              have hD : List.any b_Data lineB = false := by rw [hE, List.drop_of_length_le (by omega)]; rfl
              subst hA
              simp [bringOk, hTo, hD, std, c6, c12, ec13, Int.not_lt.2 ec13, ec15, Int.not_lt.2 ec15, ec16, Int.not_lt.2 ec16, ec28, Int.not_lt.2 ec28]
end Go.Av
