/- Walks: SessionsRight. -/
import Derived.Test.YtjbokkoiicoahaaR2
import Derived.Test.YtjbokkoiicoahaaR3
namespace Go.Av
open Go Go.Proofs
set_option maxRecDepth 100000
set_option maxHeartbeats 4000000
set_option linter.unusedVariables false
set_option linter.unusedSimpArgs false
def sesRight (w : GWorld) : Bool := !(w.Server.Sessions.any sesBad)

theorem r_impl_SessionsRight_1 (A : Alg) (hA : A = std) (x : GSession) (hz : ∀ k ∈ zsSession x, (k : Int) ≤ 4611686018427387904) : Real Try.prog 65 [.agg (eSession x)] (.bool (sesBad x)) := by
  obtain ⟨x_Kind, x_In, x_Out, x_Over, ⟨x_Bring_State, x_Bring_From, x_Bring_To, x_Bring_Data⟩, ⟨x_Fetch_State, x_Fetch_User, x_Fetch_Mails, x_Fetch_Gone⟩, ⟨x_Look_State, x_Look_User, x_Look_Box, x_Look_Valid, x_Look_Uids⟩⟩ := x
  obtain ⟨x_Bring_To_r, hx_Bring_To_r⟩ : ∃ r, r = x_Bring_To.map eString := ⟨_, rfl⟩
  have lx_Bring_To_r : A.rlen x_Bring_To_r = (List.length x_Bring_To : Int) := rlen_map hA hx_Bring_To_r
  obtain ⟨x_Bring_Data_r, hx_Bring_Data_r⟩ : ∃ r, r = x_Bring_Data.map eString := ⟨_, rfl⟩
  have lx_Bring_Data_r : A.rlen x_Bring_Data_r = (List.length x_Bring_Data : Int) := rlen_map hA hx_Bring_Data_r
  obtain ⟨x_Fetch_Mails_r, hx_Fetch_Mails_r⟩ : ∃ r, r = x_Fetch_Mails.map eMail := ⟨_, rfl⟩
  have lx_Fetch_Mails_r : A.rlen x_Fetch_Mails_r = (List.length x_Fetch_Mails : Int) := rlen_map hA hx_Fetch_Mails_r
  obtain ⟨x_Fetch_Gone_r, hx_Fetch_Gone_r⟩ : ∃ r, r = x_Fetch_Gone.map eBool := ⟨_, rfl⟩
  have lx_Fetch_Gone_r : A.rlen x_Fetch_Gone_r = (List.length x_Fetch_Gone : Int) := rlen_map hA hx_Fetch_Gone_r
  obtain ⟨x_Look_Uids_r, hx_Look_Uids_r⟩ : ∃ r, r = x_Look_Uids.map eInt := ⟨_, rfl⟩
  have lx_Look_Uids_r : A.rlen x_Look_Uids_r = (List.length x_Look_Uids : Int) := rlen_map hA hx_Look_Uids_r
  refine real_args (args' := [.agg [.int .i64 x_Kind, .str x_In, .str x_Out, .bool x_Over, .int .i64 x_Bring_State, .str x_Bring_From, .sl 1 x_Bring_To_r, .sl 1 x_Bring_Data_r, .int .i64 x_Fetch_State, .str x_Fetch_User, .sl 3 x_Fetch_Mails_r, .sl 1 x_Fetch_Gone_r, .int .i64 x_Look_State, .str x_Look_User, .str x_Look_Box, .int .i64 x_Look_Valid, .sl 1 x_Look_Uids_r]]) (by subst hx_Bring_To_r hx_Bring_Data_r hx_Fetch_Mails_r hx_Fetch_Gone_r hx_Look_Uids_r; rfl) ?_
  have zB : ∀ k ∈ zsBring (GSession.Bring (⟨x_Kind, x_In, x_Out, x_Over, ⟨x_Bring_State, x_Bring_From, x_Bring_To, x_Bring_Data⟩, ⟨x_Fetch_State, x_Fetch_User, x_Fetch_Mails, x_Fetch_Gone⟩, ⟨x_Look_State, x_Look_User, x_Look_Box, x_Look_Valid, x_Look_Uids⟩⟩ : GSession)), (k : Int) ≤ 4611686018427387904 := fun k hk => hz k (List.mem_append_right _ (List.mem_append_right _ (List.mem_append_left _ hk)))
  have zFe : ∀ k ∈ zsFetch (GSession.Fetch (⟨x_Kind, x_In, x_Out, x_Over, ⟨x_Bring_State, x_Bring_From, x_Bring_To, x_Bring_Data⟩, ⟨x_Fetch_State, x_Fetch_User, x_Fetch_Mails, x_Fetch_Gone⟩, ⟨x_Look_State, x_Look_User, x_Look_Box, x_Look_Valid, x_Look_Uids⟩⟩ : GSession)), (k : Int) ≤ 4611686018427387904 := fun k hk => hz k (List.mem_append_right _ (List.mem_append_right _ (List.mem_append_right _ (List.mem_append_left _ hk))))
  have zLo : ∀ k ∈ zsLook (GSession.Look (⟨x_Kind, x_In, x_Out, x_Over, ⟨x_Bring_State, x_Bring_From, x_Bring_To, x_Bring_Data⟩, ⟨x_Fetch_State, x_Fetch_User, x_Fetch_Mails, x_Fetch_Gone⟩, ⟨x_Look_State, x_Look_User, x_Look_Box, x_Look_Valid, x_Look_Uids⟩⟩ : GSession)), (k : Int) ≤ 4611686018427387904 := fun k hk => hz k (List.mem_append_right _ (List.mem_append_right _ (List.mem_append_right _ (List.mem_append_right _ (List.mem_append_left _ hk)))))
  refine real tyOk Try.func65 (by kernel_rfl) (afun_of rfl ?_)
  refine go_seq ?_
  refine go_reg ?_
  refine run_aops hA 2 _ _ _ _ (by cbv) ?_
  refine ops_done ?_
  refine go_seq ?_
  refine go_reg ?_
  refine run_aops hA 2 _ _ _ _ (by cbv) ?_
  obtain ⟨v5_1, hv5_1, hc2⟩ : ∃ (v5_1 : Bool), v5_1 = (bringOk (⟨x_Bring_State, x_Bring_From, x_Bring_To, x_Bring_Data⟩ : GBring)) ∧ Real Try.prog 66 [.agg [.int .i64 x_Bring_State, .str x_Bring_From, .sl 1 x_Bring_To_r, .sl 1 x_Bring_Data_r]] (.bool v5_1) := ⟨_, rfl, by subst hx_Bring_To_r hx_Bring_Data_r; exact r_impl_BringOk A hA (⟨x_Bring_State, x_Bring_From, x_Bring_To, x_Bring_Data⟩ : GBring) zB⟩
  refine ops_callV rfl rfl (by cbv) (by cbv) hc2 (.inr rfl) (by cbv) ?_
  refine run_aops hA 2 _ _ _ _ (by cbv) ?_
  refine ops_split 7 rfl (fun c3 => ?_) (fun c3 => ?_)
  · skip
    have c4 : v5_1 = false := bnot_t hA c3
    refine run_aops hA 18 _ _ _ _ (by cbv) ?_
    refine ops_done ?_
    refine go_ret ⟨_, by cbv, ?_⟩
    show _ = (PV.bool true)
    refine congrArg PV.bool ?_
    try simp only [slen_eq hA, lx_Bring_To_r, lx_Bring_Data_r, lx_Fetch_Mails_r, lx_Fetch_Gone_r, lx_Look_Uids_r] at *
    subst hv5_1
    subst hA
    simp [sesBad, std, c4]
  · skip
    have c5 : v5_1 = true := bnot_f hA c3
    refine run_aops hA 2 _ _ _ _ (by cbv) ?_
    obtain ⟨v10_6, hv10_6, hc7⟩ : ∃ (v10_6 : Bool), v10_6 = (fetchOk (⟨x_Fetch_State, x_Fetch_User, x_Fetch_Mails, x_Fetch_Gone⟩ : GFetch)) ∧ Real Try.prog 67 [.agg [.int .i64 x_Fetch_State, .str x_Fetch_User, .sl 3 x_Fetch_Mails_r, .sl 1 x_Fetch_Gone_r]] (.bool v10_6) := ⟨_, rfl, by subst hx_Fetch_Mails_r hx_Fetch_Gone_r; exact r_impl_FetchOk A hA (⟨x_Fetch_State, x_Fetch_User, x_Fetch_Mails, x_Fetch_Gone⟩ : GFetch) zFe⟩
    refine ops_callG rfl rfl rfl rfl (by cbv) (by cbv) hc7 (.inr rfl) (by cbv) ?_
    refine run_aops hA 3 _ _ _ _ (by cbv) ?_
    refine ops_split 13 rfl (fun c8 => ?_) (fun c8 => ?_)
    · skip
      have c9 : v10_6 = false := bnot_t hA c8
      refine run_aops hA 12 _ _ _ _ (by cbv) ?_
      refine ops_done ?_
      refine go_ret ⟨_, by cbv, ?_⟩
      show _ = (PV.bool true)
      refine congrArg PV.bool ?_
      try simp only [slen_eq hA, lx_Bring_To_r, lx_Bring_Data_r, lx_Fetch_Mails_r, lx_Fetch_Gone_r, lx_Look_Uids_r] at *
      subst hv10_6 hv5_1
      subst hA
      simp [sesBad, std, c5, c9]
    · skip
      have c10 : v10_6 = true := bnot_f hA c8
      refine run_aops hA 2 _ _ _ _ (by cbv) ?_
      obtain ⟨v16_11, hv16_11, hc12⟩ : ∃ (v16_11 : Bool), v16_11 = (lookOk (⟨x_Look_State, x_Look_User, x_Look_Box, x_Look_Valid, x_Look_Uids⟩ : GLook)) ∧ Real Try.prog 68 [.agg [.int .i64 x_Look_State, .str x_Look_User, .str x_Look_Box, .int .i64 x_Look_Valid, .sl 1 x_Look_Uids_r]] (.bool v16_11) := ⟨_, rfl, by subst hx_Look_Uids_r; exact r_impl_LookOk A hA (⟨x_Look_State, x_Look_User, x_Look_Box, x_Look_Valid, x_Look_Uids⟩ : GLook) zLo⟩
      refine ops_callG rfl rfl rfl rfl (by cbv) (by cbv) hc12 (.inr rfl) (by cbv) ?_
      refine run_aops hA 3 _ _ _ _ (by cbv) ?_
      refine ops_split 19 rfl (fun c13 => ?_) (fun c13 => ?_)
      · skip
        have c14 : v16_11 = false := bnot_t hA c13
        refine run_aops hA 6 _ _ _ _ (by cbv) ?_
        refine ops_done ?_
        refine go_ret ⟨_, by cbv, ?_⟩
        show _ = (PV.bool true)
        refine congrArg PV.bool ?_
        try simp only [slen_eq hA, lx_Bring_To_r, lx_Bring_Data_r, lx_Fetch_Mails_r, lx_Fetch_Gone_r, lx_Look_Uids_r] at *
        subst hv16_11 hv10_6 hv5_1
        subst hA
        simp [sesBad, std, c5, c10, c14]
      · skip
        have c15 : v16_11 = true := bnot_f hA c13
        refine run_aops hA 6 _ _ _ _ (by cbv) ?_
        refine ops_done ?_
        refine go_ret ⟨_, by cbv, ?_⟩
        show _ = (PV.bool (A.cmp .gtr (A.slen x_In) 400))
        refine congrArg PV.bool ?_
        try simp only [slen_eq hA, lx_Bring_To_r, lx_Bring_Data_r, lx_Fetch_Mails_r, lx_Fetch_Gone_r, lx_Look_Uids_r] at *
        subst hv16_11 hv10_6 hv5_1
        subst hA
        simp [sesBad, std, c5, c10, c15]

def S100_1 (p0 : List (List PV)) (p1 : Int) (p2 : Int) : St := { sl := [.sl 17 p0, .fn 65 [], .bad, .bad, .bad, .bad, .bad, .int .i64 p1, .int .i64 p2, .bad, .bad, .bad, .bad, .bad, .bad, .bad, .bad, .bad, .bad], bl := [] }
theorem r_IndexFunc_ses (A : Alg) (hA : A = std) (xs : List GSession) (hx : (List.length xs : Int) ≤ 4611686018427387904) (hzs : ∀ x ∈ xs, ∀ k ∈ zsSession x, (k : Int) ≤ 4611686018427387904) : Real Try.prog 100 [.sl 17 (List.map eSession xs), .fn 65 []] (.int .i64 (ixF sesBad xs 0)) := by
  obtain ⟨xs_r, hxs_r⟩ : ∃ r, r = xs.map eSession := ⟨_, rfl⟩
  have lxs_r : A.rlen xs_r = (List.length xs : Int) := rlen_map hA hxs_r
  refine real_args (args' := [.sl 17 xs_r, .fn 65 []]) (by subst hxs_r; rfl) ?_
  refine real tyOk Try.func100 (by kernel_rfl) (afun_of rfl ?_)
  refine go_seq ?_
  refine go_reg ?_
  refine run_aops hA 1 _ _ _ _ (by cbv) ?_
  refine ops_done ?_
  refine go_seq ?_
  refine go_seq ?_
  refine go_reg ?_
  refine run_aops hA 3 _ _ _ _ (by cbv) ?_
  refine ops_done ?_
  refine go_block ?_
  refine go_loopE (fun σ m => ∃ (i : Nat) (n : Int), σ = (S100_1 xs_r (A.rlen xs_r) n) ∧ (n = (i : Int) ∧ i ≤ List.length xs ∧ ixF sesBad xs 0 = ixF sesBad (xs.drop i) i) ∧ m = List.length xs - i) _ [] [0, 1, 7, 8] [] (S100_1 xs_r (A.rlen xs_r) 0) rfl (by cbv) ⟨0, 0, rfl, ?_, rfl⟩ (fun σ m hI => ?_)
  · skip
    exact ⟨rfl, Nat.zero_le _, rfl⟩
  obtain ⟨i, n, rfl, ⟨hn, hi, hE⟩, rfl⟩ := hI
  refine go_seq ?_
  refine go_reg ?_
  refine run_aops hA 1 _ _ _ _ (by cbv) ?_
  refine ops_done ?_
  refine go_seq ?_
  refine go_cond rfl (fun c1 => ?_) (fun c1 => ?_)
  · skip
    have ec1 : n < (A.rlen xs_r) := lss_t hA c1
    refine go_skip ?_
    refine go_seq ?_
    refine go_block ?_
    refine go_seq ?_
    refine go_reg ?_
    refine run_aops hA 2 _ _ _ _ (by cbv) ?_
    refine ops_done ?_
    refine go_seq ?_
    refine go_reg ?_
    refine run_aops hA 3 _ _ _ _ (by cbv) ?_
    have h0x2 : (0 : Int) ≤ n := by
      omega
    have hlx2 : (Int.toNat n) < List.length xs := by
      omega
    obtain ⟨x2, hx2⟩ : ∃ x, (xs)[(Int.toNat n)]? = some x := ⟨_, List.getElem?_eq_getElem hlx2⟩
    have hmx2 := List.mem_of_getElem? hx2
    obtain ⟨x2_Kind, x2_In, x2_Out, x2_Over, ⟨x2_Bring_State, x2_Bring_From, x2_Bring_To, x2_Bring_Data⟩, ⟨x2_Fetch_State, x2_Fetch_User, x2_Fetch_Mails, x2_Fetch_Gone⟩, ⟨x2_Look_State, x2_Look_User, x2_Look_Box, x2_Look_Valid, x2_Look_Uids⟩⟩ := x2
    obtain ⟨x2_Bring_To_r, hx2_Bring_To_r⟩ : ∃ r, r = x2_Bring_To.map eString := ⟨_, rfl⟩
    have lx2_Bring_To_r : A.rlen x2_Bring_To_r = (List.length x2_Bring_To : Int) := rlen_map hA hx2_Bring_To_r
    obtain ⟨x2_Bring_Data_r, hx2_Bring_Data_r⟩ : ∃ r, r = x2_Bring_Data.map eString := ⟨_, rfl⟩
    have lx2_Bring_Data_r : A.rlen x2_Bring_Data_r = (List.length x2_Bring_Data : Int) := rlen_map hA hx2_Bring_Data_r
    obtain ⟨x2_Fetch_Mails_r, hx2_Fetch_Mails_r⟩ : ∃ r, r = x2_Fetch_Mails.map eMail := ⟨_, rfl⟩
    have lx2_Fetch_Mails_r : A.rlen x2_Fetch_Mails_r = (List.length x2_Fetch_Mails : Int) := rlen_map hA hx2_Fetch_Mails_r
    obtain ⟨x2_Fetch_Gone_r, hx2_Fetch_Gone_r⟩ : ∃ r, r = x2_Fetch_Gone.map eBool := ⟨_, rfl⟩
    have lx2_Fetch_Gone_r : A.rlen x2_Fetch_Gone_r = (List.length x2_Fetch_Gone : Int) := rlen_map hA hx2_Fetch_Gone_r
    obtain ⟨x2_Look_Uids_r, hx2_Look_Uids_r⟩ : ∃ r, r = x2_Look_Uids.map eInt := ⟨_, rfl⟩
    have lx2_Look_Uids_r : A.rlen x2_Look_Uids_r = (List.length x2_Look_Uids : Int) := rlen_map hA hx2_Look_Uids_r
    have hrx2 : xs_r[(Int.toNat n)]? = some [.int .i64 x2_Kind, .str x2_In, .str x2_Out, .bool x2_Over, .int .i64 x2_Bring_State, .str x2_Bring_From, .sl 1 x2_Bring_To_r, .sl 1 x2_Bring_Data_r, .int .i64 x2_Fetch_State, .str x2_Fetch_User, .sl 3 x2_Fetch_Mails_r, .sl 1 x2_Fetch_Gone_r, .int .i64 x2_Look_State, .str x2_Look_User, .str x2_Look_Box, .int .i64 x2_Look_Valid, .sl 1 x2_Look_Uids_r] := by
      subst hx2_Bring_To_r hx2_Bring_Data_r hx2_Fetch_Mails_r hx2_Fetch_Gone_r hx2_Look_Uids_r; exact map_at eSession hxs_r hx2
    have hix2 := hx2
    rw [hn] at hix2
    have hix2 : (xs)[i]? = some (⟨x2_Kind, x2_In, x2_Out, x2_Over, ⟨x2_Bring_State, x2_Bring_From, x2_Bring_To, x2_Bring_Data⟩, ⟨x2_Fetch_State, x2_Fetch_User, x2_Fetch_Mails, x2_Fetch_Gone⟩, ⟨x2_Look_State, x2_Look_User, x2_Look_Box, x2_Look_Valid, x2_Look_Uids⟩⟩ : GSession) := hix2
    have zS := hzs _ hmx2
    refine ops_step rfl rfl (idx_sl rfl rfl rfl rfl rfl h0x2 rfl hrx2) ?_
    refine run_aops hA 1 _ _ _ _ (by cbv) ?_
    obtain ⟨v16_3, hv16_3, hc4⟩ : ∃ (v16_3 : Bool), v16_3 = (sesBad (⟨x2_Kind, x2_In, x2_Out, x2_Over, ⟨x2_Bring_State, x2_Bring_From, x2_Bring_To, x2_Bring_Data⟩, ⟨x2_Fetch_State, x2_Fetch_User, x2_Fetch_Mails, x2_Fetch_Gone⟩, ⟨x2_Look_State, x2_Look_User, x2_Look_Box, x2_Look_Valid, x2_Look_Uids⟩⟩ : GSession)) ∧ Real Try.prog 65 [.agg [.int .i64 x2_Kind, .str x2_In, .str x2_Out, .bool x2_Over, .int .i64 x2_Bring_State, .str x2_Bring_From, .sl 1 x2_Bring_To_r, .sl 1 x2_Bring_Data_r, .int .i64 x2_Fetch_State, .str x2_Fetch_User, .sl 3 x2_Fetch_Mails_r, .sl 1 x2_Fetch_Gone_r, .int .i64 x2_Look_State, .str x2_Look_User, .str x2_Look_Box, .int .i64 x2_Look_Valid, .sl 1 x2_Look_Uids_r]] (.bool v16_3) := ⟨_, rfl, by subst hx2_Bring_To_r hx2_Bring_Data_r hx2_Fetch_Mails_r hx2_Fetch_Gone_r hx2_Look_Uids_r; exact r_impl_SessionsRight_1 A hA (⟨x2_Kind, x2_In, x2_Out, x2_Over, ⟨x2_Bring_State, x2_Bring_From, x2_Bring_To, x2_Bring_Data⟩, ⟨x2_Fetch_State, x2_Fetch_User, x2_Fetch_Mails, x2_Fetch_Gone⟩, ⟨x2_Look_State, x2_Look_User, x2_Look_Box, x2_Look_Valid, x2_Look_Uids⟩⟩ : GSession) zS⟩
    refine ops_callV rfl rfl (by cbv) (by cbv) hc4 (.inr rfl) (by cbv) ?_
    refine ops_done ?_
    refine go_cond rfl (fun c5 => ?_) (fun c5 => ?_)
    · skip
      refine go_seq ?_
      refine go_reg ?_
      refine run_aops hA 2 _ _ _ _ (by cbv) ?_
      refine ops_done ?_
      refine go_ret ⟨_, by cbv, ?_⟩
      show _ = (PV.int .i64 n)
      refine congrArg (PV.int .i64) ?_
      rw [hE, ix_at hix2]
      subst hv16_3
      simp [ec1, c5, hn]
    · skip
      refine go_skip ?_
      refine go_reg ?_
      refine run_aops hA 2 _ _ _ _ (by cbv) ?_
      refine ops_done ?_
      refine ⟨(S100_1 xs_r (A.rlen xs_r) (A.num .add .i64 n 1)), List.length xs - (i + 1), ?_, by cbv, i + 1, (A.num .add .i64 n 1), rfl, ?_, rfl⟩
      · skip
        omega
      · skip
        refine ⟨by rw [add_i64 hA (by omega) (by omega)]; omega, by omega, ?_⟩
        rw [hE, ix_at hix2]
        subst hv16_3
        simp [ec1, c5]
  · skip
    have ec1 : (A.rlen xs_r) ≤ n := lss_f hA c1
    refine go_exit ⟨fun _ => ?_, fun h => absurd rfl h⟩
    refine go_seq ?_
    refine go_reg ?_
    refine run_aops hA 1 _ _ _ _ (by cbv) ?_
    refine ops_done ?_
    refine go_ret ⟨_, by cbv, ?_⟩
    show _ = (PV.int .i64 (-1))
    refine congrArg (PV.int .i64) ?_
    rw [hE]; exact ix_end (by omega)

theorem r_ContainsFunc_ses (A : Alg) (hA : A = std) (xs : List GSession) (hx : (List.length xs : Int) ≤ 4611686018427387904) (hzs : ∀ x ∈ xs, ∀ k ∈ zsSession x, (k : Int) ≤ 4611686018427387904) : Real Try.prog 64 [.sl 17 (List.map eSession xs), .fn 65 []] (.bool (List.any xs sesBad)) := by
  obtain ⟨xs_r, hxs_r⟩ : ∃ r, r = xs.map eSession := ⟨_, rfl⟩
  have lxs_r : A.rlen xs_r = (List.length xs : Int) := rlen_map hA hxs_r
  refine real_args (args' := [.sl 17 xs_r, .fn 65 []]) (by subst hxs_r; rfl) ?_
  refine real tyOk Try.func64 (by kernel_rfl) (afun_of rfl ?_)
  refine go_seq ?_
  refine go_reg ?_
  refine run_aops hA 1 _ _ _ _ (by cbv) ?_
  refine ops_done ?_
  refine go_seq ?_
  refine go_reg ?_
  refine run_aops hA 2 _ _ _ _ (by cbv) ?_
  obtain ⟨v7_1, hv7_1, hc2⟩ : ∃ (v7_1 : Int), v7_1 = (ixF sesBad xs 0) ∧ Real Try.prog 100 [.sl 17 xs_r, .fn 65 []] (.int .i64 v7_1) := ⟨_, rfl, by subst hxs_r; exact r_IndexFunc_ses A hA xs hx hzs⟩
  refine ops_callV rfl rfl (by cbv) (by cbv) hc2 (.inr rfl) (by cbv) ?_
  refine run_aops hA 2 _ _ _ _ (by cbv) ?_
  refine ops_done ?_
  refine go_ret ⟨_, by cbv, ?_⟩
  show _ = (PV.bool (A.cmp .geq v7_1 0))
  refine congrArg PV.bool ?_
  rw [hv7_1]; exact (ix_any' hA _).symm

theorem r_impl_SessionsRight (A : Alg) (hA : A = std) (w : GWorld) (hz : ∀ k ∈ zsWorld w, (k : Int) ≤ 4611686018427387904) : Real Try.prog 28 [.agg (eWorld w)] (.bool (sesRight w)) := by
  obtain ⟨⟨⟨⟨⟨w_Server_Store_Log_Disk_Sectors, w_Server_Store_Log_Disk_Cache⟩, w_Server_Store_Log_Segs, w_Server_Store_Log_Used, w_Server_Store_Log_NextGen, w_Server_Store_Log_NextSeq, w_Server_Store_Log_Stamp, w_Server_Store_Log_NextValid⟩, w_Server_Store_Freed⟩, w_Server_Sessions⟩, w_Codes⟩ := w
  obtain ⟨w_Server_Store_Log_Disk_Sectors_r, hw_Server_Store_Log_Disk_Sectors_r⟩ : ∃ r, r = w_Server_Store_Log_Disk_Sectors.map eString := ⟨_, rfl⟩
  have lw_Server_Store_Log_Disk_Sectors_r : A.rlen w_Server_Store_Log_Disk_Sectors_r = (List.length w_Server_Store_Log_Disk_Sectors : Int) := rlen_map hA hw_Server_Store_Log_Disk_Sectors_r
  obtain ⟨w_Server_Store_Log_Disk_Cache_r, hw_Server_Store_Log_Disk_Cache_r⟩ : ∃ r, r = w_Server_Store_Log_Disk_Cache.map eWrite := ⟨_, rfl⟩
  have lw_Server_Store_Log_Disk_Cache_r : A.rlen w_Server_Store_Log_Disk_Cache_r = (List.length w_Server_Store_Log_Disk_Cache : Int) := rlen_map hA hw_Server_Store_Log_Disk_Cache_r
  obtain ⟨w_Server_Store_Log_Used_r, hw_Server_Store_Log_Used_r⟩ : ∃ r, r = w_Server_Store_Log_Used.map eSeg := ⟨_, rfl⟩
  have lw_Server_Store_Log_Used_r : A.rlen w_Server_Store_Log_Used_r = (List.length w_Server_Store_Log_Used : Int) := rlen_map hA hw_Server_Store_Log_Used_r
  obtain ⟨w_Server_Store_Freed_r, hw_Server_Store_Freed_r⟩ : ∃ r, r = w_Server_Store_Freed.map eInt := ⟨_, rfl⟩
  have lw_Server_Store_Freed_r : A.rlen w_Server_Store_Freed_r = (List.length w_Server_Store_Freed : Int) := rlen_map hA hw_Server_Store_Freed_r
  obtain ⟨w_Server_Sessions_r, hw_Server_Sessions_r⟩ : ∃ r, r = w_Server_Sessions.map eSession := ⟨_, rfl⟩
  have lw_Server_Sessions_r : A.rlen w_Server_Sessions_r = (List.length w_Server_Sessions : Int) := rlen_map hA hw_Server_Sessions_r
  obtain ⟨w_Codes_r, hw_Codes_r⟩ : ∃ r, r = w_Codes.map eInt := ⟨_, rfl⟩
  have lw_Codes_r : A.rlen w_Codes_r = (List.length w_Codes : Int) := rlen_map hA hw_Codes_r
  refine real_args (args' := [.agg [.sl 1 w_Server_Store_Log_Disk_Sectors_r, .sl 2 w_Server_Store_Log_Disk_Cache_r, .int .i64 w_Server_Store_Log_Segs, .sl 4 w_Server_Store_Log_Used_r, .int .i64 w_Server_Store_Log_NextGen, .int .i64 w_Server_Store_Log_NextSeq, .int .i64 w_Server_Store_Log_Stamp, .int .i64 w_Server_Store_Log_NextValid, .sl 1 w_Server_Store_Freed_r, .sl 17 w_Server_Sessions_r, .sl 1 w_Codes_r]]) (by subst hw_Server_Store_Log_Disk_Sectors_r hw_Server_Store_Log_Disk_Cache_r hw_Server_Store_Log_Used_r hw_Server_Store_Freed_r hw_Server_Sessions_r hw_Codes_r; rfl) ?_
  have hx : (List.length w_Server_Sessions : Int) ≤ 4611686018427387904 := hz _ (List.mem_append_left _ (List.mem_append_right _ (List.mem_append_left _ (List.mem_cons_self ..))))
  have hzs : ∀ x ∈ w_Server_Sessions, ∀ k ∈ zsSession x, (k : Int) ≤ 4611686018427387904 := fun x hx k hk => hz k (List.mem_append_left _ (List.mem_append_right _ (List.mem_append_left _ (List.mem_cons_of_mem _ (List.mem_flatMap.2 ⟨x, hx, hk⟩)))))
  refine real tyOk Try.func28 (by kernel_rfl) (afun_of rfl ?_)
  refine go_seq ?_
  refine go_reg ?_
  refine run_aops hA 2 _ _ _ _ (by cbv) ?_
  refine ops_done ?_
  refine go_seq ?_
  refine go_reg ?_
  refine run_aops hA 3 _ _ _ _ (by cbv) ?_
  obtain ⟨v6_1, hv6_1, hc2⟩ : ∃ (v6_1 : Bool), v6_1 = (List.any w_Server_Sessions sesBad) ∧ Real Try.prog 64 [.sl 17 w_Server_Sessions_r, .fn 65 []] (.bool v6_1) := ⟨_, rfl, by subst hw_Server_Sessions_r; exact r_ContainsFunc_ses A hA w_Server_Sessions hx hzs⟩
  refine ops_callV rfl rfl (by cbv) (by cbv) hc2 (.inr rfl) (by cbv) ?_
  refine run_aops hA 2 _ _ _ _ (by cbv) ?_
  refine ops_done ?_
  refine go_ret ⟨_, by cbv, ?_⟩
  show _ = (PV.bool (A.bnot v6_1))
  refine congrArg PV.bool ?_
  try simp only [slen_eq hA, lw_Server_Store_Log_Disk_Sectors_r, lw_Server_Store_Log_Disk_Cache_r, lw_Server_Store_Log_Used_r, lw_Server_Store_Freed_r, lw_Server_Sessions_r, lw_Codes_r] at *
  subst hv6_1
  subst hA
  simp [sesRight, std]

def S26_1 (p0 : Int) (p1 : List (List PV)) (p2 : List (List PV)) (p3 : Int) (p4 : List (List PV)) (p5 : Int) (p6 : Int) (p7 : Int) (p8 : Int) (p9 : List (List PV)) (p10 : List (List PV)) (p11 : List (List PV)) : St := { sl := [.bad, .pt 1 0 0, .bad, .int .i64 p0, .bad, .bad, .bad, .bad, .bad, .bad, .bad, .bad, .bad, .bad, .bad, .bad, .bad, .bad, .bad, .bad, .bad, .bad, .bad, .bad, .bad, .bad, .bad, .bad, .bad, .bad, .bad, .bad, .bad, .bad, .bad, .bad, .bad, .bad, .bad, .bad, .bad], bl := [(1, ⟨.var, 11, [[.sl 1 p1, .sl 2 p2, .int .i64 p3, .sl 4 p4, .int .i64 p5, .int .i64 p6, .int .i64 p7, .int .i64 p8, .sl 1 p9, .sl 17 p10, .sl 1 p11]]⟩)] }
theorem r_spec_SessionsRight (A : Alg) (hA : A = std) (w : GWorld) (hz : ∀ k ∈ zsWorld w, (k : Int) ≤ 4611686018427387904) : Real Try.prog 26 [.agg (eWorld w)] (.bool (sesRight w)) := by
  obtain ⟨⟨⟨⟨⟨w_Server_Store_Log_Disk_Sectors, w_Server_Store_Log_Disk_Cache⟩, w_Server_Store_Log_Segs, w_Server_Store_Log_Used, w_Server_Store_Log_NextGen, w_Server_Store_Log_NextSeq, w_Server_Store_Log_Stamp, w_Server_Store_Log_NextValid⟩, w_Server_Store_Freed⟩, w_Server_Sessions⟩, w_Codes⟩ := w
  obtain ⟨w_Server_Store_Log_Disk_Sectors_r, hw_Server_Store_Log_Disk_Sectors_r⟩ : ∃ r, r = w_Server_Store_Log_Disk_Sectors.map eString := ⟨_, rfl⟩
  have lw_Server_Store_Log_Disk_Sectors_r : A.rlen w_Server_Store_Log_Disk_Sectors_r = (List.length w_Server_Store_Log_Disk_Sectors : Int) := rlen_map hA hw_Server_Store_Log_Disk_Sectors_r
  obtain ⟨w_Server_Store_Log_Disk_Cache_r, hw_Server_Store_Log_Disk_Cache_r⟩ : ∃ r, r = w_Server_Store_Log_Disk_Cache.map eWrite := ⟨_, rfl⟩
  have lw_Server_Store_Log_Disk_Cache_r : A.rlen w_Server_Store_Log_Disk_Cache_r = (List.length w_Server_Store_Log_Disk_Cache : Int) := rlen_map hA hw_Server_Store_Log_Disk_Cache_r
  obtain ⟨w_Server_Store_Log_Used_r, hw_Server_Store_Log_Used_r⟩ : ∃ r, r = w_Server_Store_Log_Used.map eSeg := ⟨_, rfl⟩
  have lw_Server_Store_Log_Used_r : A.rlen w_Server_Store_Log_Used_r = (List.length w_Server_Store_Log_Used : Int) := rlen_map hA hw_Server_Store_Log_Used_r
  obtain ⟨w_Server_Store_Freed_r, hw_Server_Store_Freed_r⟩ : ∃ r, r = w_Server_Store_Freed.map eInt := ⟨_, rfl⟩
  have lw_Server_Store_Freed_r : A.rlen w_Server_Store_Freed_r = (List.length w_Server_Store_Freed : Int) := rlen_map hA hw_Server_Store_Freed_r
  obtain ⟨w_Server_Sessions_r, hw_Server_Sessions_r⟩ : ∃ r, r = w_Server_Sessions.map eSession := ⟨_, rfl⟩
  have lw_Server_Sessions_r : A.rlen w_Server_Sessions_r = (List.length w_Server_Sessions : Int) := rlen_map hA hw_Server_Sessions_r
  obtain ⟨w_Codes_r, hw_Codes_r⟩ : ∃ r, r = w_Codes.map eInt := ⟨_, rfl⟩
  have lw_Codes_r : A.rlen w_Codes_r = (List.length w_Codes : Int) := rlen_map hA hw_Codes_r
  refine real_args (args' := [.agg [.sl 1 w_Server_Store_Log_Disk_Sectors_r, .sl 2 w_Server_Store_Log_Disk_Cache_r, .int .i64 w_Server_Store_Log_Segs, .sl 4 w_Server_Store_Log_Used_r, .int .i64 w_Server_Store_Log_NextGen, .int .i64 w_Server_Store_Log_NextSeq, .int .i64 w_Server_Store_Log_Stamp, .int .i64 w_Server_Store_Log_NextValid, .sl 1 w_Server_Store_Freed_r, .sl 17 w_Server_Sessions_r, .sl 1 w_Codes_r]]) (by subst hw_Server_Store_Log_Disk_Sectors_r hw_Server_Store_Log_Disk_Cache_r hw_Server_Store_Log_Used_r hw_Server_Store_Freed_r hw_Server_Sessions_r hw_Codes_r; rfl) ?_
  have hx : (List.length w_Server_Sessions : Int) ≤ 4611686018427387904 := hz _ (List.mem_append_left _ (List.mem_append_right _ (List.mem_append_left _ (List.mem_cons_self ..))))
  have hzs : ∀ x ∈ w_Server_Sessions, ∀ k ∈ zsSession x, (k : Int) ≤ 4611686018427387904 := fun x hx k hk => hz k (List.mem_append_left _ (List.mem_append_right _ (List.mem_append_left _ (List.mem_cons_of_mem _ (List.mem_flatMap.2 ⟨x, hx, hk⟩)))))
  refine real tyOk Try.func26 (by kernel_rfl) (afun_of rfl ?_)
  refine go_seq ?_
  refine go_reg ?_
  refine run_aops hA 2 _ _ _ _ (by cbv) ?_
  refine ops_done ?_
  refine go_seq ?_
  refine go_seq ?_
  refine go_reg ?_
  refine run_aops hA 1 _ _ _ _ (by cbv) ?_
  refine ops_done ?_
  refine go_block ?_
  refine go_loopE (fun σ m => ∃ (i : Nat) (n : Int), σ = (S26_1 n w_Server_Store_Log_Disk_Sectors_r w_Server_Store_Log_Disk_Cache_r w_Server_Store_Log_Segs w_Server_Store_Log_Used_r w_Server_Store_Log_NextGen w_Server_Store_Log_NextSeq w_Server_Store_Log_Stamp w_Server_Store_Log_NextValid w_Server_Store_Freed_r w_Server_Sessions_r w_Codes_r) ∧ (n = (i : Int) ∧ i ≤ List.length w_Server_Sessions ∧ List.any w_Server_Sessions sesBad = List.any (w_Server_Sessions.drop i) sesBad) ∧ m = List.length w_Server_Sessions - i) _ [] [1, 3] [1] (S26_1 0 w_Server_Store_Log_Disk_Sectors_r w_Server_Store_Log_Disk_Cache_r w_Server_Store_Log_Segs w_Server_Store_Log_Used_r w_Server_Store_Log_NextGen w_Server_Store_Log_NextSeq w_Server_Store_Log_Stamp w_Server_Store_Log_NextValid w_Server_Store_Freed_r w_Server_Sessions_r w_Codes_r) rfl (by cbv) ⟨0, 0, rfl, ?_, rfl⟩ (fun σ m hI => ?_)
  · skip
    exact ⟨rfl, Nat.zero_le _, rfl⟩
  obtain ⟨i, n, rfl, ⟨hn, hi, hE⟩, rfl⟩ := hI
  refine go_seq ?_
  refine go_seq ?_
  refine go_reg ?_
  refine run_aops hA 6 _ _ _ _ (by cbv) ?_
  refine ops_done ?_
  refine go_cond rfl (fun c1 => ?_) (fun c1 => ?_)
  · skip
    have ec1 : n < (A.rlen w_Server_Sessions_r) := lss_t hA c1
    refine go_skip ?_
    refine go_seq ?_
    refine go_block ?_
    refine go_seq ?_
    refine go_reg ?_
    refine run_aops hA 4 _ _ _ _ (by cbv) ?_
    have h0x2 : (0 : Int) ≤ n := by
      omega
    have hlx2 : (Int.toNat n) < List.length w_Server_Sessions := by
      omega
    obtain ⟨x2, hx2⟩ : ∃ x, (w_Server_Sessions)[(Int.toNat n)]? = some x := ⟨_, List.getElem?_eq_getElem hlx2⟩
    have hmx2 := List.mem_of_getElem? hx2
    obtain ⟨x2_Kind, x2_In, x2_Out, x2_Over, ⟨x2_Bring_State, x2_Bring_From, x2_Bring_To, x2_Bring_Data⟩, ⟨x2_Fetch_State, x2_Fetch_User, x2_Fetch_Mails, x2_Fetch_Gone⟩, ⟨x2_Look_State, x2_Look_User, x2_Look_Box, x2_Look_Valid, x2_Look_Uids⟩⟩ := x2
    obtain ⟨x2_Bring_To_r, hx2_Bring_To_r⟩ : ∃ r, r = x2_Bring_To.map eString := ⟨_, rfl⟩
    have lx2_Bring_To_r : A.rlen x2_Bring_To_r = (List.length x2_Bring_To : Int) := rlen_map hA hx2_Bring_To_r
    obtain ⟨x2_Bring_Data_r, hx2_Bring_Data_r⟩ : ∃ r, r = x2_Bring_Data.map eString := ⟨_, rfl⟩
    have lx2_Bring_Data_r : A.rlen x2_Bring_Data_r = (List.length x2_Bring_Data : Int) := rlen_map hA hx2_Bring_Data_r
    obtain ⟨x2_Fetch_Mails_r, hx2_Fetch_Mails_r⟩ : ∃ r, r = x2_Fetch_Mails.map eMail := ⟨_, rfl⟩
    have lx2_Fetch_Mails_r : A.rlen x2_Fetch_Mails_r = (List.length x2_Fetch_Mails : Int) := rlen_map hA hx2_Fetch_Mails_r
    obtain ⟨x2_Fetch_Gone_r, hx2_Fetch_Gone_r⟩ : ∃ r, r = x2_Fetch_Gone.map eBool := ⟨_, rfl⟩
    have lx2_Fetch_Gone_r : A.rlen x2_Fetch_Gone_r = (List.length x2_Fetch_Gone : Int) := rlen_map hA hx2_Fetch_Gone_r
    obtain ⟨x2_Look_Uids_r, hx2_Look_Uids_r⟩ : ∃ r, r = x2_Look_Uids.map eInt := ⟨_, rfl⟩
    have lx2_Look_Uids_r : A.rlen x2_Look_Uids_r = (List.length x2_Look_Uids : Int) := rlen_map hA hx2_Look_Uids_r
    have hrx2 : w_Server_Sessions_r[(Int.toNat n)]? = some [.int .i64 x2_Kind, .str x2_In, .str x2_Out, .bool x2_Over, .int .i64 x2_Bring_State, .str x2_Bring_From, .sl 1 x2_Bring_To_r, .sl 1 x2_Bring_Data_r, .int .i64 x2_Fetch_State, .str x2_Fetch_User, .sl 3 x2_Fetch_Mails_r, .sl 1 x2_Fetch_Gone_r, .int .i64 x2_Look_State, .str x2_Look_User, .str x2_Look_Box, .int .i64 x2_Look_Valid, .sl 1 x2_Look_Uids_r] := by
      subst hx2_Bring_To_r hx2_Bring_Data_r hx2_Fetch_Mails_r hx2_Fetch_Gone_r hx2_Look_Uids_r; exact map_at eSession hw_Server_Sessions_r hx2
    have hix2 := hx2
    rw [hn] at hix2
    have hix2 : (w_Server_Sessions)[i]? = some (⟨x2_Kind, x2_In, x2_Out, x2_Over, ⟨x2_Bring_State, x2_Bring_From, x2_Bring_To, x2_Bring_Data⟩, ⟨x2_Fetch_State, x2_Fetch_User, x2_Fetch_Mails, x2_Fetch_Gone⟩, ⟨x2_Look_State, x2_Look_User, x2_Look_Box, x2_Look_Valid, x2_Look_Uids⟩⟩ : GSession) := hix2
    have zS := hzs _ hmx2
    have zB : ∀ k ∈ zsBring (GSession.Bring (⟨x2_Kind, x2_In, x2_Out, x2_Over, ⟨x2_Bring_State, x2_Bring_From, x2_Bring_To, x2_Bring_Data⟩, ⟨x2_Fetch_State, x2_Fetch_User, x2_Fetch_Mails, x2_Fetch_Gone⟩, ⟨x2_Look_State, x2_Look_User, x2_Look_Box, x2_Look_Valid, x2_Look_Uids⟩⟩ : GSession)), (k : Int) ≤ 4611686018427387904 := fun k hk => zS k (List.mem_append_right _ (List.mem_append_right _ (List.mem_append_left _ hk)))
    have zFe : ∀ k ∈ zsFetch (GSession.Fetch (⟨x2_Kind, x2_In, x2_Out, x2_Over, ⟨x2_Bring_State, x2_Bring_From, x2_Bring_To, x2_Bring_Data⟩, ⟨x2_Fetch_State, x2_Fetch_User, x2_Fetch_Mails, x2_Fetch_Gone⟩, ⟨x2_Look_State, x2_Look_User, x2_Look_Box, x2_Look_Valid, x2_Look_Uids⟩⟩ : GSession)), (k : Int) ≤ 4611686018427387904 := fun k hk => zS k (List.mem_append_right _ (List.mem_append_right _ (List.mem_append_right _ (List.mem_append_left _ hk))))
    have zLo : ∀ k ∈ zsLook (GSession.Look (⟨x2_Kind, x2_In, x2_Out, x2_Over, ⟨x2_Bring_State, x2_Bring_From, x2_Bring_To, x2_Bring_Data⟩, ⟨x2_Fetch_State, x2_Fetch_User, x2_Fetch_Mails, x2_Fetch_Gone⟩, ⟨x2_Look_State, x2_Look_User, x2_Look_Box, x2_Look_Valid, x2_Look_Uids⟩⟩ : GSession)), (k : Int) ≤ 4611686018427387904 := fun k hk => zS k (List.mem_append_right _ (List.mem_append_right _ (List.mem_append_right _ (List.mem_append_right _ (List.mem_append_left _ hk)))))
    refine ops_step rfl rfl (idx_sl rfl rfl rfl rfl rfl h0x2 rfl hrx2) ?_
    refine run_aops hA 3 _ _ _ _ (by cbv) ?_
    refine ops_done ?_
    refine go_seq ?_
    refine go_reg ?_
    refine run_aops hA 2 _ _ _ _ (by cbv) ?_
    obtain ⟨v21_3, hv21_3, hc4⟩ : ∃ (v21_3 : Bool), v21_3 = (bringOk (⟨x2_Bring_State, x2_Bring_From, x2_Bring_To, x2_Bring_Data⟩ : GBring)) ∧ Real Try.prog 59 [.agg [.int .i64 x2_Bring_State, .str x2_Bring_From, .sl 1 x2_Bring_To_r, .sl 1 x2_Bring_Data_r]] (.bool v21_3) := ⟨_, rfl, by subst hx2_Bring_To_r hx2_Bring_Data_r; exact r_spec_BringOk A hA (⟨x2_Bring_State, x2_Bring_From, x2_Bring_To, x2_Bring_Data⟩ : GBring) zB⟩
    refine ops_callV rfl rfl (by cbv) (by cbv) hc4 (.inr rfl) (by cbv) ?_
    refine run_aops hA 2 _ _ _ _ (by cbv) ?_
    refine ops_split 23 rfl (fun c5 => ?_) (fun c5 => ?_)
    · skip
      have c6 : v21_3 = false := bnot_t hA c5
      refine run_aops hA 17 _ _ _ _ (by cbv) ?_
      refine ops_done ?_
      refine go_cond rfl (fun c7 => ?_) (fun c7 => ?_)
      · skip
        refine go_seq ?_
        refine go_reg ?_
        refine run_aops hA 1 _ _ _ _ (by cbv) ?_
        refine ops_done ?_
        refine go_ret ⟨_, by cbv, ?_⟩
        show _ = (PV.bool false)
        refine congrArg PV.bool ?_
        try simp only [slen_eq hA, lw_Server_Store_Log_Disk_Sectors_r, lw_Server_Store_Log_Disk_Cache_r, lw_Server_Store_Log_Used_r, lw_Server_Store_Freed_r, lw_Server_Sessions_r, lw_Codes_r, lx2_Bring_To_r, lx2_Bring_Data_r, lx2_Fetch_Mails_r, lx2_Fetch_Gone_r, lx2_Look_Uids_r] at *
        subst hv21_3
        have hD : List.any w_Server_Sessions sesBad = true := by
          rw [hE, any_at hix2]
          simp [sesBad, ec1, c6]
        subst hA
        simp [sesRight, hD, std, ec1, c6]
      · skip
        exact absurd (show true = false from c7) (by rw [show true = true from by rfl]; decide)
    · skip
      have c8 : v21_3 = true := bnot_f hA c5
      refine run_aops hA 2 _ _ _ _ (by cbv) ?_
      obtain ⟨v26_9, hv26_9, hc10⟩ : ∃ (v26_9 : Bool), v26_9 = (fetchOk (⟨x2_Fetch_State, x2_Fetch_User, x2_Fetch_Mails, x2_Fetch_Gone⟩ : GFetch)) ∧ Real Try.prog 60 [.agg [.int .i64 x2_Fetch_State, .str x2_Fetch_User, .sl 3 x2_Fetch_Mails_r, .sl 1 x2_Fetch_Gone_r]] (.bool v26_9) := ⟨_, rfl, by subst hx2_Fetch_Mails_r hx2_Fetch_Gone_r; exact r_spec_FetchOk A hA (⟨x2_Fetch_State, x2_Fetch_User, x2_Fetch_Mails, x2_Fetch_Gone⟩ : GFetch) zFe⟩
      refine ops_callG rfl rfl rfl rfl (by cbv) (by cbv) hc10 (.inr rfl) (by cbv) ?_
      refine run_aops hA 3 _ _ _ _ (by cbv) ?_
      refine ops_split 29 rfl (fun c11 => ?_) (fun c11 => ?_)
      · skip
        have c12 : v26_9 = false := bnot_t hA c11
        refine run_aops hA 11 _ _ _ _ (by cbv) ?_
        refine ops_done ?_
        refine go_cond rfl (fun c13 => ?_) (fun c13 => ?_)
        · skip
          refine go_seq ?_
          refine go_reg ?_
          refine run_aops hA 1 _ _ _ _ (by cbv) ?_
          refine ops_done ?_
          refine go_ret ⟨_, by cbv, ?_⟩
          show _ = (PV.bool false)
          refine congrArg PV.bool ?_
          try simp only [slen_eq hA, lw_Server_Store_Log_Disk_Sectors_r, lw_Server_Store_Log_Disk_Cache_r, lw_Server_Store_Log_Used_r, lw_Server_Store_Freed_r, lw_Server_Sessions_r, lw_Codes_r, lx2_Bring_To_r, lx2_Bring_Data_r, lx2_Fetch_Mails_r, lx2_Fetch_Gone_r, lx2_Look_Uids_r] at *
          subst hv26_9 hv21_3
          have hD : List.any w_Server_Sessions sesBad = true := by
            rw [hE, any_at hix2]
            simp [sesBad, ec1, c8, c12]
          subst hA
          simp [sesRight, hD, std, ec1, c8, c12]
        · skip
          exact absurd (show true = false from c13) (by rw [show true = true from by rfl]; decide)
      · skip
        have c14 : v26_9 = true := bnot_f hA c11
        refine run_aops hA 2 _ _ _ _ (by cbv) ?_
        obtain ⟨v32_15, hv32_15, hc16⟩ : ∃ (v32_15 : Bool), v32_15 = (lookOk (⟨x2_Look_State, x2_Look_User, x2_Look_Box, x2_Look_Valid, x2_Look_Uids⟩ : GLook)) ∧ Real Try.prog 61 [.agg [.int .i64 x2_Look_State, .str x2_Look_User, .str x2_Look_Box, .int .i64 x2_Look_Valid, .sl 1 x2_Look_Uids_r]] (.bool v32_15) := ⟨_, rfl, by subst hx2_Look_Uids_r; exact r_spec_LookOk A hA (⟨x2_Look_State, x2_Look_User, x2_Look_Box, x2_Look_Valid, x2_Look_Uids⟩ : GLook) zLo⟩
        refine ops_callG rfl rfl rfl rfl (by cbv) (by cbv) hc16 (.inr rfl) (by cbv) ?_
        refine run_aops hA 3 _ _ _ _ (by cbv) ?_
        refine ops_split 35 rfl (fun c17 => ?_) (fun c17 => ?_)
        · skip
          have c18 : v32_15 = false := bnot_t hA c17
          refine run_aops hA 5 _ _ _ _ (by cbv) ?_
          refine ops_done ?_
          refine go_cond rfl (fun c19 => ?_) (fun c19 => ?_)
          · skip
            refine go_seq ?_
            refine go_reg ?_
            refine run_aops hA 1 _ _ _ _ (by cbv) ?_
            refine ops_done ?_
            refine go_ret ⟨_, by cbv, ?_⟩
            show _ = (PV.bool false)
            refine congrArg PV.bool ?_
            try simp only [slen_eq hA, lw_Server_Store_Log_Disk_Sectors_r, lw_Server_Store_Log_Disk_Cache_r, lw_Server_Store_Log_Used_r, lw_Server_Store_Freed_r, lw_Server_Sessions_r, lw_Codes_r, lx2_Bring_To_r, lx2_Bring_Data_r, lx2_Fetch_Mails_r, lx2_Fetch_Gone_r, lx2_Look_Uids_r] at *
            subst hv32_15 hv26_9 hv21_3
            have hD : List.any w_Server_Sessions sesBad = true := by
              rw [hE, any_at hix2]
              simp [sesBad, ec1, c8, c14, c18]
            subst hA
            simp [sesRight, hD, std, ec1, c8, c14, c18]
          · skip
            exact absurd (show true = false from c19) (by rw [show true = true from by rfl]; decide)
        · skip
          have c20 : v32_15 = true := bnot_f hA c17
          refine run_aops hA 5 _ _ _ _ (by cbv) ?_
          refine ops_done ?_
          refine go_cond rfl (fun c21 => ?_) (fun c21 => ?_)
          · skip
            have ec21 : 400 < (A.slen x2_In) := gtr_t hA c21
            refine go_seq ?_
            refine go_reg ?_
            refine run_aops hA 1 _ _ _ _ (by cbv) ?_
            refine ops_done ?_
            refine go_ret ⟨_, by cbv, ?_⟩
            show _ = (PV.bool false)
            refine congrArg PV.bool ?_
            try simp only [slen_eq hA, lw_Server_Store_Log_Disk_Sectors_r, lw_Server_Store_Log_Disk_Cache_r, lw_Server_Store_Log_Used_r, lw_Server_Store_Freed_r, lw_Server_Sessions_r, lw_Codes_r, lx2_Bring_To_r, lx2_Bring_Data_r, lx2_Fetch_Mails_r, lx2_Fetch_Gone_r, lx2_Look_Uids_r] at *
            subst hv32_15 hv26_9 hv21_3
            have hD : List.any w_Server_Sessions sesBad = true := by
              rw [hE, any_at hix2]
              simp [sesBad, ec1, c8, c14, c20, ec21]
            subst hA
            simp [sesRight, hD, std, ec1, c8, c14, c20, ec21]
          · skip
            have ec21 : (A.slen x2_In) ≤ 400 := gtr_f hA c21
            refine go_skip ?_
            refine go_reg ?_
            refine run_aops hA 3 _ _ _ _ (by cbv) ?_
            refine ops_done ?_
            refine ⟨(S26_1 (A.num .add .i64 n 1) w_Server_Store_Log_Disk_Sectors_r w_Server_Store_Log_Disk_Cache_r w_Server_Store_Log_Segs w_Server_Store_Log_Used_r w_Server_Store_Log_NextGen w_Server_Store_Log_NextSeq w_Server_Store_Log_Stamp w_Server_Store_Log_NextValid w_Server_Store_Freed_r w_Server_Sessions_r w_Codes_r), List.length w_Server_Sessions - (i + 1), ?_, by cbv, i + 1, (A.num .add .i64 n 1), rfl, ?_, rfl⟩
            · skip
              omega
            · skip
              try simp only [slen_eq hA, lw_Server_Store_Log_Disk_Sectors_r, lw_Server_Store_Log_Disk_Cache_r, lw_Server_Store_Log_Used_r, lw_Server_Store_Freed_r, lw_Server_Sessions_r, lw_Codes_r, lx2_Bring_To_r, lx2_Bring_Data_r, lx2_Fetch_Mails_r, lx2_Fetch_Gone_r, lx2_Look_Uids_r] at *
              subst hv32_15 hv26_9 hv21_3
              refine ⟨by rw [add_i64 hA (by omega) (by omega)]; omega, by omega, ?_⟩
              rw [hE, any_at hix2]
              simp [sesBad, ec1, c8, c14, c20, ec21, Int.not_lt.2 ec21]
  · skip
    have ec1 : (A.rlen w_Server_Sessions_r) ≤ n := lss_f hA c1
    refine go_exit ⟨fun _ => ?_, fun h => absurd rfl h⟩
    refine go_seq ?_
    refine go_reg ?_
    refine run_aops hA 1 _ _ _ _ (by cbv) ?_
    refine ops_done ?_
    refine go_ret ⟨_, by cbv, ?_⟩
    show _ = (PV.bool true)
    refine congrArg PV.bool ?_
    try simp only [slen_eq hA, lw_Server_Store_Log_Disk_Sectors_r, lw_Server_Store_Log_Disk_Cache_r, lw_Server_Store_Log_Used_r, lw_Server_Store_Freed_r, lw_Server_Sessions_r, lw_Codes_r] at *
    have hD : List.any w_Server_Sessions sesBad = false := by rw [hE, List.drop_of_length_le (by omega)]; rfl
    subst hA
    simp [sesRight, hD, std, ec1, Int.not_lt.2 ec1]
end Go.Av
