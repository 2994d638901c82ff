/- Walks: SameTalk. -/
import Derived.Test.YtjbokkoiicoahaaK1
import Derived.Test.YtjbokkoiicoahaaK2
import Derived.Test.YtjbokkoiicoahaaK3
namespace Go.Av
open Go Go.Proofs
set_option maxRecDepth 100000
set_option maxHeartbeats 4000000
set_option linter.unusedVariables false
set_option linter.unusedSimpArgs false
def stk (a b : GSession) : Bool := decide (a.Kind = b.Kind ∧ a.In = b.In ∧ a.Out = b.Out ∧ a.Over = b.Over)

def S21_1 (p0 : List (List PV)) (p1 : List (List PV)) (p2 : Int) : St := { sl := [.sl 17 p0, .sl 17 p1, .bad, .bad, .bad, .int .i64 p2, .bad, .bad, .bad, .bad, .bad, .bad, .bad, .bad, .bad, .bad, .bad, .bad, .bad, .bad, .bad, .bad, .bad, .bad, .bad, .bad, .bad, .bad, .bad, .bad, .bad, .bad, .bad, .bad, .bad, .bad, .bad, .bad, .bad, .bad, .bad, .bad, .bad, .bad, .bad, .bad, .bad, .bad, .bad, .bad, .bad, .bad, .bad, .bad, .bad, .bad, .bad, .bad, .bad, .bad, .bad, .bad, .bad, .bad, .bad, .bad, .bad], bl := [] }
theorem r_spec_SameTalk (A : Alg) (hA : A = std) (xs : List GSession) (ys : List GSession) (hx : (List.length xs : Int) ≤ 4611686018427387904)  : Real Try.prog 21 [.sl 17 (List.map eSession xs), .sl 17 (List.map eSession ys)] (.bool (eqFunc stk xs ys)) := by
  obtain ⟨xs_r, hxs_r⟩ : ∃ r, r = xs.map eSession := ⟨_, rfl⟩
  have lxs_r : A.rlen xs_r = (List.length xs : Int) := rlen_map hA hxs_r
  obtain ⟨ys_r, hys_r⟩ : ∃ r, r = ys.map eSession := ⟨_, rfl⟩
  have lys_r : A.rlen ys_r = (List.length ys : Int) := rlen_map hA hys_r
  refine real_args (args' := [.sl 17 xs_r, .sl 17 ys_r]) (by subst hxs_r hys_r; rfl) ?_
  refine real tyOk Try.func21 (by kernel_rfl) (afun_of rfl ?_)
  refine go_seq ?_
  refine go_reg ?_
  refine run_aops hA 1 _ _ _ _ (by cbv) ?_
  refine ops_done ?_
  refine go_seq ?_
  refine go_seq ?_
  refine go_reg ?_
  refine run_aops hA 5 _ _ _ _ (by cbv) ?_
  refine ops_done ?_
  refine go_cond rfl (fun c1 => ?_) (fun c1 => ?_)
  · skip
    have ec1 : (A.rlen xs_r) ≠ (A.rlen ys_r) := neq_t hA c1
    refine go_seq ?_
    refine go_reg ?_
    refine run_aops hA 1 _ _ _ _ (by cbv) ?_
    refine ops_done ?_
    refine go_ret ⟨_, by cbv, ?_⟩
    show _ = (PV.bool false)
    refine congrArg PV.bool ?_
    exact eqFunc_len _ _ _ (by omega)
  · skip
    have ec1 : (A.rlen xs_r) = (A.rlen ys_r) := neq_f hA c1
    refine go_skip ?_
    refine go_seq ?_
    refine go_seq ?_
    refine go_reg ?_
    refine run_aops hA 1 _ _ _ _ (by cbv) ?_
    refine ops_done ?_
    refine go_block ?_
    refine go_loopE (fun σ m => ∃ (i : Nat) (n : Int), σ = (S21_1 xs_r ys_r n) ∧ (n = (i : Int) ∧ i ≤ List.length xs ∧ eqFunc stk xs ys = eqFunc stk (xs.drop i) (ys.drop i)) ∧ m = List.length xs - i) _ [] [0, 1, 5] [] (S21_1 xs_r ys_r 0) rfl (by cbv) ⟨0, 0, rfl, ?_, rfl⟩ (fun σ m hI => ?_)
    · skip
      exact ⟨rfl, Nat.zero_le _, rfl⟩
    obtain ⟨i, n, rfl, ⟨hn, hi, hE⟩, rfl⟩ := hI
    refine go_seq ?_
    refine go_seq ?_
    refine go_reg ?_
    refine run_aops hA 4 _ _ _ _ (by cbv) ?_
    refine ops_done ?_
    refine go_cond rfl (fun c2 => ?_) (fun c2 => ?_)
    · skip
      have ec2 : n < (A.rlen xs_r) := lss_t hA c2
      refine go_skip ?_
      refine go_seq ?_
      refine go_block ?_
      refine go_seq ?_
      refine go_draw (by cbv) ?_
      refine run_dops hA 2 _ _ _ _ (by cbv) ?_
      have h0x3 : (0 : Int) ≤ n := by
        omega
      have hlx3 : (Int.toNat n) < List.length xs := by
        omega
      obtain ⟨x3, hx3⟩ : ∃ x, (xs)[(Int.toNat n)]? = some x := ⟨_, List.getElem?_eq_getElem hlx3⟩
      have hmx3 := List.mem_of_getElem? hx3
      obtain ⟨x3_Kind, x3_In, x3_Out, x3_Over, ⟨x3_Bring_State, x3_Bring_From, x3_Bring_To, x3_Bring_Data⟩, ⟨x3_Fetch_State, x3_Fetch_User, x3_Fetch_Mails, x3_Fetch_Gone⟩, ⟨x3_Look_State, x3_Look_User, x3_Look_Box, x3_Look_Valid, x3_Look_Uids⟩⟩ := x3
      obtain ⟨x3_Bring_To_r, hx3_Bring_To_r⟩ : ∃ r, r = x3_Bring_To.map eString := ⟨_, rfl⟩
      have lx3_Bring_To_r : A.rlen x3_Bring_To_r = (List.length x3_Bring_To : Int) := rlen_map hA hx3_Bring_To_r
      obtain ⟨x3_Bring_Data_r, hx3_Bring_Data_r⟩ : ∃ r, r = x3_Bring_Data.map eString := ⟨_, rfl⟩
      have lx3_Bring_Data_r : A.rlen x3_Bring_Data_r = (List.length x3_Bring_Data : Int) := rlen_map hA hx3_Bring_Data_r
      obtain ⟨x3_Fetch_Mails_r, hx3_Fetch_Mails_r⟩ : ∃ r, r = x3_Fetch_Mails.map eMail := ⟨_, rfl⟩
      have lx3_Fetch_Mails_r : A.rlen x3_Fetch_Mails_r = (List.length x3_Fetch_Mails : Int) := rlen_map hA hx3_Fetch_Mails_r
      obtain ⟨x3_Fetch_Gone_r, hx3_Fetch_Gone_r⟩ : ∃ r, r = x3_Fetch_Gone.map eBool := ⟨_, rfl⟩
      have lx3_Fetch_Gone_r : A.rlen x3_Fetch_Gone_r = (List.length x3_Fetch_Gone : Int) := rlen_map hA hx3_Fetch_Gone_r
      obtain ⟨x3_Look_Uids_r, hx3_Look_Uids_r⟩ : ∃ r, r = x3_Look_Uids.map eInt := ⟨_, rfl⟩
      have lx3_Look_Uids_r : A.rlen x3_Look_Uids_r = (List.length x3_Look_Uids : Int) := rlen_map hA hx3_Look_Uids_r
      have hrx3 : xs_r[(Int.toNat n)]? = some [.int .i64 x3_Kind, .str x3_In, .str x3_Out, .bool x3_Over, .int .i64 x3_Bring_State, .str x3_Bring_From, .sl 1 x3_Bring_To_r, .sl 1 x3_Bring_Data_r, .int .i64 x3_Fetch_State, .str x3_Fetch_User, .sl 3 x3_Fetch_Mails_r, .sl 1 x3_Fetch_Gone_r, .int .i64 x3_Look_State, .str x3_Look_User, .str x3_Look_Box, .int .i64 x3_Look_Valid, .sl 1 x3_Look_Uids_r] := by
        subst hx3_Bring_To_r hx3_Bring_Data_r hx3_Fetch_Mails_r hx3_Fetch_Gone_r hx3_Look_Uids_r; exact map_at eSession hxs_r hx3
      have hix3 := hx3
      rw [hn] at hix3
      have hix3 : (xs)[i]? = some (⟨x3_Kind, x3_In, x3_Out, x3_Over, ⟨x3_Bring_State, x3_Bring_From, x3_Bring_To, x3_Bring_Data⟩, ⟨x3_Fetch_State, x3_Fetch_User, x3_Fetch_Mails, x3_Fetch_Gone⟩, ⟨x3_Look_State, x3_Look_User, x3_Look_Box, x3_Look_Valid, x3_Look_Uids⟩⟩ : GSession) := hix3
      refine dops_step rfl rfl rfl (idx_sl rfl rfl rfl rfl rfl h0x3 rfl hrx3) ?_
      refine run_dops hA 4 _ _ _ _ (by cbv) ?_
      have h0x4 : (0 : Int) ≤ n := by
        omega
      have hlx4 : (Int.toNat n) < List.length ys := by
        omega
      obtain ⟨x4, hx4⟩ : ∃ x, (ys)[(Int.toNat n)]? = some x := ⟨_, List.getElem?_eq_getElem hlx4⟩
      have hmx4 := List.mem_of_getElem? hx4
      obtain ⟨x4_Kind, x4_In, x4_Out, x4_Over, ⟨x4_Bring_State, x4_Bring_From, x4_Bring_To, x4_Bring_Data⟩, ⟨x4_Fetch_State, x4_Fetch_User, x4_Fetch_Mails, x4_Fetch_Gone⟩, ⟨x4_Look_State, x4_Look_User, x4_Look_Box, x4_Look_Valid, x4_Look_Uids⟩⟩ := x4
      obtain ⟨x4_Bring_To_r, hx4_Bring_To_r⟩ : ∃ r, r = x4_Bring_To.map eString := ⟨_, rfl⟩
      have lx4_Bring_To_r : A.rlen x4_Bring_To_r = (List.length x4_Bring_To : Int) := rlen_map hA hx4_Bring_To_r
      obtain ⟨x4_Bring_Data_r, hx4_Bring_Data_r⟩ : ∃ r, r = x4_Bring_Data.map eString := ⟨_, rfl⟩
      have lx4_Bring_Data_r : A.rlen x4_Bring_Data_r = (List.length x4_Bring_Data : Int) := rlen_map hA hx4_Bring_Data_r
      obtain ⟨x4_Fetch_Mails_r, hx4_Fetch_Mails_r⟩ : ∃ r, r = x4_Fetch_Mails.map eMail := ⟨_, rfl⟩
      have lx4_Fetch_Mails_r : A.rlen x4_Fetch_Mails_r = (List.length x4_Fetch_Mails : Int) := rlen_map hA hx4_Fetch_Mails_r
      obtain ⟨x4_Fetch_Gone_r, hx4_Fetch_Gone_r⟩ : ∃ r, r = x4_Fetch_Gone.map eBool := ⟨_, rfl⟩
      have lx4_Fetch_Gone_r : A.rlen x4_Fetch_Gone_r = (List.length x4_Fetch_Gone : Int) := rlen_map hA hx4_Fetch_Gone_r
      obtain ⟨x4_Look_Uids_r, hx4_Look_Uids_r⟩ : ∃ r, r = x4_Look_Uids.map eInt := ⟨_, rfl⟩
      have lx4_Look_Uids_r : A.rlen x4_Look_Uids_r = (List.length x4_Look_Uids : Int) := rlen_map hA hx4_Look_Uids_r
      have hrx4 : ys_r[(Int.toNat n)]? = some [.int .i64 x4_Kind, .str x4_In, .str x4_Out, .bool x4_Over, .int .i64 x4_Bring_State, .str x4_Bring_From, .sl 1 x4_Bring_To_r, .sl 1 x4_Bring_Data_r, .int .i64 x4_Fetch_State, .str x4_Fetch_User, .sl 3 x4_Fetch_Mails_r, .sl 1 x4_Fetch_Gone_r, .int .i64 x4_Look_State, .str x4_Look_User, .str x4_Look_Box, .int .i64 x4_Look_Valid, .sl 1 x4_Look_Uids_r] := by
        subst hx4_Bring_To_r hx4_Bring_Data_r hx4_Fetch_Mails_r hx4_Fetch_Gone_r hx4_Look_Uids_r; exact map_at eSession hys_r hx4
      have hix4 := hx4
      rw [hn] at hix4
      have hix4 : (ys)[i]? = some (⟨x4_Kind, x4_In, x4_Out, x4_Over, ⟨x4_Bring_State, x4_Bring_From, x4_Bring_To, x4_Bring_Data⟩, ⟨x4_Fetch_State, x4_Fetch_User, x4_Fetch_Mails, x4_Fetch_Gone⟩, ⟨x4_Look_State, x4_Look_User, x4_Look_Box, x4_Look_Valid, x4_Look_Uids⟩⟩ : GSession) := hix4
      refine dops_step rfl rfl rfl (idx_sl rfl rfl rfl rfl rfl h0x4 rfl hrx4) ?_
      refine run_dops hA 4 _ _ _ _ (by cbv) ?_
      refine dops_split 28 rfl (fun c5 => ?_) (fun c5 => ?_)
      · skip
        have ec5 : x3_Kind ≠ x4_Kind := neq_t hA c5
        refine run_dops hA 38 _ _ _ _ (by cbv) ?_
        refine dops_done ?_
        refine go_cond rfl (fun c6 => ?_) (fun c6 => ?_)
        · skip
          refine go_seq ?_
          refine go_reg ?_
          refine run_aops hA 1 _ _ _ _ (by cbv) ?_
          refine ops_done ?_
          refine go_ret ⟨_, by cbv, ?_⟩
          show _ = (PV.bool false)
          refine congrArg PV.bool ?_
          rw [hE, eqFunc_at stk hix3 hix4]
          simp [stk, ec2, ec5]
        · skip
          exact absurd (show true = false from c6) (by rw [show true = true from by rfl]; decide)
      · skip
        have ec5 : x3_Kind = x4_Kind := neq_f hA c5
        refine run_dops hA 2 _ _ _ _ (by cbv) ?_
        refine dops_stepG rfl rfl rfl rfl rfl (idx_sl rfl rfl rfl rfl rfl h0x3 rfl hrx3) ?_
        refine run_dops hA 4 _ _ _ _ (by cbv) ?_
        refine dops_stepG rfl rfl rfl rfl rfl (idx_sl rfl rfl rfl rfl rfl h0x4 rfl hrx4) ?_
        refine run_dops hA 5 _ _ _ _ (by cbv) ?_
        refine dops_split 41 rfl (fun c7 => ?_) (fun c7 => ?_)
        · skip
          have ec7 : x3_In ≠ x4_In := sneq_t hA c7
          refine run_dops hA 25 _ _ _ _ (by cbv) ?_
          refine dops_done ?_
          refine go_cond rfl (fun c8 => ?_) (fun c8 => ?_)
          · skip
            refine go_seq ?_
            refine go_reg ?_
            refine run_aops hA 1 _ _ _ _ (by cbv) ?_
            refine ops_done ?_
            refine go_ret ⟨_, by cbv, ?_⟩
            show _ = (PV.bool false)
            refine congrArg PV.bool ?_
            rw [hE, eqFunc_at stk hix3 hix4]
            simp [stk, ec2, ec5, ec7]
          · skip
            exact absurd (show true = false from c8) (by rw [show true = true from by rfl]; decide)
        · skip
          have ec7 : x3_In = x4_In := sneq_f hA c7
          refine run_dops hA 2 _ _ _ _ (by cbv) ?_
          refine dops_stepG rfl rfl rfl rfl rfl (idx_sl rfl rfl rfl rfl rfl h0x3 rfl hrx3) ?_
          refine run_dops hA 4 _ _ _ _ (by cbv) ?_
          refine dops_stepG rfl rfl rfl rfl rfl (idx_sl rfl rfl rfl rfl rfl h0x4 rfl hrx4) ?_
          refine run_dops hA 5 _ _ _ _ (by cbv) ?_
          refine dops_split 54 rfl (fun c9 => ?_) (fun c9 => ?_)
          · skip
            have ec9 : x3_Out ≠ x4_Out := sneq_t hA c9
            refine run_dops hA 12 _ _ _ _ (by cbv) ?_
            refine dops_done ?_
            refine go_cond rfl (fun c10 => ?_) (fun c10 => ?_)
            · skip
              refine go_seq ?_
              refine go_reg ?_
              refine run_aops hA 1 _ _ _ _ (by cbv) ?_
              refine ops_done ?_
              refine go_ret ⟨_, by cbv, ?_⟩
              show _ = (PV.bool false)
              refine congrArg PV.bool ?_
              rw [hE, eqFunc_at stk hix3 hix4]
              simp [stk, ec2, ec5, ec7, ec9]
            · skip
              exact absurd (show true = false from c10) (by rw [show true = true from by rfl]; decide)
          · skip
            have ec9 : x3_Out = x4_Out := sneq_f hA c9
            refine run_dops hA 2 _ _ _ _ (by cbv) ?_
            refine dops_stepG rfl rfl rfl rfl rfl (idx_sl rfl rfl rfl rfl rfl h0x3 rfl hrx3) ?_
            refine run_dops hA 4 _ _ _ _ (by cbv) ?_
            refine dops_stepG rfl rfl rfl rfl rfl (idx_sl rfl rfl rfl rfl rfl h0x4 rfl hrx4) ?_
            refine run_dops hA 4 _ _ _ _ (by cbv) ?_
            refine dops_done ?_
            refine go_cond rfl (fun c11 => ?_) (fun c11 => ?_)
            · skip
              have c12 : (A.beq x3_Over x4_Over) = false := bnot_t hA c11
              have ec12 : x3_Over ≠ x4_Over := beq_f hA c12
              refine go_seq ?_
              refine go_reg ?_
              refine run_aops hA 1 _ _ _ _ (by cbv) ?_
              refine ops_done ?_
              refine go_ret ⟨_, by cbv, ?_⟩
              show _ = (PV.bool false)
              refine congrArg PV.bool ?_
              rw [hE, eqFunc_at stk hix3 hix4]
              simp [stk, ec2, ec5, ec7, ec9, ec12]
            · skip
              have c13 : (A.beq x3_Over x4_Over) = true := bnot_f hA c11
              have ec13 : x3_Over = x4_Over := beq_t hA c13
              refine go_skip ?_
              refine go_reg ?_
              refine run_aops hA 3 _ _ _ _ (by cbv) ?_
              refine ops_done ?_
              refine ⟨(S21_1 xs_r ys_r (A.num .add .i64 n 1)), List.length xs - (i + 1), ?_, by cbv, i + 1, (A.num .add .i64 n 1), rfl, ?_, rfl⟩
              · skip
                omega
              · skip
                refine ⟨by rw [add_i64 hA (by omega) (by omega)]; omega, by omega, ?_⟩
                rw [hE, eqFunc_at stk hix3 hix4]
                simp [stk, ec2, ec5, ec7, ec9, ec13]
    · skip
      have ec2 : (A.rlen xs_r) ≤ n := lss_f hA c2
      refine go_exit ⟨fun _ => ?_, fun h => absurd rfl h⟩
      refine go_seq ?_
      refine go_reg ?_
      refine run_aops hA 1 _ _ _ _ (by cbv) ?_
      refine ops_done ?_
      refine go_ret ⟨_, by cbv, ?_⟩
      show _ = (PV.bool true)
      refine congrArg PV.bool ?_
      rw [hE]; exact eqFunc_end _ (by omega) (by omega)

theorem r_impl_sameTalk (A : Alg) (hA : A = std) (a : GSession) (b : GSession)  : Real Try.prog 55 [.agg (eSession a), .agg (eSession b)] (.bool (stk a b)) := by
  obtain ⟨a_Kind, a_In, a_Out, a_Over, ⟨a_Bring_State, a_Bring_From, a_Bring_To, a_Bring_Data⟩, ⟨a_Fetch_State, a_Fetch_User, a_Fetch_Mails, a_Fetch_Gone⟩, ⟨a_Look_State, a_Look_User, a_Look_Box, a_Look_Valid, a_Look_Uids⟩⟩ := a
  obtain ⟨a_Bring_To_r, ha_Bring_To_r⟩ : ∃ r, r = a_Bring_To.map eString := ⟨_, rfl⟩
  have la_Bring_To_r : A.rlen a_Bring_To_r = (List.length a_Bring_To : Int) := rlen_map hA ha_Bring_To_r
  obtain ⟨a_Bring_Data_r, ha_Bring_Data_r⟩ : ∃ r, r = a_Bring_Data.map eString := ⟨_, rfl⟩
  have la_Bring_Data_r : A.rlen a_Bring_Data_r = (List.length a_Bring_Data : Int) := rlen_map hA ha_Bring_Data_r
  obtain ⟨a_Fetch_Mails_r, ha_Fetch_Mails_r⟩ : ∃ r, r = a_Fetch_Mails.map eMail := ⟨_, rfl⟩
  have la_Fetch_Mails_r : A.rlen a_Fetch_Mails_r = (List.length a_Fetch_Mails : Int) := rlen_map hA ha_Fetch_Mails_r
  obtain ⟨a_Fetch_Gone_r, ha_Fetch_Gone_r⟩ : ∃ r, r = a_Fetch_Gone.map eBool := ⟨_, rfl⟩
  have la_Fetch_Gone_r : A.rlen a_Fetch_Gone_r = (List.length a_Fetch_Gone : Int) := rlen_map hA ha_Fetch_Gone_r
  obtain ⟨a_Look_Uids_r, ha_Look_Uids_r⟩ : ∃ r, r = a_Look_Uids.map eInt := ⟨_, rfl⟩
  have la_Look_Uids_r : A.rlen a_Look_Uids_r = (List.length a_Look_Uids : Int) := rlen_map hA ha_Look_Uids_r
  obtain ⟨b_Kind, b_In, b_Out, b_Over, ⟨b_Bring_State, b_Bring_From, b_Bring_To, b_Bring_Data⟩, ⟨b_Fetch_State, b_Fetch_User, b_Fetch_Mails, b_Fetch_Gone⟩, ⟨b_Look_State, b_Look_User, b_Look_Box, b_Look_Valid, b_Look_Uids⟩⟩ := b
  obtain ⟨b_Bring_To_r, hb_Bring_To_r⟩ : ∃ r, r = b_Bring_To.map eString := ⟨_, rfl⟩
  have lb_Bring_To_r : A.rlen b_Bring_To_r = (List.length b_Bring_To : Int) := rlen_map hA hb_Bring_To_r
  obtain ⟨b_Bring_Data_r, hb_Bring_Data_r⟩ : ∃ r, r = b_Bring_Data.map eString := ⟨_, rfl⟩
  have lb_Bring_Data_r : A.rlen b_Bring_Data_r = (List.length b_Bring_Data : Int) := rlen_map hA hb_Bring_Data_r
  obtain ⟨b_Fetch_Mails_r, hb_Fetch_Mails_r⟩ : ∃ r, r = b_Fetch_Mails.map eMail := ⟨_, rfl⟩
  have lb_Fetch_Mails_r : A.rlen b_Fetch_Mails_r = (List.length b_Fetch_Mails : Int) := rlen_map hA hb_Fetch_Mails_r
  obtain ⟨b_Fetch_Gone_r, hb_Fetch_Gone_r⟩ : ∃ r, r = b_Fetch_Gone.map eBool := ⟨_, rfl⟩
  have lb_Fetch_Gone_r : A.rlen b_Fetch_Gone_r = (List.length b_Fetch_Gone : Int) := rlen_map hA hb_Fetch_Gone_r
  obtain ⟨b_Look_Uids_r, hb_Look_Uids_r⟩ : ∃ r, r = b_Look_Uids.map eInt := ⟨_, rfl⟩
  have lb_Look_Uids_r : A.rlen b_Look_Uids_r = (List.length b_Look_Uids : Int) := rlen_map hA hb_Look_Uids_r
  refine real_args (args' := [.agg [.int .i64 a_Kind, .str a_In, .str a_Out, .bool a_Over, .int .i64 a_Bring_State, .str a_Bring_From, .sl 1 a_Bring_To_r, .sl 1 a_Bring_Data_r, .int .i64 a_Fetch_State, .str a_Fetch_User, .sl 3 a_Fetch_Mails_r, .sl 1 a_Fetch_Gone_r, .int .i64 a_Look_State, .str a_Look_User, .str a_Look_Box, .int .i64 a_Look_Valid, .sl 1 a_Look_Uids_r], .agg [.int .i64 b_Kind, .str b_In, .str b_Out, .bool b_Over, .int .i64 b_Bring_State, .str b_Bring_From, .sl 1 b_Bring_To_r, .sl 1 b_Bring_Data_r, .int .i64 b_Fetch_State, .str b_Fetch_User, .sl 3 b_Fetch_Mails_r, .sl 1 b_Fetch_Gone_r, .int .i64 b_Look_State, .str b_Look_User, .str b_Look_Box, .int .i64 b_Look_Valid, .sl 1 b_Look_Uids_r]]) (by subst ha_Bring_To_r ha_Bring_Data_r ha_Fetch_Mails_r ha_Fetch_Gone_r ha_Look_Uids_r hb_Bring_To_r hb_Bring_Data_r hb_Fetch_Mails_r hb_Fetch_Gone_r hb_Look_Uids_r; rfl) ?_
  refine real tyOk Try.func55 (by kernel_rfl) (afun_of rfl ?_)
  refine go_seq ?_
  refine go_reg ?_
  refine run_aops hA 3 _ _ _ _ (by cbv) ?_
  refine ops_done ?_
  refine go_seq ?_
  refine go_reg ?_
  refine run_aops hA 6 _ _ _ _ (by cbv) ?_
  refine ops_split 10 rfl (fun c1 => ?_) (fun c1 => ?_)
  · skip
    have ec1 : a_Kind = b_Kind := eql_t hA c1
    refine run_aops hA 7 _ _ _ _ (by cbv) ?_
    refine ops_split 17 rfl (fun c2 => ?_) (fun c2 => ?_)
    · skip
      have ec2 : a_In = b_In := seql_t hA c2
      refine run_aops hA 7 _ _ _ _ (by cbv) ?_
      refine ops_split 24 rfl (fun c3 => ?_) (fun c3 => ?_)
      · skip
        have ec3 : a_Out = b_Out := seql_t hA c3
        refine run_aops hA 7 _ _ _ _ (by cbv) ?_
        refine ops_done ?_
        refine go_ret ⟨_, by cbv, ?_⟩
        show _ = (PV.bool (A.beq a_Over b_Over))
        refine congrArg PV.bool ?_
        subst hA
        simp [stk, std, Bool.beq_eq_decide_eq, ec1, ec2, ec3]
      · skip
        have ec3 : a_Out ≠ b_Out := seql_f hA c3
        refine run_aops hA 7 _ _ _ _ (by cbv) ?_
        refine ops_done ?_
        refine go_ret ⟨_, by cbv, ?_⟩
        show _ = (PV.bool false)
        refine congrArg PV.bool ?_
        subst hA
        simp [stk, std, Bool.beq_eq_decide_eq, ec1, ec2, ec3]
    · skip
      have ec2 : a_In ≠ b_In := seql_f hA c2
      refine run_aops hA 14 _ _ _ _ (by cbv) ?_
      refine ops_done ?_
      refine go_ret ⟨_, by cbv, ?_⟩
      show _ = (PV.bool false)
      refine congrArg PV.bool ?_
      subst hA
      simp [stk, std, Bool.beq_eq_decide_eq, ec1, ec2]
  · skip
    have ec1 : a_Kind ≠ b_Kind := eql_f hA c1
    refine run_aops hA 21 _ _ _ _ (by cbv) ?_
    refine ops_done ?_
    refine go_ret ⟨_, by cbv, ?_⟩
    show _ = (PV.bool false)
    refine congrArg PV.bool ?_
    subst hA
    simp [stk, std, Bool.beq_eq_decide_eq, ec1]

def S54_1 (p0 : List (List PV)) (p1 : List (List PV)) (p2 : Int) (p3 : Int) : St := { sl := [.bad, .sl 17 p0, .fn 55 [], .bad, .bad, .bad, .bad, .bad, .bad, .bad, .bad, .bad, .bad, .bad, .bad, .sl 17 p1, .int .i64 p2, .int .i64 p3, .bad, .bad, .bad, .bad, .bad, .bad, .bad, .bad, .bad, .bad, .bad, .bad, .bad, .bad], bl := [] }
theorem r_EqualFunc_Session (A : Alg) (hA : A = std) (xs : List GSession) (ys : List GSession) (hx : (List.length xs : Int) ≤ 4611686018427387904)  : Real Try.prog 54 [.sl 17 (List.map eSession xs), .sl 17 (List.map eSession ys), .fn 55 []] (.bool (eqFunc stk xs ys)) := by
  obtain ⟨xs_r, hxs_r⟩ : ∃ r, r = xs.map eSession := ⟨_, rfl⟩
  have lxs_r : A.rlen xs_r = (List.length xs : Int) := rlen_map hA hxs_r
  obtain ⟨ys_r, hys_r⟩ : ∃ r, r = ys.map eSession := ⟨_, rfl⟩
  have lys_r : A.rlen ys_r = (List.length ys : Int) := rlen_map hA hys_r
  refine real_args (args' := [.sl 17 xs_r, .sl 17 ys_r, .fn 55 []]) (by subst hxs_r hys_r; rfl) ?_
  refine real tyOk Try.func54 (by kernel_rfl) (afun_of rfl ?_)
  refine go_seq ?_
  refine go_reg ?_
  refine run_aops hA 1 _ _ _ _ (by cbv) ?_
  refine ops_done ?_
  refine go_seq ?_
  refine go_seq ?_
  refine go_reg ?_
  refine run_aops hA 5 _ _ _ _ (by cbv) ?_
  refine ops_done ?_
  refine go_cond rfl (fun c1 => ?_) (fun c1 => ?_)
  · skip
    have ec1 : (A.rlen xs_r) ≠ (A.rlen ys_r) := neq_t hA c1
    refine go_seq ?_
    refine go_reg ?_
    refine run_aops hA 1 _ _ _ _ (by cbv) ?_
    refine ops_done ?_
    refine go_ret ⟨_, by cbv, ?_⟩
    show _ = (PV.bool false)
    refine congrArg PV.bool ?_
    exact eqFunc_len _ _ _ (by omega)
  · skip
    have ec1 : (A.rlen xs_r) = (A.rlen ys_r) := neq_f hA c1
    refine go_skip ?_
    refine go_seq ?_
    refine go_seq ?_
    refine go_reg ?_
    refine run_aops hA 3 _ _ _ _ (by cbv) ?_
    refine ops_done ?_
    refine go_block ?_
    refine go_loopE (fun σ m => ∃ (i : Nat) (n : Int), σ = (S54_1 ys_r xs_r (A.rlen xs_r) n) ∧ (n = (i : Int) ∧ i ≤ List.length xs ∧ eqFunc stk xs ys = eqFunc stk (xs.drop i) (ys.drop i)) ∧ m = List.length xs - i) _ [] [1, 2, 15, 16, 17] [] (S54_1 ys_r xs_r (A.rlen xs_r) 0) rfl (by cbv) ⟨0, 0, rfl, ?_, rfl⟩ (fun σ m hI => ?_)
    · skip
      exact ⟨rfl, Nat.zero_le _, rfl⟩
    obtain ⟨i, n, rfl, ⟨hn, hi, hE⟩, rfl⟩ := hI
    refine go_seq ?_
    refine go_reg ?_
    refine run_aops hA 1 _ _ _ _ (by cbv) ?_
    refine ops_done ?_
    refine go_seq ?_
    refine go_cond rfl (fun c2 => ?_) (fun c2 => ?_)
    · skip
      have ec2 : n < (A.rlen xs_r) := lss_t hA c2
      refine go_skip ?_
      refine go_seq ?_
      refine go_block ?_
      refine go_seq ?_
      refine go_reg ?_
      refine run_aops hA 1 _ _ _ _ (by cbv) ?_
      have h0x3 : (0 : Int) ≤ n := by
        omega
      have hlx3 : (Int.toNat n) < List.length xs := by
        omega
      obtain ⟨x3, hx3⟩ : ∃ x, (xs)[(Int.toNat n)]? = some x := ⟨_, List.getElem?_eq_getElem hlx3⟩
      have hmx3 := List.mem_of_getElem? hx3
      obtain ⟨x3_Kind, x3_In, x3_Out, x3_Over, ⟨x3_Bring_State, x3_Bring_From, x3_Bring_To, x3_Bring_Data⟩, ⟨x3_Fetch_State, x3_Fetch_User, x3_Fetch_Mails, x3_Fetch_Gone⟩, ⟨x3_Look_State, x3_Look_User, x3_Look_Box, x3_Look_Valid, x3_Look_Uids⟩⟩ := x3
      obtain ⟨x3_Bring_To_r, hx3_Bring_To_r⟩ : ∃ r, r = x3_Bring_To.map eString := ⟨_, rfl⟩
      have lx3_Bring_To_r : A.rlen x3_Bring_To_r = (List.length x3_Bring_To : Int) := rlen_map hA hx3_Bring_To_r
      obtain ⟨x3_Bring_Data_r, hx3_Bring_Data_r⟩ : ∃ r, r = x3_Bring_Data.map eString := ⟨_, rfl⟩
      have lx3_Bring_Data_r : A.rlen x3_Bring_Data_r = (List.length x3_Bring_Data : Int) := rlen_map hA hx3_Bring_Data_r
      obtain ⟨x3_Fetch_Mails_r, hx3_Fetch_Mails_r⟩ : ∃ r, r = x3_Fetch_Mails.map eMail := ⟨_, rfl⟩
      have lx3_Fetch_Mails_r : A.rlen x3_Fetch_Mails_r = (List.length x3_Fetch_Mails : Int) := rlen_map hA hx3_Fetch_Mails_r
      obtain ⟨x3_Fetch_Gone_r, hx3_Fetch_Gone_r⟩ : ∃ r, r = x3_Fetch_Gone.map eBool := ⟨_, rfl⟩
      have lx3_Fetch_Gone_r : A.rlen x3_Fetch_Gone_r = (List.length x3_Fetch_Gone : Int) := rlen_map hA hx3_Fetch_Gone_r
      obtain ⟨x3_Look_Uids_r, hx3_Look_Uids_r⟩ : ∃ r, r = x3_Look_Uids.map eInt := ⟨_, rfl⟩
      have lx3_Look_Uids_r : A.rlen x3_Look_Uids_r = (List.length x3_Look_Uids : Int) := rlen_map hA hx3_Look_Uids_r
      have hrx3 : xs_r[(Int.toNat n)]? = some [.int .i64 x3_Kind, .str x3_In, .str x3_Out, .bool x3_Over, .int .i64 x3_Bring_State, .str x3_Bring_From, .sl 1 x3_Bring_To_r, .sl 1 x3_Bring_Data_r, .int .i64 x3_Fetch_State, .str x3_Fetch_User, .sl 3 x3_Fetch_Mails_r, .sl 1 x3_Fetch_Gone_r, .int .i64 x3_Look_State, .str x3_Look_User, .str x3_Look_Box, .int .i64 x3_Look_Valid, .sl 1 x3_Look_Uids_r] := by
        subst hx3_Bring_To_r hx3_Bring_Data_r hx3_Fetch_Mails_r hx3_Fetch_Gone_r hx3_Look_Uids_r; exact map_at eSession hxs_r hx3
      have hix3 := hx3
      rw [hn] at hix3
      have hix3 : (xs)[i]? = some (⟨x3_Kind, x3_In, x3_Out, x3_Over, ⟨x3_Bring_State, x3_Bring_From, x3_Bring_To, x3_Bring_Data⟩, ⟨x3_Fetch_State, x3_Fetch_User, x3_Fetch_Mails, x3_Fetch_Gone⟩, ⟨x3_Look_State, x3_Look_User, x3_Look_Box, x3_Look_Valid, x3_Look_Uids⟩⟩ : GSession) := hix3
      refine ops_step rfl rfl (idx_sl rfl rfl rfl rfl rfl h0x3 rfl hrx3) ?_
      refine run_aops hA 4 _ _ _ _ (by cbv) ?_
      refine ops_done ?_
      refine go_seq ?_
      refine go_reg ?_
      refine run_aops hA 2 _ _ _ _ (by cbv) ?_
      have h0x4 : (0 : Int) ≤ n := by
        omega
      have hlx4 : (Int.toNat n) < List.length ys := by
        omega
      obtain ⟨x4, hx4⟩ : ∃ x, (ys)[(Int.toNat n)]? = some x := ⟨_, List.getElem?_eq_getElem hlx4⟩
      have hmx4 := List.mem_of_getElem? hx4
      obtain ⟨x4_Kind, x4_In, x4_Out, x4_Over, ⟨x4_Bring_State, x4_Bring_From, x4_Bring_To, x4_Bring_Data⟩, ⟨x4_Fetch_State, x4_Fetch_User, x4_Fetch_Mails, x4_Fetch_Gone⟩, ⟨x4_Look_State, x4_Look_User, x4_Look_Box, x4_Look_Valid, x4_Look_Uids⟩⟩ := x4
      obtain ⟨x4_Bring_To_r, hx4_Bring_To_r⟩ : ∃ r, r = x4_Bring_To.map eString := ⟨_, rfl⟩
      have lx4_Bring_To_r : A.rlen x4_Bring_To_r = (List.length x4_Bring_To : Int) := rlen_map hA hx4_Bring_To_r
      obtain ⟨x4_Bring_Data_r, hx4_Bring_Data_r⟩ : ∃ r, r = x4_Bring_Data.map eString := ⟨_, rfl⟩
      have lx4_Bring_Data_r : A.rlen x4_Bring_Data_r = (List.length x4_Bring_Data : Int) := rlen_map hA hx4_Bring_Data_r
      obtain ⟨x4_Fetch_Mails_r, hx4_Fetch_Mails_r⟩ : ∃ r, r = x4_Fetch_Mails.map eMail := ⟨_, rfl⟩
      have lx4_Fetch_Mails_r : A.rlen x4_Fetch_Mails_r = (List.length x4_Fetch_Mails : Int) := rlen_map hA hx4_Fetch_Mails_r
      obtain ⟨x4_Fetch_Gone_r, hx4_Fetch_Gone_r⟩ : ∃ r, r = x4_Fetch_Gone.map eBool := ⟨_, rfl⟩
      have lx4_Fetch_Gone_r : A.rlen x4_Fetch_Gone_r = (List.length x4_Fetch_Gone : Int) := rlen_map hA hx4_Fetch_Gone_r
      obtain ⟨x4_Look_Uids_r, hx4_Look_Uids_r⟩ : ∃ r, r = x4_Look_Uids.map eInt := ⟨_, rfl⟩
      have lx4_Look_Uids_r : A.rlen x4_Look_Uids_r = (List.length x4_Look_Uids : Int) := rlen_map hA hx4_Look_Uids_r
      have hrx4 : ys_r[(Int.toNat n)]? = some [.int .i64 x4_Kind, .str x4_In, .str x4_Out, .bool x4_Over, .int .i64 x4_Bring_State, .str x4_Bring_From, .sl 1 x4_Bring_To_r, .sl 1 x4_Bring_Data_r, .int .i64 x4_Fetch_State, .str x4_Fetch_User, .sl 3 x4_Fetch_Mails_r, .sl 1 x4_Fetch_Gone_r, .int .i64 x4_Look_State, .str x4_Look_User, .str x4_Look_Box, .int .i64 x4_Look_Valid, .sl 1 x4_Look_Uids_r] := by
        subst hx4_Bring_To_r hx4_Bring_Data_r hx4_Fetch_Mails_r hx4_Fetch_Gone_r hx4_Look_Uids_r; exact map_at eSession hys_r hx4
      have hix4 := hx4
      rw [hn] at hix4
      have hix4 : (ys)[i]? = some (⟨x4_Kind, x4_In, x4_Out, x4_Over, ⟨x4_Bring_State, x4_Bring_From, x4_Bring_To, x4_Bring_Data⟩, ⟨x4_Fetch_State, x4_Fetch_User, x4_Fetch_Mails, x4_Fetch_Gone⟩, ⟨x4_Look_State, x4_Look_User, x4_Look_Box, x4_Look_Valid, x4_Look_Uids⟩⟩ : GSession) := hix4
      refine ops_step rfl rfl (idx_sl rfl rfl rfl rfl rfl h0x4 rfl hrx4) ?_
      refine run_aops hA 3 _ _ _ _ (by cbv) ?_
      refine ops_done ?_
      refine go_seq ?_
      refine go_reg ?_
      refine run_aops hA 3 _ _ _ _ (by cbv) ?_
      obtain ⟨v29_5, hv29_5, hc6⟩ : ∃ (v29_5 : Bool), v29_5 = (stk (⟨x3_Kind, x3_In, x3_Out, x3_Over, ⟨x3_Bring_State, x3_Bring_From, x3_Bring_To, x3_Bring_Data⟩, ⟨x3_Fetch_State, x3_Fetch_User, x3_Fetch_Mails, x3_Fetch_Gone⟩, ⟨x3_Look_State, x3_Look_User, x3_Look_Box, x3_Look_Valid, x3_Look_Uids⟩⟩ : GSession) (⟨x4_Kind, x4_In, x4_Out, x4_Over, ⟨x4_Bring_State, x4_Bring_From, x4_Bring_To, x4_Bring_Data⟩, ⟨x4_Fetch_State, x4_Fetch_User, x4_Fetch_Mails, x4_Fetch_Gone⟩, ⟨x4_Look_State, x4_Look_User, x4_Look_Box, x4_Look_Valid, x4_Look_Uids⟩⟩ : GSession)) ∧ Real Try.prog 55 [.agg [.int .i64 x3_Kind, .str x3_In, .str x3_Out, .bool x3_Over, .int .i64 x3_Bring_State, .str x3_Bring_From, .sl 1 x3_Bring_To_r, .sl 1 x3_Bring_Data_r, .int .i64 x3_Fetch_State, .str x3_Fetch_User, .sl 3 x3_Fetch_Mails_r, .sl 1 x3_Fetch_Gone_r, .int .i64 x3_Look_State, .str x3_Look_User, .str x3_Look_Box, .int .i64 x3_Look_Valid, .sl 1 x3_Look_Uids_r], .agg [.int .i64 x4_Kind, .str x4_In, .str x4_Out, .bool x4_Over, .int .i64 x4_Bring_State, .str x4_Bring_From, .sl 1 x4_Bring_To_r, .sl 1 x4_Bring_Data_r, .int .i64 x4_Fetch_State, .str x4_Fetch_User, .sl 3 x4_Fetch_Mails_r, .sl 1 x4_Fetch_Gone_r, .int .i64 x4_Look_State, .str x4_Look_User, .str x4_Look_Box, .int .i64 x4_Look_Valid, .sl 1 x4_Look_Uids_r]] (.bool v29_5) := ⟨_, rfl, by subst hx3_Bring_To_r hx3_Bring_Data_r hx3_Fetch_Mails_r hx3_Fetch_Gone_r hx3_Look_Uids_r hx4_Bring_To_r hx4_Bring_Data_r hx4_Fetch_Mails_r hx4_Fetch_Gone_r hx4_Look_Uids_r; exact r_impl_sameTalk A hA (⟨x3_Kind, x3_In, x3_Out, x3_Over, ⟨x3_Bring_State, x3_Bring_From, x3_Bring_To, x3_Bring_Data⟩, ⟨x3_Fetch_State, x3_Fetch_User, x3_Fetch_Mails, x3_Fetch_Gone⟩, ⟨x3_Look_State, x3_Look_User, x3_Look_Box, x3_Look_Valid, x3_Look_Uids⟩⟩ : GSession) (⟨x4_Kind, x4_In, x4_Out, x4_Over, ⟨x4_Bring_State, x4_Bring_From, x4_Bring_To, x4_Bring_Data⟩, ⟨x4_Fetch_State, x4_Fetch_User, x4_Fetch_Mails, x4_Fetch_Gone⟩, ⟨x4_Look_State, x4_Look_User, x4_Look_Box, x4_Look_Valid, x4_Look_Uids⟩⟩ : GSession) ⟩
      refine ops_callV rfl rfl (by cbv) (by cbv) hc6 (.inr rfl) (by cbv) ?_
      refine run_aops hA 1 _ _ _ _ (by cbv) ?_
      refine ops_done ?_
      refine go_cond rfl (fun c7 => ?_) (fun c7 => ?_)
      · skip
        have c8 : v29_5 = false := bnot_t hA c7
        refine go_seq ?_
        refine go_reg ?_
        refine run_aops hA 1 _ _ _ _ (by cbv) ?_
        refine ops_done ?_
        refine go_ret ⟨_, by cbv, ?_⟩
        show _ = (PV.bool false)
        refine congrArg PV.bool ?_
        rw [hE, eqFunc_at stk hix3 hix4]
        rw [← hv29_5]; simp [show v29_5 = false from c8]
      · skip
        have c9 : v29_5 = true := bnot_f hA c7
        refine go_skip ?_
        refine go_reg ?_
        refine run_aops hA 2 _ _ _ _ (by cbv) ?_
        refine ops_done ?_
        refine ⟨(S54_1 ys_r xs_r (A.rlen xs_r) (A.num .add .i64 n 1)), List.length xs - (i + 1), ?_, by cbv, i + 1, (A.num .add .i64 n 1), rfl, ?_, rfl⟩
        · skip
          omega
        · skip
          refine ⟨by rw [add_i64 hA (by omega) (by omega)]; omega, by omega, ?_⟩
          rw [hE, eqFunc_at stk hix3 hix4]
          rw [← hv29_5]; simp [show v29_5 = true from c9]
    · skip
      have ec2 : (A.rlen xs_r) ≤ n := lss_f hA c2
      refine go_exit ⟨fun _ => ?_, fun h => absurd rfl h⟩
      refine go_seq ?_
      refine go_reg ?_
      refine run_aops hA 1 _ _ _ _ (by cbv) ?_
      refine ops_done ?_
      refine go_ret ⟨_, by cbv, ?_⟩
      show _ = (PV.bool true)
      refine congrArg PV.bool ?_
      rw [hE]; exact eqFunc_end _ (by omega) (by omega)

theorem r_impl_SameTalk (A : Alg) (hA : A = std) (xs : List GSession) (ys : List GSession) (hx : (List.length xs : Int) ≤ 4611686018427387904) : Real Try.prog 23 [.sl 17 (List.map eSession xs), .sl 17 (List.map eSession ys)] (.bool (eqFunc stk xs ys)) := by
  obtain ⟨xs_r, hxs_r⟩ : ∃ r, r = xs.map eSession := ⟨_, rfl⟩
  have lxs_r : A.rlen xs_r = (List.length xs : Int) := rlen_map hA hxs_r
  obtain ⟨ys_r, hys_r⟩ : ∃ r, r = ys.map eSession := ⟨_, rfl⟩
  have lys_r : A.rlen ys_r = (List.length ys : Int) := rlen_map hA hys_r
  refine real_args (args' := [.sl 17 xs_r, .sl 17 ys_r]) (by subst hxs_r hys_r; rfl) ?_
  refine real tyOk Try.func23 (by kernel_rfl) (afun_of rfl ?_)
  refine go_seq ?_
  refine go_reg ?_
  refine run_aops hA 1 _ _ _ _ (by cbv) ?_
  refine ops_done ?_
  refine go_seq ?_
  refine go_reg ?_
  refine run_aops hA 2 _ _ _ _ (by cbv) ?_
  obtain ⟨v7_1, hv7_1, hc2⟩ : ∃ (v7_1 : Bool), v7_1 = (eqFunc stk xs ys) ∧ Real Try.prog 54 [.sl 17 xs_r, .sl 17 ys_r, .fn 55 []] (.bool v7_1) := ⟨_, rfl, by subst hxs_r hys_r; exact r_EqualFunc_Session A hA xs ys (by omega)⟩
  refine ops_callV rfl rfl (by cbv) (by cbv) hc2 (.inr rfl) (by cbv) ?_
  refine run_aops hA 1 _ _ _ _ (by cbv) ?_
  refine ops_done ?_
  refine go_ret ⟨_, by cbv, ?_⟩
  show _ = (PV.bool v7_1)
  exact congrArg PV.bool hv7_1.symm

theorem r_laws_FnExactSameTalk (A : Alg) (hA : A = std) (a : List GSession) (b : List GSession) (ha : ∀ k ∈ zsSessionS a, (k : Int) ≤ 9223372036854775807) (hb : ∀ k ∈ zsSessionS b, (k : Int) ≤ 9223372036854775807) : Real Try.prog 5 [.sl 17 (List.map eSession a), .sl 17 (List.map eSession b)] (.bool true) := by
  obtain ⟨a_r, ha_r⟩ : ∃ r, r = a.map eSession := ⟨_, rfl⟩
  have la_r : A.rlen a_r = (List.length a : Int) := rlen_map hA ha_r
  obtain ⟨b_r, hb_r⟩ : ∃ r, r = b.map eSession := ⟨_, rfl⟩
  have lb_r : A.rlen b_r = (List.length b : Int) := rlen_map hA hb_r
  refine real_args (args' := [.sl 17 a_r, .sl 17 b_r]) (by subst ha_r hb_r; rfl) ?_
  refine real tyOk Try.func5 (by kernel_rfl) (afun_of rfl ?_)
  refine go_seq ?_
  refine go_reg ?_
  refine run_aops hA 1 _ _ _ _ (by cbv) ?_
  refine ops_done ?_
  refine go_seq ?_
  refine go_reg ?_
  refine run_aops hA 1 _ _ _ _ (by cbv) ?_
  refine ops_done ?_
  refine go_seq ?_
  refine go_reg ?_
  refine run_aops hA 2 _ _ _ _ (by cbv) ?_
  obtain ⟨v12_1, hv12_1, hc2⟩ : ∃ (v12_1 : Int), v12_1 = (chain 1048576 (zsSessionS a)) ∧ Real Try.prog 20 [.sl 17 a_r, .int .i64 1048576] (.int .i64 v12_1) := ⟨_, rfl, by subst ha_r; exact r_laws_szSessionS A hA a 1048576 (by omega) (by omega) ha⟩
  refine ops_callV rfl rfl (by cbv) (by cbv) hc2 (.inr rfl) (by cbv) ?_
  have bv12_1 := chain_bd hv12_1 (by omega)
  refine run_aops hA 1 _ _ _ _ (by cbv) ?_
  refine ops_done ?_
  refine go_seq ?_
  refine go_seq ?_
  refine go_reg ?_
  refine run_aops hA 2 _ _ _ _ (by cbv) ?_
  refine ops_done ?_
  refine go_cond rfl (fun c3 => ?_) (fun c3 => ?_)
  · skip
    have ec3 : v12_1 < 0 := lss_t hA c3
    refine go_seq ?_
    refine go_reg ?_
    refine run_aops hA 1 _ _ _ _ (by cbv) ?_
    refine ops_done ?_
    refine go_ret ⟨_, by cbv, ?_⟩
    show _ = (PV.bool true)
    rfl
  · skip
    have ec3 : 0 ≤ v12_1 := lss_f hA c3
    refine go_skip ?_
    refine go_seq ?_
    refine go_reg ?_
    refine run_aops hA 2 _ _ _ _ (by cbv) ?_
    obtain ⟨v17_4, hv17_4, hc5⟩ : ∃ (v17_4 : Int), v17_4 = (chain v12_1 (zsSessionS b)) ∧ Real Try.prog 20 [.sl 17 b_r, .int .i64 v12_1] (.int .i64 v17_4) := ⟨_, rfl, by subst hb_r; exact r_laws_szSessionS A hA b v12_1 (by omega) (by omega) hb⟩
    refine ops_callV rfl rfl (by cbv) (by cbv) hc5 (.inr rfl) (by cbv) ?_
    have bv17_4 := chain_bd hv17_4 (by omega)
    refine run_aops hA 1 _ _ _ _ (by cbv) ?_
    refine ops_done ?_
    refine go_seq ?_
    refine go_seq ?_
    refine go_reg ?_
    refine run_aops hA 2 _ _ _ _ (by cbv) ?_
    refine ops_done ?_
    refine go_cond rfl (fun c6 => ?_) (fun c6 => ?_)
    · skip
      have ec6 : v17_4 < 0 := lss_t hA c6
      refine go_seq ?_
      refine go_reg ?_
      refine run_aops hA 1 _ _ _ _ (by cbv) ?_
      refine ops_done ?_
      refine go_ret ⟨_, by cbv, ?_⟩
      show _ = (PV.bool true)
      rfl
    · skip
      have ec6 : 0 ≤ v17_4 := lss_f hA c6
      refine go_skip ?_
      refine go_seq ?_
      have ja : ∀ k ∈ zsSessionS a, k ≤ 1048576 := fun k hk => by
        have := chain_all _ _ (show 0 ≤ chain _ _ from hv12_1 ▸ (by omega : (0 : Int) ≤ v12_1)) k hk
        omega
      have ia : ∀ k ∈ zsSessionS a, (k : Int) ≤ 4611686018427387904 := fun k hk => by have := ja k hk; omega
      have jb : ∀ k ∈ zsSessionS b, k ≤ 1048576 := fun k hk => by
        have := chain_all _ _ (show 0 ≤ chain _ _ from hv17_4 ▸ (by omega : (0 : Int) ≤ v17_4)) k hk
        omega
      have ib : ∀ k ∈ zsSessionS b, (k : Int) ≤ 4611686018427387904 := fun k hk => by have := jb k hk; omega
      have la : (List.length a : Int) ≤ 1048576 := by have := ja _ (List.mem_cons_self ..); omega
      refine go_reg ?_
      refine run_aops hA 1 _ _ _ _ (by cbv) ?_
      obtain ⟨v21_7, hv21_7, hc8⟩ : ∃ (v21_7 : List (List PV)), v21_7 = List.map eoSession a ∧ Real Try.prog 22 [.sl 17 a_r] (.ow 17 v21_7) := ⟨_, rfl, by subst ha_r; exact r_laws_toSessionS A hA a ja⟩
      have lv21_7 : A.rlen v21_7 = (List.length a : Int) := rlen_map hA hv21_7
      refine ops_callV rfl rfl (by cbv) (by cbv) hc8 (.inr rfl) (by cbv) ?_
      refine run_aops hA 1 _ _ _ _ (by cbv) ?_
      obtain ⟨v23_9, hv23_9, hc10⟩ : ∃ (v23_9 : List (List PV)), v23_9 = List.map eoSession b ∧ Real Try.prog 22 [.sl 17 b_r] (.ow 17 v23_9) := ⟨_, rfl, by subst hb_r; exact r_laws_toSessionS A hA b jb⟩
      have lv23_9 : A.rlen v23_9 = (List.length b : Int) := rlen_map hA hv23_9
      refine ops_callV rfl rfl (by cbv) (by cbv) hc10 (.inr rfl) (by cbv) ?_
      obtain ⟨v24_11, hv24_11, hc12⟩ : ∃ (v24_11 : Bool), v24_11 = (eqFunc stk a b) ∧ Real Try.prog 21 [.sl 17 (eraseR v21_7), .sl 17 (eraseR v23_9)] (.bool v24_11) := ⟨_, rfl, by subst hv21_7 hv23_9; simp only [erR_Session]; exact r_spec_SameTalk A hA a b (by omega)⟩
      refine ops_callV rfl rfl (by cbv) (by cbv) hc12 (.inl trivial) (by cbv) ?_
      refine run_aops hA 1 _ _ _ _ (by cbv) ?_
      refine ops_done ?_
      refine go_seq ?_
      refine go_reg ?_
      refine run_aops hA 1 _ _ _ _ (by cbv) ?_
      obtain ⟨v26_13, hv26_13, hc14⟩ : ∃ (v26_13 : List (List PV)), v26_13 = List.map eoSession a ∧ Real Try.prog 22 [.sl 17 a_r] (.ow 17 v26_13) := ⟨_, rfl, by subst ha_r; exact r_laws_toSessionS A hA a ja⟩
      have lv26_13 : A.rlen v26_13 = (List.length a : Int) := rlen_map hA hv26_13
      refine ops_callV rfl rfl (by cbv) (by cbv) hc14 (.inr rfl) (by cbv) ?_
      refine run_aops hA 1 _ _ _ _ (by cbv) ?_
      refine ops_done ?_
      refine go_seq ?_
      refine go_reg ?_
      refine run_aops hA 1 _ _ _ _ (by cbv) ?_
      obtain ⟨v28_15, hv28_15, hc16⟩ : ∃ (v28_15 : List (List PV)), v28_15 = List.map eoSession b ∧ Real Try.prog 22 [.sl 17 b_r] (.ow 17 v28_15) := ⟨_, rfl, by subst hb_r; exact r_laws_toSessionS A hA b jb⟩
      have lv28_15 : A.rlen v28_15 = (List.length b : Int) := rlen_map hA hv28_15
      refine ops_callV rfl rfl (by cbv) (by cbv) hc16 (.inr rfl) (by cbv) ?_
      refine run_aops hA 1 _ _ _ _ (by cbv) ?_
      refine ops_done ?_
      refine go_seq ?_
      refine go_reg ?_
      refine run_aops hA 2 _ _ _ _ (by cbv) ?_
      obtain ⟨v31_17, hv31_17, hc18⟩ : ∃ (v31_17 : Bool), v31_17 = (eqFunc stk a b) ∧ Real Try.prog 23 [.sl 17 (eraseR v26_13), .sl 17 (eraseR v28_15)] (.bool v31_17) := ⟨_, rfl, by subst hv26_13 hv28_15; simp only [erR_Session]; exact r_impl_SameTalk A hA a b (by omega)⟩
      refine ops_callV rfl rfl (by cbv) (by cbv) hc18 (.inl trivial) (by cbv) ?_
      refine run_aops hA 1 _ _ _ _ (by cbv) ?_
      refine ops_done ?_
      refine go_seq ?_
      refine go_seq ?_
      refine go_reg ?_
      refine run_aops hA 3 _ _ _ _ (by cbv) ?_
      refine ops_done ?_
      refine go_cond rfl (fun c19 => ?_) (fun c19 => ?_)
      · skip
        exact absurd (show (A.bnot (A.beq v31_17 v24_11)) = true from c19) (by rw [show (A.bnot (A.beq v31_17 v24_11)) = false from by subst hA; simp [std, hv31_17, hv24_11]]; decide)
      · skip
        refine go_skip ?_
        refine go_seq ?_
        refine go_seq ?_
        refine go_reg ?_
        refine run_aops hA 2 _ _ _ _ (by cbv) ?_
        obtain ⟨v37_20, hv37_20, hc21⟩ : ∃ (v37_20 : List (List PV)), v37_20 = List.map eoSession a ∧ Real Try.prog 22 [.sl 17 a_r] (.ow 17 v37_20) := ⟨_, rfl, by subst ha_r; exact r_laws_toSessionS A hA a ja⟩
        have lv37_20 : A.rlen v37_20 = (List.length a : Int) := rlen_map hA hv37_20
        refine ops_callV rfl rfl (by cbv) (by cbv) hc21 (.inr rfl) (by cbv) ?_
        have hc23 : Real Try.prog 24 [.sl 17 (eraseR v26_13), .sl 17 (eraseR v37_20)] (.bool true) := by subst hv26_13 hv37_20; simp only [erR_Session]; exact r_laws_eqSessionS A hA a ia
        refine ops_callV rfl rfl (by cbv) (by cbv) hc23 (.inl trivial) (by cbv) ?_
        refine run_aops hA 1 _ _ _ _ (by cbv) ?_
        refine ops_done ?_
        refine go_cond rfl (fun c24 => ?_) (fun c24 => ?_)
        · skip
          exact absurd (show (A.bnot true) = true from c24) (by rw [show (A.bnot true) = false from by subst hA; rfl]; decide)
        · skip
          refine go_skip ?_
          refine go_seq ?_
          refine go_seq ?_
          refine go_reg ?_
          refine run_aops hA 2 _ _ _ _ (by cbv) ?_
          obtain ⟨v42_25, hv42_25, hc26⟩ : ∃ (v42_25 : List (List PV)), v42_25 = List.map eoSession b ∧ Real Try.prog 22 [.sl 17 b_r] (.ow 17 v42_25) := ⟨_, rfl, by subst hb_r; exact r_laws_toSessionS A hA b jb⟩
          have lv42_25 : A.rlen v42_25 = (List.length b : Int) := rlen_map hA hv42_25
          refine ops_callV rfl rfl (by cbv) (by cbv) hc26 (.inr rfl) (by cbv) ?_
          have hc28 : Real Try.prog 24 [.sl 17 (eraseR v28_15), .sl 17 (eraseR v42_25)] (.bool true) := by subst hv28_15 hv42_25; simp only [erR_Session]; exact r_laws_eqSessionS A hA b ib
          refine ops_callV rfl rfl (by cbv) (by cbv) hc28 (.inl trivial) (by cbv) ?_
          refine run_aops hA 1 _ _ _ _ (by cbv) ?_
          refine ops_done ?_
          refine go_cond rfl (fun c29 => ?_) (fun c29 => ?_)
          · skip
            exact absurd (show (A.bnot true) = true from c29) (by rw [show (A.bnot true) = false from by subst hA; rfl]; decide)
          · skip
            refine go_skip ?_
            refine go_seq ?_
            refine go_reg ?_
            refine run_aops hA 1 _ _ _ _ (by cbv) ?_
            refine ops_done ?_
            refine go_ret ⟨_, by cbv, ?_⟩
            show _ = (PV.bool true)
            rfl
end Go.Av
