/- Walks: CutRight. -/
import Derived.Test.YtjbokkoiicoahaaQ1
import Derived.Test.YtjbokkoiicoahaaQ2
import Derived.Test.YtjbokkoiicoahaaQ3
namespace Go.Av
open Go Go.Proofs
set_option maxRecDepth 100000
set_option maxHeartbeats 4000000
set_option linter.unusedVariables false
set_option linter.unusedSimpArgs false
def mq (x y : GMail) : Bool := pvEqL (eMail x) (eMail y)

def S122_1 (p0 : List (List PV)) (p1 : List (List PV)) (p2 : Int) (p3 : Int) : St := { sl := [.sl 3 p0, .sl 3 p1, .bad, .bad, .bad, .bad, .bad, .bad, .bad, .bad, .bad, .bad, .int .i64 p2, .int .i64 p3, .bad, .bad, .bad, .bad, .bad, .bad, .bad, .bad, .bad, .bad, .bad, .bad], bl := [] }
theorem r_Equal_Mail (A : Alg) (hA : A = std) (xs : List GMail) (ys : List GMail) (hx : (List.length xs : Int) ≤ 4611686018427387904)  : Real Try.prog 122 [.sl 3 (List.map eMail xs), .sl 3 (List.map eMail ys)] (.bool (eqFunc mq xs ys)) := by
  obtain ⟨xs_r, hxs_r⟩ : ∃ r, r = xs.map eMail := ⟨_, rfl⟩
  have lxs_r : A.rlen xs_r = (List.length xs : Int) := rlen_map hA hxs_r
  obtain ⟨ys_r, hys_r⟩ : ∃ r, r = ys.map eMail := ⟨_, rfl⟩
  have lys_r : A.rlen ys_r = (List.length ys : Int) := rlen_map hA hys_r
  refine real_args (args' := [.sl 3 xs_r, .sl 3 ys_r]) (by subst hxs_r hys_r; rfl) ?_
  refine real tyOk Try.func122 (by kernel_rfl) (afun_of rfl ?_)
  refine go_seq ?_
  refine go_reg ?_
  refine run_aops hA 1 _ _ _ _ (by cbv) ?_
  refine ops_done ?_
  refine go_seq ?_
  refine go_seq ?_
  refine go_reg ?_
  refine run_aops hA 5 _ _ _ _ (by cbv) ?_
  refine ops_done ?_
  refine go_cond rfl (fun c1 => ?_) (fun c1 => ?_)
  · skip
    have ec1 : (A.rlen xs_r) ≠ (A.rlen ys_r) := neq_t hA c1
    refine go_seq ?_
    refine go_reg ?_
    refine run_aops hA 1 _ _ _ _ (by cbv) ?_
    refine ops_done ?_
    refine go_ret ⟨_, by cbv, ?_⟩
    show _ = (PV.bool false)
    refine congrArg PV.bool ?_
    exact eqFunc_len _ _ _ (by omega)
  · skip
    have ec1 : (A.rlen xs_r) = (A.rlen ys_r) := neq_f hA c1
    refine go_skip ?_
    refine go_seq ?_
    refine go_seq ?_
    refine go_reg ?_
    refine run_aops hA 3 _ _ _ _ (by cbv) ?_
    refine ops_done ?_
    refine go_block ?_
    refine go_loopE (fun σ m => ∃ (i : Nat) (n : Int), σ = (S122_1 xs_r ys_r (A.rlen xs_r) n) ∧ (n = (i : Int) ∧ i ≤ List.length xs ∧ eqFunc mq xs ys = eqFunc mq (xs.drop i) (ys.drop i)) ∧ m = List.length xs - i) _ [] [0, 1, 12, 13] [] (S122_1 xs_r ys_r (A.rlen xs_r) 0) rfl (by cbv) ⟨0, 0, rfl, ?_, rfl⟩ (fun σ m hI => ?_)
    · skip
      exact ⟨rfl, Nat.zero_le _, rfl⟩
    obtain ⟨i, n, rfl, ⟨hn, hi, hE⟩, rfl⟩ := hI
    refine go_seq ?_
    refine go_reg ?_
    refine run_aops hA 1 _ _ _ _ (by cbv) ?_
    refine ops_done ?_
    refine go_seq ?_
    refine go_cond rfl (fun c2 => ?_) (fun c2 => ?_)
    · skip
      have ec2 : n < (A.rlen xs_r) := lss_t hA c2
      refine go_skip ?_
      refine go_seq ?_
      refine go_block ?_
      refine go_seq ?_
      refine go_reg ?_
      refine run_aops hA 2 _ _ _ _ (by cbv) ?_
      refine ops_done ?_
      refine go_seq ?_
      refine go_draw (by cbv) ?_
      refine run_dops hA 2 _ _ _ _ (by cbv) ?_
      have h0x3 : (0 : Int) ≤ n := by
        omega
      have hlx3 : (Int.toNat n) < List.length xs := by
        omega
      obtain ⟨x3, hx3⟩ : ∃ x, (xs)[(Int.toNat n)]? = some x := ⟨_, List.getElem?_eq_getElem hlx3⟩
      have hmx3 := List.mem_of_getElem? hx3
      obtain ⟨x3_Uid, x3_Flags, x3_Text⟩ := x3
      have hrx3 : xs_r[(Int.toNat n)]? = some [.int .i64 x3_Uid, .int .i64 x3_Flags, .str x3_Text] := by
        exact map_at eMail hxs_r hx3
      have hix3 := hx3
      rw [hn] at hix3
      have hix3 : (xs)[i]? = some (⟨x3_Uid, x3_Flags, x3_Text⟩ : GMail) := hix3
      refine dops_step rfl rfl rfl (idx_sl rfl rfl rfl rfl rfl h0x3 rfl hrx3) ?_
      refine run_dops hA 3 _ _ _ _ (by cbv) ?_
      have h0x4 : (0 : Int) ≤ n := by
        omega
      have hlx4 : (Int.toNat n) < List.length ys := by
        omega
      obtain ⟨x4, hx4⟩ : ∃ x, (ys)[(Int.toNat n)]? = some x := ⟨_, List.getElem?_eq_getElem hlx4⟩
      have hmx4 := List.mem_of_getElem? hx4
      obtain ⟨x4_Uid, x4_Flags, x4_Text⟩ := x4
      have hrx4 : ys_r[(Int.toNat n)]? = some [.int .i64 x4_Uid, .int .i64 x4_Flags, .str x4_Text] := by
        exact map_at eMail hys_r hx4
      have hix4 := hx4
      rw [hn] at hix4
      have hix4 : (ys)[i]? = some (⟨x4_Uid, x4_Flags, x4_Text⟩ : GMail) := hix4
      refine dops_step rfl rfl rfl (idx_sl rfl rfl rfl rfl rfl h0x4 rfl hrx4) ?_
      refine run_dops hA 2 _ _ _ _ (by cbv) ?_
      refine dops_done ?_
      refine go_cond rfl (fun c5 => ?_) (fun c5 => ?_)
      · skip
        have c6 : (A.aeq [.int .i64 x3_Uid, .int .i64 x3_Flags, .str x3_Text] [.int .i64 x4_Uid, .int .i64 x4_Flags, .str x4_Text]) = false := bnot_t hA c5
        have ec6 : ([.int .i64 x3_Uid, .int .i64 x3_Flags, .str x3_Text] : List PV) ≠ [.int .i64 x4_Uid, .int .i64 x4_Flags, .str x4_Text] := aeq_f hA (by rfl) c6
        refine go_seq ?_
        refine go_reg ?_
        refine run_aops hA 1 _ _ _ _ (by cbv) ?_
        refine ops_done ?_
        refine go_ret ⟨_, by cbv, ?_⟩
        show _ = (PV.bool false)
        refine congrArg PV.bool ?_
        rw [hE, eqFunc_at mq hix3 hix4]
        rw [show mq (⟨x3_Uid, x3_Flags, x3_Text⟩ : GMail) (⟨x4_Uid, x4_Flags, x4_Text⟩ : GMail) = false from Bool.eq_false_iff.2 fun h => ec6 ((pvEqL_iff (by rfl) (by rfl)).1 h), Bool.false_and]
      · skip
        have c7 : (A.aeq [.int .i64 x3_Uid, .int .i64 x3_Flags, .str x3_Text] [.int .i64 x4_Uid, .int .i64 x4_Flags, .str x4_Text]) = true := bnot_f hA c5
        have ec7 : ([.int .i64 x3_Uid, .int .i64 x3_Flags, .str x3_Text] : List PV) = [.int .i64 x4_Uid, .int .i64 x4_Flags, .str x4_Text] := aeq_t hA (by rfl) c7
        refine go_skip ?_
        refine go_reg ?_
        refine run_aops hA 2 _ _ _ _ (by cbv) ?_
        refine ops_done ?_
        refine ⟨(S122_1 xs_r ys_r (A.rlen xs_r) (A.num .add .i64 n 1)), List.length xs - (i + 1), ?_, by cbv, i + 1, (A.num .add .i64 n 1), rfl, ?_, rfl⟩
        · skip
          omega
        · skip
          refine ⟨by rw [add_i64 hA (by omega) (by omega)]; omega, by omega, ?_⟩
          rw [hE, eqFunc_at mq hix3 hix4]
          rw [show mq (⟨x3_Uid, x3_Flags, x3_Text⟩ : GMail) (⟨x4_Uid, x4_Flags, x4_Text⟩ : GMail) = true from (pvEqL_iff (by rfl) (by rfl)).2 ec7, Bool.true_and]
    · skip
      have ec2 : (A.rlen xs_r) ≤ n := lss_f hA c2
      refine go_exit ⟨fun _ => ?_, fun h => absurd rfl h⟩
      refine go_seq ?_
      refine go_reg ?_
      refine run_aops hA 1 _ _ _ _ (by cbv) ?_
      refine ops_done ?_
      refine go_ret ⟨_, by cbv, ?_⟩
      show _ = (PV.bool true)
      refine congrArg PV.bool ?_
      rw [hE]; exact eqFunc_end _ (by omega) (by omega)

def sbx (a b : GBox) : Bool := decide (a.Valid = b.Valid ∧ a.User = b.User ∧ a.Name = b.Name ∧ a.Next = b.Next) && eqFunc mq a.Mails b.Mails

theorem r_impl_sameBox (A : Alg) (hA : A = std) (a : GBox) (b : GBox) (hx : (List.length a.Mails : Int) ≤ 4611686018427387904) : Real Try.prog 83 [.agg (eBox a), .agg (eBox b)] (.bool (sbx a b)) := by
  obtain ⟨a_Valid, a_User, a_Name, a_Next, a_Mails⟩ := a
  obtain ⟨a_Mails_r, ha_Mails_r⟩ : ∃ r, r = a_Mails.map eMail := ⟨_, rfl⟩
  have la_Mails_r : A.rlen a_Mails_r = (List.length a_Mails : Int) := rlen_map hA ha_Mails_r
  obtain ⟨b_Valid, b_User, b_Name, b_Next, b_Mails⟩ := b
  obtain ⟨b_Mails_r, hb_Mails_r⟩ : ∃ r, r = b_Mails.map eMail := ⟨_, rfl⟩
  have lb_Mails_r : A.rlen b_Mails_r = (List.length b_Mails : Int) := rlen_map hA hb_Mails_r
  refine real_args (args' := [.agg [.int .i64 a_Valid, .str a_User, .str a_Name, .int .i64 a_Next, .sl 3 a_Mails_r], .agg [.int .i64 b_Valid, .str b_User, .str b_Name, .int .i64 b_Next, .sl 3 b_Mails_r]]) (by subst ha_Mails_r hb_Mails_r; rfl) ?_
  have hx : (List.length a_Mails : Int) ≤ 4611686018427387904 := hx
  refine real tyOk Try.func83 (by kernel_rfl) (afun_of rfl ?_)
  refine go_seq ?_
  refine go_reg ?_
  refine run_aops hA 3 _ _ _ _ (by cbv) ?_
  refine ops_done ?_
  refine go_seq ?_
  refine go_reg ?_
  refine run_aops hA 6 _ _ _ _ (by cbv) ?_
  refine ops_split 10 rfl (fun c1 => ?_) (fun c1 => ?_)
  · skip
    have ec1 : a_Valid = b_Valid := eql_t hA c1
    refine run_aops hA 7 _ _ _ _ (by cbv) ?_
    refine ops_split 17 rfl (fun c2 => ?_) (fun c2 => ?_)
    · skip
      have ec2 : a_User = b_User := seql_t hA c2
      refine run_aops hA 7 _ _ _ _ (by cbv) ?_
      refine ops_split 24 rfl (fun c3 => ?_) (fun c3 => ?_)
      · skip
        have ec3 : a_Name = b_Name := seql_t hA c3
        refine run_aops hA 7 _ _ _ _ (by cbv) ?_
        refine ops_split 31 rfl (fun c4 => ?_) (fun c4 => ?_)
        · skip
          have ec4 : a_Next = b_Next := eql_t hA c4
          refine run_aops hA 4 _ _ _ _ (by cbv) ?_
          obtain ⟨v36_5, hv36_5, hc6⟩ : ∃ (v36_5 : Bool), v36_5 = (eqFunc mq a_Mails b_Mails) ∧ Real Try.prog 122 [.sl 3 a_Mails_r, .sl 3 b_Mails_r] (.bool v36_5) := ⟨_, rfl, by subst ha_Mails_r hb_Mails_r; exact r_Equal_Mail A hA a_Mails b_Mails (by omega)⟩
          refine ops_callG rfl rfl rfl rfl (by cbv) (by cbv) hc6 (.inr rfl) (by cbv) ?_
          refine run_aops hA 2 _ _ _ _ (by cbv) ?_
          refine ops_done ?_
          refine go_ret ⟨_, by cbv, ?_⟩
          show _ = (PV.bool v36_5)
          refine congrArg PV.bool ?_
          simp [sbx, ec1, ec2, ec3, ec4, ← hv36_5]
        · skip
          have ec4 : a_Next ≠ b_Next := eql_f hA c4
          refine run_aops hA 7 _ _ _ _ (by cbv) ?_
          refine ops_done ?_
          refine go_ret ⟨_, by cbv, ?_⟩
          show _ = (PV.bool false)
          refine congrArg PV.bool ?_
          simp [sbx, ec1, ec2, ec3, ec4]
      · skip
        have ec3 : a_Name ≠ b_Name := seql_f hA c3
        refine run_aops hA 14 _ _ _ _ (by cbv) ?_
        refine ops_done ?_
        refine go_ret ⟨_, by cbv, ?_⟩
        show _ = (PV.bool false)
        refine congrArg PV.bool ?_
        simp [sbx, ec1, ec2, ec3]
    · skip
      have ec2 : a_User ≠ b_User := seql_f hA c2
      refine run_aops hA 21 _ _ _ _ (by cbv) ?_
      refine ops_done ?_
      refine go_ret ⟨_, by cbv, ?_⟩
      show _ = (PV.bool false)
      refine congrArg PV.bool ?_
      simp [sbx, ec1, ec2]
  · skip
    have ec1 : a_Valid ≠ b_Valid := eql_f hA c1
    refine run_aops hA 28 _ _ _ _ (by cbv) ?_
    refine ops_done ?_
    refine go_ret ⟨_, by cbv, ?_⟩
    show _ = (PV.bool false)
    refine congrArg PV.bool ?_
    simp [sbx, ec1]

def S82_1 (p0 : List (List PV)) (p1 : List (List PV)) (p2 : Int) (p3 : Int) : St := { sl := [.bad, .sl 5 p0, .fn 83 [], .bad, .bad, .bad, .bad, .bad, .bad, .bad, .bad, .bad, .bad, .bad, .bad, .sl 5 p1, .int .i64 p2, .int .i64 p3, .bad, .bad, .bad, .bad, .bad, .bad, .bad, .bad, .bad, .bad, .bad, .bad, .bad, .bad], bl := [] }
theorem r_EqualFunc_Box (A : Alg) (hA : A = std) (xs : List GBox) (ys : List GBox) (hx : (List.length xs : Int) ≤ 4611686018427387904) (hm : ∀ x ∈ xs, (List.length x.Mails : Int) ≤ 4611686018427387904) : Real Try.prog 82 [.sl 5 (List.map eBox xs), .sl 5 (List.map eBox ys), .fn 83 []] (.bool (eqFunc sbx xs ys)) := by
  obtain ⟨xs_r, hxs_r⟩ : ∃ r, r = xs.map eBox := ⟨_, rfl⟩
  have lxs_r : A.rlen xs_r = (List.length xs : Int) := rlen_map hA hxs_r
  obtain ⟨ys_r, hys_r⟩ : ∃ r, r = ys.map eBox := ⟨_, rfl⟩
  have lys_r : A.rlen ys_r = (List.length ys : Int) := rlen_map hA hys_r
  refine real_args (args' := [.sl 5 xs_r, .sl 5 ys_r, .fn 83 []]) (by subst hxs_r hys_r; rfl) ?_
  refine real tyOk Try.func82 (by kernel_rfl) (afun_of rfl ?_)
  refine go_seq ?_
  refine go_reg ?_
  refine run_aops hA 1 _ _ _ _ (by cbv) ?_
  refine ops_done ?_
  refine go_seq ?_
  refine go_seq ?_
  refine go_reg ?_
  refine run_aops hA 5 _ _ _ _ (by cbv) ?_
  refine ops_done ?_
  refine go_cond rfl (fun c1 => ?_) (fun c1 => ?_)
  · skip
    have ec1 : (A.rlen xs_r) ≠ (A.rlen ys_r) := neq_t hA c1
    refine go_seq ?_
    refine go_reg ?_
    refine run_aops hA 1 _ _ _ _ (by cbv) ?_
    refine ops_done ?_
    refine go_ret ⟨_, by cbv, ?_⟩
    show _ = (PV.bool false)
    refine congrArg PV.bool ?_
    exact eqFunc_len _ _ _ (by omega)
  · skip
    have ec1 : (A.rlen xs_r) = (A.rlen ys_r) := neq_f hA c1
    refine go_skip ?_
    refine go_seq ?_
    refine go_seq ?_
    refine go_reg ?_
    refine run_aops hA 3 _ _ _ _ (by cbv) ?_
    refine ops_done ?_
    refine go_block ?_
    refine go_loopE (fun σ m => ∃ (i : Nat) (n : Int), σ = (S82_1 ys_r xs_r (A.rlen xs_r) n) ∧ (n = (i : Int) ∧ i ≤ List.length xs ∧ eqFunc sbx xs ys = eqFunc sbx (xs.drop i) (ys.drop i)) ∧ m = List.length xs - i) _ [] [1, 2, 15, 16, 17] [] (S82_1 ys_r xs_r (A.rlen xs_r) 0) rfl (by cbv) ⟨0, 0, rfl, ?_, rfl⟩ (fun σ m hI => ?_)
    · skip
      exact ⟨rfl, Nat.zero_le _, rfl⟩
    obtain ⟨i, n, rfl, ⟨hn, hi, hE⟩, rfl⟩ := hI
    refine go_seq ?_
    refine go_reg ?_
    refine run_aops hA 1 _ _ _ _ (by cbv) ?_
    refine ops_done ?_
    refine go_seq ?_
    refine go_cond rfl (fun c2 => ?_) (fun c2 => ?_)
    · skip
      have ec2 : n < (A.rlen xs_r) := lss_t hA c2
      refine go_skip ?_
      refine go_seq ?_
      refine go_block ?_
      refine go_seq ?_
      refine go_reg ?_
      refine run_aops hA 1 _ _ _ _ (by cbv) ?_
      have h0x3 : (0 : Int) ≤ n := by
        omega
      have hlx3 : (Int.toNat n) < List.length xs := by
        omega
      obtain ⟨x3, hx3⟩ : ∃ x, (xs)[(Int.toNat n)]? = some x := ⟨_, List.getElem?_eq_getElem hlx3⟩
      have hmx3 := List.mem_of_getElem? hx3
      obtain ⟨x3_Valid, x3_User, x3_Name, x3_Next, x3_Mails⟩ := x3
      obtain ⟨x3_Mails_r, hx3_Mails_r⟩ : ∃ r, r = x3_Mails.map eMail := ⟨_, rfl⟩
      have lx3_Mails_r : A.rlen x3_Mails_r = (List.length x3_Mails : Int) := rlen_map hA hx3_Mails_r
      have hrx3 : xs_r[(Int.toNat n)]? = some [.int .i64 x3_Valid, .str x3_User, .str x3_Name, .int .i64 x3_Next, .sl 3 x3_Mails_r] := by
        subst hx3_Mails_r; exact map_at eBox hxs_r hx3
      have hix3 := hx3
      rw [hn] at hix3
      have hix3 : (xs)[i]? = some (⟨x3_Valid, x3_User, x3_Name, x3_Next, x3_Mails⟩ : GBox) := hix3
      refine ops_step rfl rfl (idx_sl rfl rfl rfl rfl rfl h0x3 rfl hrx3) ?_
      refine run_aops hA 4 _ _ _ _ (by cbv) ?_
      refine ops_done ?_
      refine go_seq ?_
      refine go_reg ?_
      refine run_aops hA 2 _ _ _ _ (by cbv) ?_
      have h0x4 : (0 : Int) ≤ n := by
        omega
      have hlx4 : (Int.toNat n) < List.length ys := by
        omega
      obtain ⟨x4, hx4⟩ : ∃ x, (ys)[(Int.toNat n)]? = some x := ⟨_, List.getElem?_eq_getElem hlx4⟩
      have hmx4 := List.mem_of_getElem? hx4
      obtain ⟨x4_Valid, x4_User, x4_Name, x4_Next, x4_Mails⟩ := x4
      obtain ⟨x4_Mails_r, hx4_Mails_r⟩ : ∃ r, r = x4_Mails.map eMail := ⟨_, rfl⟩
      have lx4_Mails_r : A.rlen x4_Mails_r = (List.length x4_Mails : Int) := rlen_map hA hx4_Mails_r
      have hrx4 : ys_r[(Int.toNat n)]? = some [.int .i64 x4_Valid, .str x4_User, .str x4_Name, .int .i64 x4_Next, .sl 3 x4_Mails_r] := by
        subst hx4_Mails_r; exact map_at eBox hys_r hx4
      have hix4 := hx4
      rw [hn] at hix4
      have hix4 : (ys)[i]? = some (⟨x4_Valid, x4_User, x4_Name, x4_Next, x4_Mails⟩ : GBox) := hix4
      refine ops_step rfl rfl (idx_sl rfl rfl rfl rfl rfl h0x4 rfl hrx4) ?_
      refine run_aops hA 3 _ _ _ _ (by cbv) ?_
      refine ops_done ?_
      refine go_seq ?_
      refine go_reg ?_
      refine run_aops hA 3 _ _ _ _ (by cbv) ?_
      obtain ⟨v29_5, hv29_5, hc6⟩ : ∃ (v29_5 : Bool), v29_5 = (sbx (⟨x3_Valid, x3_User, x3_Name, x3_Next, x3_Mails⟩ : GBox) (⟨x4_Valid, x4_User, x4_Name, x4_Next, x4_Mails⟩ : GBox)) ∧ Real Try.prog 83 [.agg [.int .i64 x3_Valid, .str x3_User, .str x3_Name, .int .i64 x3_Next, .sl 3 x3_Mails_r], .agg [.int .i64 x4_Valid, .str x4_User, .str x4_Name, .int .i64 x4_Next, .sl 3 x4_Mails_r]] (.bool v29_5) := ⟨_, rfl, by subst hx3_Mails_r hx4_Mails_r; exact r_impl_sameBox A hA (⟨x3_Valid, x3_User, x3_Name, x3_Next, x3_Mails⟩ : GBox) (⟨x4_Valid, x4_User, x4_Name, x4_Next, x4_Mails⟩ : GBox) (hm _ (by assumption))⟩
      refine ops_callV rfl rfl (by cbv) (by cbv) hc6 (.inr rfl) (by cbv) ?_
      refine run_aops hA 1 _ _ _ _ (by cbv) ?_
      refine ops_done ?_
      refine go_cond rfl (fun c7 => ?_) (fun c7 => ?_)
      · skip
        have c8 : v29_5 = false := bnot_t hA c7
        refine go_seq ?_
        refine go_reg ?_
        refine run_aops hA 1 _ _ _ _ (by cbv) ?_
        refine ops_done ?_
        refine go_ret ⟨_, by cbv, ?_⟩
        show _ = (PV.bool false)
        refine congrArg PV.bool ?_
        rw [hE, eqFunc_at sbx hix3 hix4]
        rw [← hv29_5]; simp [show v29_5 = false from c8]
      · skip
        have c9 : v29_5 = true := bnot_f hA c7
        refine go_skip ?_
        refine go_reg ?_
        refine run_aops hA 2 _ _ _ _ (by cbv) ?_
        refine ops_done ?_
        refine ⟨(S82_1 ys_r xs_r (A.rlen xs_r) (A.num .add .i64 n 1)), List.length xs - (i + 1), ?_, by cbv, i + 1, (A.num .add .i64 n 1), rfl, ?_, rfl⟩
        · skip
          omega
        · skip
          refine ⟨by rw [add_i64 hA (by omega) (by omega)]; omega, by omega, ?_⟩
          rw [hE, eqFunc_at sbx hix3 hix4]
          rw [← hv29_5]; simp [show v29_5 = true from c9]
    · skip
      have ec2 : (A.rlen xs_r) ≤ n := lss_f hA c2
      refine go_exit ⟨fun _ => ?_, fun h => absurd rfl h⟩
      refine go_seq ?_
      refine go_reg ?_
      refine run_aops hA 1 _ _ _ _ (by cbv) ?_
      refine ops_done ?_
      refine go_ret ⟨_, by cbv, ?_⟩
      show _ = (PV.bool true)
      refine congrArg PV.bool ?_
      rw [hE]; exact eqFunc_end _ (by omega) (by omega)

theorem r_impl_SameState (A : Alg) (hA : A = std) (a : GState) (b : GState) (hx : (List.length a.Boxes : Int) ≤ 4611686018427387904) (hm : ∀ x ∈ a.Boxes, (List.length x.Mails : Int) ≤ 4611686018427387904) : Real Try.prog 50 [.agg (eState a), .agg (eState b)] (.bool (eqFunc sbx a.Boxes b.Boxes)) := by
  obtain ⟨a_Boxes⟩ := a
  obtain ⟨a_Boxes_r, ha_Boxes_r⟩ : ∃ r, r = a_Boxes.map eBox := ⟨_, rfl⟩
  have la_Boxes_r : A.rlen a_Boxes_r = (List.length a_Boxes : Int) := rlen_map hA ha_Boxes_r
  obtain ⟨b_Boxes⟩ := b
  obtain ⟨b_Boxes_r, hb_Boxes_r⟩ : ∃ r, r = b_Boxes.map eBox := ⟨_, rfl⟩
  have lb_Boxes_r : A.rlen b_Boxes_r = (List.length b_Boxes : Int) := rlen_map hA hb_Boxes_r
  refine real_args (args' := [.agg [.sl 5 a_Boxes_r], .agg [.sl 5 b_Boxes_r]]) (by subst ha_Boxes_r hb_Boxes_r; rfl) ?_
  refine real tyOk Try.func50 (by kernel_rfl) (afun_of rfl ?_)
  refine go_seq ?_
  refine go_reg ?_
  refine run_aops hA 3 _ _ _ _ (by cbv) ?_
  refine ops_done ?_
  refine go_seq ?_
  refine go_reg ?_
  refine run_aops hA 4 _ _ _ _ (by cbv) ?_
  obtain ⟨v9_1, hv9_1, hc2⟩ : ∃ (v9_1 : Bool), v9_1 = (eqFunc sbx a_Boxes b_Boxes) ∧ Real Try.prog 82 [.sl 5 a_Boxes_r, .sl 5 b_Boxes_r, .fn 83 []] (.bool v9_1) := ⟨_, rfl, by subst ha_Boxes_r hb_Boxes_r; exact r_EqualFunc_Box A hA a_Boxes b_Boxes hx hm⟩
  refine ops_callV rfl rfl (by cbv) (by cbv) hc2 (.inr rfl) (by cbv) ?_
  refine run_aops hA 1 _ _ _ _ (by cbv) ?_
  refine ops_done ?_
  refine go_ret ⟨_, by cbv, ?_⟩
  show _ = (PV.bool v9_1)
  exact congrArg PV.bool hv9_1.symm

def S48_1 (p0 : Int) (p1 : List (List PV)) (p2 : List (List PV)) : St := { sl := [.bad, .bad, .pt 2 0 0, .pt 3 0 0, .bad, .int .i64 p0, .bad, .bad, .bad, .bad, .bad, .bad, .bad, .bad, .bad, .bad, .bad, .bad, .bad, .bad, .bad, .bad, .bad, .bad, .bad, .bad, .bad, .bad, .bad, .bad, .bad, .bad, .bad, .bad, .bad, .bad, .bad, .bad, .bad, .bad, .bad, .bad, .bad, .bad, .bad, .bad, .bad, .bad, .bad, .bad, .bad, .bad, .bad, .bad, .bad, .bad, .bad, .bad, .bad, .bad, .bad, .bad, .bad, .bad, .bad, .bad, .bad, .bad, .bad, .bad, .bad, .bad, .bad, .bad, .bad, .bad, .bad, .bad, .bad, .bad, .bad, .bad, .bad, .bad, .bad, .bad], bl := [(3, ⟨.var, 1, [[.sl 5 p1]]⟩), (2, ⟨.var, 1, [[.sl 5 p2]]⟩)] }
def S48_2 (p0 : Int) (p1 : Int) (p2 : ByteArray) (p3 : ByteArray) (p4 : Bool) (p5 : ByteArray) (p6 : ByteArray) (p7 : Bool) (p8 : Int) (p9 : Int) (p10 : Bool) (p11 : List (List PV)) (p12 : Int) (p13 : List (List PV)) (p14 : Int) (p15 : Bool) (p16 : Int) (p17 : Int) (p18 : List (List PV)) (p19 : List (List PV)) : St := { sl := [.bad, .bad, .pt 2 0 0, .pt 3 0 0, .bad, .int .i64 p0, .pt 6 0 0, .pt 7 0 0, .int .i64 p1, .bad, .bad, .bad, .bad, .bad, .bad, .bad, .bad, .bad, .bad, .bad, .bad, .bad, .bad, .bad, .bad, .bad, .bad, .bad, .bad, .bad, .bad, .bad, .bad, .bad, .bad, .bad, .bad, .bad, .bad, .pt 6 0 1, .str p2, .pt 7 0 1, .str p3, .bool p4, .bad, .bad, .pt 6 0 2, .str p5, .pt 7 0 2, .str p6, .bool p7, .bad, .bad, .pt 6 0 3, .int .i64 p8, .pt 7 0 3, .int .i64 p9, .bool p10, .bad, .bad, .pt 6 0 4, .sl 3 p11, .int .i64 p12, .pt 7 0 4, .sl 3 p13, .int .i64 p14, .bool p15, .bad, .bad, .bad, .bad, .bad, .bad, .bad, .bad, .bad, .bad, .bad, .bad, .bad, .bad, .bad, .bad, .bad, .bad, .bad], bl := [(7, ⟨.var, 5, [[.int .i64 p16, .str p3, .str p6, .int .i64 p9, .sl 3 p13]]⟩), (6, ⟨.var, 5, [[.int .i64 p17, .str p2, .str p5, .int .i64 p8, .sl 3 p11]]⟩), (3, ⟨.var, 1, [[.sl 5 p18]]⟩), (2, ⟨.var, 1, [[.sl 5 p19]]⟩)] }
theorem r_spec_SameState (A : Alg) (hA : A = std) (a : GState) (b : GState) (hx : (List.length a.Boxes : Int) ≤ 4611686018427387904) (hm : ∀ x ∈ a.Boxes, (List.length x.Mails : Int) ≤ 4611686018427387904) : Real Try.prog 48 [.agg (eState a), .agg (eState b)] (.bool (eqFunc sbx a.Boxes b.Boxes)) := by
  obtain ⟨a_Boxes⟩ := a
  obtain ⟨a_Boxes_r, ha_Boxes_r⟩ : ∃ r, r = a_Boxes.map eBox := ⟨_, rfl⟩
  have la_Boxes_r : A.rlen a_Boxes_r = (List.length a_Boxes : Int) := rlen_map hA ha_Boxes_r
  obtain ⟨b_Boxes⟩ := b
  obtain ⟨b_Boxes_r, hb_Boxes_r⟩ : ∃ r, r = b_Boxes.map eBox := ⟨_, rfl⟩
  have lb_Boxes_r : A.rlen b_Boxes_r = (List.length b_Boxes : Int) := rlen_map hA hb_Boxes_r
  refine real_args (args' := [.agg [.sl 5 a_Boxes_r], .agg [.sl 5 b_Boxes_r]]) (by subst ha_Boxes_r hb_Boxes_r; rfl) ?_
  have hx : (List.length a_Boxes : Int) ≤ 4611686018427387904 := hx
  have hm : ∀ x ∈ a_Boxes, (List.length x.Mails : Int) ≤ 4611686018427387904 := hm
  refine real tyOk Try.func48 (by kernel_rfl) (afun_of rfl ?_)
  refine go_seq ?_
  refine go_reg ?_
  refine run_aops hA 3 _ _ _ _ (by cbv) ?_
  refine ops_done ?_
  refine go_seq ?_
  refine go_seq ?_
  refine go_reg ?_
  refine run_aops hA 7 _ _ _ _ (by cbv) ?_
  refine ops_done ?_
  refine go_cond rfl (fun c1 => ?_) (fun c1 => ?_)
  · skip
    have ec1 : (A.rlen a_Boxes_r) ≠ (A.rlen b_Boxes_r) := neq_t hA c1
    refine go_seq ?_
    refine go_reg ?_
    refine run_aops hA 1 _ _ _ _ (by cbv) ?_
    refine ops_done ?_
    refine go_ret ⟨_, by cbv, ?_⟩
    show _ = (PV.bool false)
    refine congrArg PV.bool ?_
    exact eqFunc_len _ _ _ (by show List.length a_Boxes ≠ List.length b_Boxes; omega)
  · skip
    have ec1 : (A.rlen a_Boxes_r) = (A.rlen b_Boxes_r) := neq_f hA c1
    refine go_skip ?_
    refine go_seq ?_
    refine go_seq ?_
    refine go_reg ?_
    refine run_aops hA 1 _ _ _ _ (by cbv) ?_
    refine ops_done ?_
    refine go_block ?_
    refine go_loopE (fun σ m => ∃ (i : Nat) (n : Int), σ = (S48_1 n b_Boxes_r a_Boxes_r) ∧ (n = (i : Int) ∧ i ≤ List.length a_Boxes ∧ eqFunc sbx a_Boxes b_Boxes = eqFunc sbx (a_Boxes.drop i) (b_Boxes.drop i)) ∧ m = List.length a_Boxes - i) _ [] [2, 3, 5] [3, 2] (S48_1 0 b_Boxes_r a_Boxes_r) rfl (by cbv) ⟨0, 0, rfl, ?_, rfl⟩ (fun σ m hI => ?_)
    · skip
      exact ⟨rfl, Nat.zero_le _, rfl⟩
    obtain ⟨i, n, rfl, ⟨hn, hi, hE⟩, rfl⟩ := hI
    refine go_seq ?_
    refine go_seq ?_
    refine go_reg ?_
    refine run_aops hA 5 _ _ _ _ (by cbv) ?_
    refine ops_done ?_
    refine go_cond rfl (fun c2 => ?_) (fun c2 => ?_)
    · skip
      have ec2 : n < (A.rlen a_Boxes_r) := lss_t hA c2
      refine go_skip ?_
      refine go_seq ?_
      refine go_block ?_
      refine go_seq ?_
      refine go_reg ?_
      refine run_aops hA 3 _ _ _ _ (by cbv) ?_
      have h0x3 : (0 : Int) ≤ n := by
        omega
      have hlx3 : (Int.toNat n) < List.length a_Boxes := by
        omega
      obtain ⟨x3, hx3⟩ : ∃ x, (a_Boxes)[(Int.toNat n)]? = some x := ⟨_, List.getElem?_eq_getElem hlx3⟩
      have hmx3 := List.mem_of_getElem? hx3
      obtain ⟨x3_Valid, x3_User, x3_Name, x3_Next, x3_Mails⟩ := x3
      obtain ⟨x3_Mails_r, hx3_Mails_r⟩ : ∃ r, r = x3_Mails.map eMail := ⟨_, rfl⟩
      have lx3_Mails_r : A.rlen x3_Mails_r = (List.length x3_Mails : Int) := rlen_map hA hx3_Mails_r
      have hrx3 : a_Boxes_r[(Int.toNat n)]? = some [.int .i64 x3_Valid, .str x3_User, .str x3_Name, .int .i64 x3_Next, .sl 3 x3_Mails_r] := by
        subst hx3_Mails_r; exact map_at eBox ha_Boxes_r hx3
      have hix3 := hx3
      rw [hn] at hix3
      have hix3 : (a_Boxes)[i]? = some (⟨x3_Valid, x3_User, x3_Name, x3_Next, x3_Mails⟩ : GBox) := hix3
      refine ops_step rfl rfl (idx_sl rfl rfl rfl rfl rfl h0x3 rfl hrx3) ?_
      refine run_aops hA 3 _ _ _ _ (by cbv) ?_
      refine ops_done ?_
      refine go_seq ?_
      refine go_reg ?_
      refine run_aops hA 3 _ _ _ _ (by cbv) ?_
      have h0x4 : (0 : Int) ≤ n := by
        omega
      have hlx4 : (Int.toNat n) < List.length b_Boxes := by
        omega
      obtain ⟨x4, hx4⟩ : ∃ x, (b_Boxes)[(Int.toNat n)]? = some x := ⟨_, List.getElem?_eq_getElem hlx4⟩
      have hmx4 := List.mem_of_getElem? hx4
      obtain ⟨x4_Valid, x4_User, x4_Name, x4_Next, x4_Mails⟩ := x4
      obtain ⟨x4_Mails_r, hx4_Mails_r⟩ : ∃ r, r = x4_Mails.map eMail := ⟨_, rfl⟩
      have lx4_Mails_r : A.rlen x4_Mails_r = (List.length x4_Mails : Int) := rlen_map hA hx4_Mails_r
      have hrx4 : b_Boxes_r[(Int.toNat n)]? = some [.int .i64 x4_Valid, .str x4_User, .str x4_Name, .int .i64 x4_Next, .sl 3 x4_Mails_r] := by
        subst hx4_Mails_r; exact map_at eBox hb_Boxes_r hx4
      have hix4 := hx4
      rw [hn] at hix4
      have hix4 : (b_Boxes)[i]? = some (⟨x4_Valid, x4_User, x4_Name, x4_Next, x4_Mails⟩ : GBox) := hix4
      refine ops_step rfl rfl (idx_sl rfl rfl rfl rfl rfl h0x4 rfl hrx4) ?_
      refine run_aops hA 3 _ _ _ _ (by cbv) ?_
      refine ops_done ?_
      refine go_seq ?_
      refine go_seq ?_
      refine go_reg ?_
      refine run_aops hA 6 _ _ _ _ (by cbv) ?_
      refine ops_split 38 rfl (fun c5 => ?_) (fun c5 => ?_)
      · skip
        have ec5 : x3_Valid ≠ x4_Valid := neq_t hA c5
        refine run_aops hA 29 _ _ _ _ (by cbv) ?_
        refine ops_done ?_
        refine go_cond rfl (fun c6 => ?_) (fun c6 => ?_)
        · skip
          refine go_seq ?_
          refine go_reg ?_
          refine run_aops hA 1 _ _ _ _ (by cbv) ?_
          refine ops_done ?_
          refine go_ret ⟨_, by cbv, ?_⟩
          show _ = (PV.bool false)
          refine congrArg PV.bool ?_
          rw [hE, eqFunc_at sbx hix3 hix4]
          simp only [sbx]
          simp [ec5]
        · skip
          exact absurd (show true = false from c6) (by rw [show true = true from by rfl]; decide)
      · skip
        have ec5 : x3_Valid = x4_Valid := neq_f hA c5
        refine run_aops hA 7 _ _ _ _ (by cbv) ?_
        refine ops_split 45 rfl (fun c7 => ?_) (fun c7 => ?_)
        · skip
          have ec7 : x3_User ≠ x4_User := sneq_t hA c7
          refine run_aops hA 22 _ _ _ _ (by cbv) ?_
          refine ops_done ?_
          refine go_cond rfl (fun c8 => ?_) (fun c8 => ?_)
          · skip
            refine go_seq ?_
            refine go_reg ?_
            refine run_aops hA 1 _ _ _ _ (by cbv) ?_
            refine ops_done ?_
            refine go_ret ⟨_, by cbv, ?_⟩
            show _ = (PV.bool false)
            refine congrArg PV.bool ?_
            rw [hE, eqFunc_at sbx hix3 hix4]
            simp only [sbx]
            simp [ec5, ec7]
          · skip
            exact absurd (show true = false from c8) (by rw [show true = true from by rfl]; decide)
        · skip
          have ec7 : x3_User = x4_User := sneq_f hA c7
          refine run_aops hA 7 _ _ _ _ (by cbv) ?_
          refine ops_split 52 rfl (fun c9 => ?_) (fun c9 => ?_)
          · skip
            have ec9 : x3_Name ≠ x4_Name := sneq_t hA c9
            refine run_aops hA 15 _ _ _ _ (by cbv) ?_
            refine ops_done ?_
            refine go_cond rfl (fun c10 => ?_) (fun c10 => ?_)
            · skip
              refine go_seq ?_
              refine go_reg ?_
              refine run_aops hA 1 _ _ _ _ (by cbv) ?_
              refine ops_done ?_
              refine go_ret ⟨_, by cbv, ?_⟩
              show _ = (PV.bool false)
              refine congrArg PV.bool ?_
              rw [hE, eqFunc_at sbx hix3 hix4]
              simp only [sbx]
              simp [ec5, ec7, ec9]
            · skip
              exact absurd (show true = false from c10) (by rw [show true = true from by rfl]; decide)
          · skip
            have ec9 : x3_Name = x4_Name := sneq_f hA c9
            refine run_aops hA 7 _ _ _ _ (by cbv) ?_
            refine ops_split 59 rfl (fun c11 => ?_) (fun c11 => ?_)
            · skip
              have ec11 : x3_Next ≠ x4_Next := neq_t hA c11
              refine run_aops hA 8 _ _ _ _ (by cbv) ?_
              refine ops_done ?_
              refine go_cond rfl (fun c12 => ?_) (fun c12 => ?_)
              · skip
                refine go_seq ?_
                refine go_reg ?_
                refine run_aops hA 1 _ _ _ _ (by cbv) ?_
                refine ops_done ?_
                refine go_ret ⟨_, by cbv, ?_⟩
                show _ = (PV.bool false)
                refine congrArg PV.bool ?_
                rw [hE, eqFunc_at sbx hix3 hix4]
                simp only [sbx]
                simp [ec5, ec7, ec9, ec11]
              · skip
                exact absurd (show true = false from c12) (by rw [show true = true from by rfl]; decide)
            · skip
              have ec11 : x3_Next = x4_Next := neq_f hA c11
              refine run_aops hA 8 _ _ _ _ (by cbv) ?_
              refine ops_done ?_
              refine go_cond rfl (fun c13 => ?_) (fun c13 => ?_)
              · skip
                have ec13 : (A.rlen x3_Mails_r) ≠ (A.rlen x4_Mails_r) := neq_t hA c13
                refine go_seq ?_
                refine go_reg ?_
                refine run_aops hA 1 _ _ _ _ (by cbv) ?_
                refine ops_done ?_
                refine go_ret ⟨_, by cbv, ?_⟩
                show _ = (PV.bool false)
                refine congrArg PV.bool ?_
                rw [hE, eqFunc_at sbx hix3 hix4]
                simp only [sbx]
                rw [eqFunc_len mq _ _ (by omega)]
                simp [ec5, ec7, ec9, ec11, ec13]
              · skip
                have ec13 : (A.rlen x3_Mails_r) = (A.rlen x4_Mails_r) := neq_f hA c13
                refine go_skip ?_
                refine go_seq ?_
                have hxm := hm _ hmx3
                have hxm : (List.length x3_Mails : Int) ≤ 4611686018427387904 := hxm
                refine go_reg ?_
                refine run_aops hA 1 _ _ _ _ (by cbv) ?_
                refine ops_done ?_
                refine go_block ?_
                refine go_loopE (fun σ m => ∃ (k : Nat) (n2 : Int), σ = (S48_2 n n2 x3_User x4_User (A.scmp .neq x3_User x4_User) x3_Name x4_Name (A.scmp .neq x3_Name x4_Name) x3_Next x4_Next (A.cmp .neq x3_Next x4_Next) x3_Mails_r (A.rlen x3_Mails_r) x4_Mails_r (A.rlen x4_Mails_r) (A.cmp .neq (A.rlen x3_Mails_r) (A.rlen x4_Mails_r)) x4_Valid x3_Valid b_Boxes_r a_Boxes_r) ∧ (n2 = (k : Int) ∧ k ≤ List.length x3_Mails ∧ eqFunc mq x3_Mails x4_Mails = eqFunc mq (x3_Mails.drop k) (x4_Mails.drop k)) ∧ m = List.length x3_Mails - k) _ [] [2, 3, 5, 6, 7, 8, 39, 40, 41, 42, 43, 46, 47, 48, 49, 50, 53, 54, 55, 56, 57, 60, 61, 62, 63, 64, 65, 66] [7, 6, 3, 2] (S48_2 n 0 x3_User x4_User (A.scmp .neq x3_User x4_User) x3_Name x4_Name (A.scmp .neq x3_Name x4_Name) x3_Next x4_Next (A.cmp .neq x3_Next x4_Next) x3_Mails_r (A.rlen x3_Mails_r) x4_Mails_r (A.rlen x4_Mails_r) (A.cmp .neq (A.rlen x3_Mails_r) (A.rlen x4_Mails_r)) x4_Valid x3_Valid b_Boxes_r a_Boxes_r) rfl (by cbv) ⟨0, 0, rfl, ?_, rfl⟩ (fun σ m hI => ?_)
                · skip
                  exact ⟨rfl, Nat.zero_le _, rfl⟩
                obtain ⟨k, n2, rfl, ⟨hk, hkl, hE2⟩, rfl⟩ := hI
                refine go_seq ?_
                refine go_seq ?_
                refine go_reg ?_
                refine run_aops hA 5 _ _ _ _ (by cbv) ?_
                refine ops_done ?_
                refine go_cond rfl (fun c14 => ?_) (fun c14 => ?_)
                · skip
                  have ec14 : n2 < (A.rlen x3_Mails_r) := lss_t hA c14
                  refine go_skip ?_
                  refine go_seq ?_
                  refine go_block ?_
                  refine go_seq ?_
                  refine go_draw (by cbv) ?_
                  refine run_dops hA 3 _ _ _ _ (by cbv) ?_
                  have h0x15 : (0 : Int) ≤ n2 := by
                    omega
                  have hlx15 : (Int.toNat n2) < List.length x3_Mails := by
                    omega
                  obtain ⟨x15, hx15⟩ : ∃ x, (x3_Mails)[(Int.toNat n2)]? = some x := ⟨_, List.getElem?_eq_getElem hlx15⟩
                  have hmx15 := List.mem_of_getElem? hx15
                  obtain ⟨x15_Uid, x15_Flags, x15_Text⟩ := x15
                  have hrx15 : x3_Mails_r[(Int.toNat n2)]? = some [.int .i64 x15_Uid, .int .i64 x15_Flags, .str x15_Text] := by
                    exact map_at eMail hx3_Mails_r hx15
                  have hix15 := hx15
                  rw [hk] at hix15
                  have hix15 : (x3_Mails)[k]? = some (⟨x15_Uid, x15_Flags, x15_Text⟩ : GMail) := hix15
                  refine dops_step rfl rfl rfl (idx_sl rfl rfl rfl rfl rfl h0x15 rfl hrx15) ?_
                  refine run_dops hA 4 _ _ _ _ (by cbv) ?_
                  have h0x16 : (0 : Int) ≤ n2 := by
                    omega
                  have hlx16 : (Int.toNat n2) < List.length x4_Mails := by
                    omega
                  obtain ⟨x16, hx16⟩ : ∃ x, (x4_Mails)[(Int.toNat n2)]? = some x := ⟨_, List.getElem?_eq_getElem hlx16⟩
                  have hmx16 := List.mem_of_getElem? hx16
                  obtain ⟨x16_Uid, x16_Flags, x16_Text⟩ := x16
                  have hrx16 : x4_Mails_r[(Int.toNat n2)]? = some [.int .i64 x16_Uid, .int .i64 x16_Flags, .str x16_Text] := by
                    exact map_at eMail hx4_Mails_r hx16
                  have hix16 := hx16
                  rw [hk] at hix16
                  have hix16 : (x4_Mails)[k]? = some (⟨x16_Uid, x16_Flags, x16_Text⟩ : GMail) := hix16
                  refine dops_step rfl rfl rfl (idx_sl rfl rfl rfl rfl rfl h0x16 rfl hrx16) ?_
                  refine run_dops hA 2 _ _ _ _ (by cbv) ?_
                  refine dops_done ?_
                  refine go_cond rfl (fun c17 => ?_) (fun c17 => ?_)
                  · skip
                    have c18 : (A.aeq [.int .i64 x15_Uid, .int .i64 x15_Flags, .str x15_Text] [.int .i64 x16_Uid, .int .i64 x16_Flags, .str x16_Text]) = false := bnot_t hA c17
                    have ec18 : ([.int .i64 x15_Uid, .int .i64 x15_Flags, .str x15_Text] : List PV) ≠ [.int .i64 x16_Uid, .int .i64 x16_Flags, .str x16_Text] := aeq_f hA (by rfl) c18
                    refine go_seq ?_
                    refine go_reg ?_
                    refine run_aops hA 1 _ _ _ _ (by cbv) ?_
                    refine ops_done ?_
                    refine go_ret ⟨_, by cbv, ?_⟩
                    show _ = (PV.bool false)
                    refine congrArg PV.bool ?_
                    rw [hE, eqFunc_at sbx hix3 hix4]
                    simp only [sbx]
                    rw [hE2, eqFunc_at mq hix15 hix16, show mq (⟨x15_Uid, x15_Flags, x15_Text⟩ : GMail) (⟨x16_Uid, x16_Flags, x16_Text⟩ : GMail) = false from Bool.eq_false_iff.2 fun h => ec18 ((pvEqL_iff (by rfl) (by rfl)).1 h)]
                    simp
                  · skip
                    have c19 : (A.aeq [.int .i64 x15_Uid, .int .i64 x15_Flags, .str x15_Text] [.int .i64 x16_Uid, .int .i64 x16_Flags, .str x16_Text]) = true := bnot_f hA c17
                    have ec19 : ([.int .i64 x15_Uid, .int .i64 x15_Flags, .str x15_Text] : List PV) = [.int .i64 x16_Uid, .int .i64 x16_Flags, .str x16_Text] := aeq_t hA (by rfl) c19
                    refine go_skip ?_
                    refine go_reg ?_
                    refine run_aops hA 3 _ _ _ _ (by cbv) ?_
                    refine ops_done ?_
                    refine ⟨(S48_2 n (A.num .add .i64 n2 1) x3_User x4_User (A.scmp .neq x3_User x4_User) x3_Name x4_Name (A.scmp .neq x3_Name x4_Name) x3_Next x4_Next (A.cmp .neq x3_Next x4_Next) x3_Mails_r (A.rlen x3_Mails_r) x4_Mails_r (A.rlen x4_Mails_r) (A.cmp .neq (A.rlen x3_Mails_r) (A.rlen x4_Mails_r)) x4_Valid x3_Valid b_Boxes_r a_Boxes_r), List.length x3_Mails - (k + 1), ?_, by cbv, k + 1, (A.num .add .i64 n2 1), rfl, ?_, rfl⟩
                    · skip
                      omega
                    · skip
                      refine ⟨by rw [add_i64 hA (by omega) (by omega)]; omega, by omega, ?_⟩
                      rw [hE2, eqFunc_at mq hix15 hix16, show mq (⟨x15_Uid, x15_Flags, x15_Text⟩ : GMail) (⟨x16_Uid, x16_Flags, x16_Text⟩ : GMail) = true from (pvEqL_iff (by rfl) (by rfl)).2 ec19, Bool.true_and]
                · skip
                  have ec14 : (A.rlen x3_Mails_r) ≤ n2 := lss_f hA c14
                  refine go_exit ⟨fun _ => ?_, fun h => absurd rfl h⟩
                  refine go_reg ?_
                  refine run_aops hA 3 _ _ _ _ (by cbv) ?_
                  refine ops_done ?_
                  refine ⟨(S48_1 (A.num .add .i64 n 1) b_Boxes_r a_Boxes_r), List.length a_Boxes - (i + 1), ?_, by cbv, i + 1, (A.num .add .i64 n 1), rfl, ?_, rfl⟩
                  · skip
                    omega
                  · skip
                    refine ⟨by rw [add_i64 hA (by omega) (by omega)]; omega, by omega, ?_⟩
                    rw [hE, eqFunc_at sbx hix3 hix4]
                    simp only [sbx]
                    rw [hE2, eqFunc_end mq (by omega) (by omega)]
                    simp [ec5, ec7, ec9, ec11, ec13]
    · skip
      have ec2 : (A.rlen a_Boxes_r) ≤ n := lss_f hA c2
      refine go_exit ⟨fun _ => ?_, fun h => absurd rfl h⟩
      refine go_seq ?_
      refine go_reg ?_
      refine run_aops hA 1 _ _ _ _ (by cbv) ?_
      refine ops_done ?_
      refine go_ret ⟨_, by cbv, ?_⟩
      show _ = (PV.bool true)
      refine congrArg PV.bool ?_
      rw [hE]; exact eqFunc_end _ (by omega) (by omega)

def cutF (c : GCut) : Bool := c.Clash || c.Ok && (eqFunc sbx c.Risen.Boxes c.Before.Boxes || eqFunc sbx c.Risen.Boxes c.After.Boxes)

theorem r_spec_CutRight (A : Alg) (hA : A = std) (c : GCut) (hb : (List.length c.Risen.Boxes : Int) ≤ 4611686018427387904) (hbm : ∀ x ∈ c.Risen.Boxes, (List.length x.Mails : Int) ≤ 4611686018427387904) : Real Try.prog 16 [.agg (eCut c)] (.bool (cutF c)) := by
  obtain ⟨⟨c_Before_Boxes⟩, ⟨c_After_Boxes⟩, ⟨c_Risen_Boxes⟩, c_Ok, c_Clash⟩ := c
  obtain ⟨c_Before_Boxes_r, hc_Before_Boxes_r⟩ : ∃ r, r = c_Before_Boxes.map eBox := ⟨_, rfl⟩
  have lc_Before_Boxes_r : A.rlen c_Before_Boxes_r = (List.length c_Before_Boxes : Int) := rlen_map hA hc_Before_Boxes_r
  obtain ⟨c_After_Boxes_r, hc_After_Boxes_r⟩ : ∃ r, r = c_After_Boxes.map eBox := ⟨_, rfl⟩
  have lc_After_Boxes_r : A.rlen c_After_Boxes_r = (List.length c_After_Boxes : Int) := rlen_map hA hc_After_Boxes_r
  obtain ⟨c_Risen_Boxes_r, hc_Risen_Boxes_r⟩ : ∃ r, r = c_Risen_Boxes.map eBox := ⟨_, rfl⟩
  have lc_Risen_Boxes_r : A.rlen c_Risen_Boxes_r = (List.length c_Risen_Boxes : Int) := rlen_map hA hc_Risen_Boxes_r
  refine real_args (args' := [.agg [.sl 5 c_Before_Boxes_r, .sl 5 c_After_Boxes_r, .sl 5 c_Risen_Boxes_r, .bool c_Ok, .bool c_Clash]]) (by subst hc_Before_Boxes_r hc_After_Boxes_r hc_Risen_Boxes_r; rfl) ?_
  refine real tyOk Try.func16 (by kernel_rfl) (afun_of rfl ?_)
  refine go_seq ?_
  refine go_reg ?_
  refine run_aops hA 2 _ _ _ _ (by cbv) ?_
  refine ops_done ?_
  refine go_seq ?_
  refine go_reg ?_
  refine run_aops hA 3 _ _ _ _ (by cbv) ?_
  refine ops_split 5 rfl (fun c1 => ?_) (fun c1 => ?_)
  · skip
    refine run_aops hA 18 _ _ _ _ (by cbv) ?_
    refine ops_done ?_
    refine go_ret ⟨_, by cbv, ?_⟩
    show _ = (PV.bool true)
    refine congrArg PV.bool ?_
    simp only [cutF]
    simp [c1]
  · skip
    refine run_aops hA 3 _ _ _ _ (by cbv) ?_
    refine ops_split 8 rfl (fun c2 => ?_) (fun c2 => ?_)
    · skip
      refine run_aops hA 4 _ _ _ _ (by cbv) ?_
      obtain ⟨v13_3, hv13_3, hc4⟩ : ∃ (v13_3 : Bool), v13_3 = (eqFunc sbx (GState.Boxes (⟨c_Risen_Boxes⟩ : GState)) (GState.Boxes (⟨c_Before_Boxes⟩ : GState))) ∧ Real Try.prog 48 [.agg [.sl 5 c_Risen_Boxes_r], .agg [.sl 5 c_Before_Boxes_r]] (.bool v13_3) := ⟨_, rfl, by subst hc_Risen_Boxes_r hc_Before_Boxes_r; exact r_spec_SameState A hA (⟨c_Risen_Boxes⟩ : GState) (⟨c_Before_Boxes⟩ : GState) hb hbm⟩
      refine ops_callG rfl rfl rfl rfl (by cbv) (by cbv) hc4 (.inr rfl) (by cbv) ?_
      refine run_aops hA 1 _ _ _ _ (by cbv) ?_
      refine ops_split 14 rfl (fun c5 => ?_) (fun c5 => ?_)
      · skip
        refine run_aops hA 9 _ _ _ _ (by cbv) ?_
        refine ops_done ?_
        refine go_ret ⟨_, by cbv, ?_⟩
        show _ = (PV.bool true)
        refine congrArg PV.bool ?_
        simp only [cutF]
        simp [c1, c2, c5, ← hv13_3]
      · skip
        refine run_aops hA 4 _ _ _ _ (by cbv) ?_
        obtain ⟨v19_6, hv19_6, hc7⟩ : ∃ (v19_6 : Bool), v19_6 = (eqFunc sbx (GState.Boxes (⟨c_Risen_Boxes⟩ : GState)) (GState.Boxes (⟨c_After_Boxes⟩ : GState))) ∧ Real Try.prog 48 [.agg [.sl 5 c_Risen_Boxes_r], .agg [.sl 5 c_After_Boxes_r]] (.bool v19_6) := ⟨_, rfl, by subst hc_Risen_Boxes_r hc_After_Boxes_r; exact r_spec_SameState A hA (⟨c_Risen_Boxes⟩ : GState) (⟨c_After_Boxes⟩ : GState) hb hbm⟩
        refine ops_callG rfl rfl rfl rfl (by cbv) (by cbv) hc7 (.inr rfl) (by cbv) ?_
        refine run_aops hA 4 _ _ _ _ (by cbv) ?_
        refine ops_done ?_
        refine go_ret ⟨_, by cbv, ?_⟩
        show _ = (PV.bool v19_6)
        refine congrArg PV.bool ?_
        simp only [cutF]
        simp [c1, c2, c5, ← hv13_3, ← hv19_6]
    · skip
      refine run_aops hA 15 _ _ _ _ (by cbv) ?_
      refine ops_done ?_
      refine go_ret ⟨_, by cbv, ?_⟩
      show _ = (PV.bool false)
      refine congrArg PV.bool ?_
      simp only [cutF]
      simp [c1, c2]

theorem r_impl_CutRight (A : Alg) (hA : A = std) (c : GCut) (hb : (List.length c.Risen.Boxes : Int) ≤ 4611686018427387904) (hbm : ∀ x ∈ c.Risen.Boxes, (List.length x.Mails : Int) ≤ 4611686018427387904) : Real Try.prog 18 [.agg (eCut c)] (.bool (cutF c)) := by
  obtain ⟨⟨c_Before_Boxes⟩, ⟨c_After_Boxes⟩, ⟨c_Risen_Boxes⟩, c_Ok, c_Clash⟩ := c
  obtain ⟨c_Before_Boxes_r, hc_Before_Boxes_r⟩ : ∃ r, r = c_Before_Boxes.map eBox := ⟨_, rfl⟩
  have lc_Before_Boxes_r : A.rlen c_Before_Boxes_r = (List.length c_Before_Boxes : Int) := rlen_map hA hc_Before_Boxes_r
  obtain ⟨c_After_Boxes_r, hc_After_Boxes_r⟩ : ∃ r, r = c_After_Boxes.map eBox := ⟨_, rfl⟩
  have lc_After_Boxes_r : A.rlen c_After_Boxes_r = (List.length c_After_Boxes : Int) := rlen_map hA hc_After_Boxes_r
  obtain ⟨c_Risen_Boxes_r, hc_Risen_Boxes_r⟩ : ∃ r, r = c_Risen_Boxes.map eBox := ⟨_, rfl⟩
  have lc_Risen_Boxes_r : A.rlen c_Risen_Boxes_r = (List.length c_Risen_Boxes : Int) := rlen_map hA hc_Risen_Boxes_r
  refine real_args (args' := [.agg [.sl 5 c_Before_Boxes_r, .sl 5 c_After_Boxes_r, .sl 5 c_Risen_Boxes_r, .bool c_Ok, .bool c_Clash]]) (by subst hc_Before_Boxes_r hc_After_Boxes_r hc_Risen_Boxes_r; rfl) ?_
  refine real tyOk Try.func18 (by kernel_rfl) (afun_of rfl ?_)
  refine go_seq ?_
  refine go_reg ?_
  refine run_aops hA 2 _ _ _ _ (by cbv) ?_
  refine ops_done ?_
  refine go_seq ?_
  refine go_reg ?_
  refine run_aops hA 3 _ _ _ _ (by cbv) ?_
  refine ops_split 5 rfl (fun c1 => ?_) (fun c1 => ?_)
  · skip
    refine run_aops hA 18 _ _ _ _ (by cbv) ?_
    refine ops_done ?_
    refine go_ret ⟨_, by cbv, ?_⟩
    show _ = (PV.bool true)
    refine congrArg PV.bool ?_
    simp only [cutF]
    simp [c1]
  · skip
    refine run_aops hA 3 _ _ _ _ (by cbv) ?_
    refine ops_split 8 rfl (fun c2 => ?_) (fun c2 => ?_)
    · skip
      refine run_aops hA 4 _ _ _ _ (by cbv) ?_
      obtain ⟨v13_3, hv13_3, hc4⟩ : ∃ (v13_3 : Bool), v13_3 = (eqFunc sbx (GState.Boxes (⟨c_Risen_Boxes⟩ : GState)) (GState.Boxes (⟨c_Before_Boxes⟩ : GState))) ∧ Real Try.prog 50 [.agg [.sl 5 c_Risen_Boxes_r], .agg [.sl 5 c_Before_Boxes_r]] (.bool v13_3) := ⟨_, rfl, by subst hc_Risen_Boxes_r hc_Before_Boxes_r; exact r_impl_SameState A hA (⟨c_Risen_Boxes⟩ : GState) (⟨c_Before_Boxes⟩ : GState) hb hbm⟩
      refine ops_callG rfl rfl rfl rfl (by cbv) (by cbv) hc4 (.inr rfl) (by cbv) ?_
      refine run_aops hA 1 _ _ _ _ (by cbv) ?_
      refine ops_split 14 rfl (fun c5 => ?_) (fun c5 => ?_)
      · skip
        refine run_aops hA 9 _ _ _ _ (by cbv) ?_
        refine ops_done ?_
        refine go_ret ⟨_, by cbv, ?_⟩
        show _ = (PV.bool true)
        refine congrArg PV.bool ?_
        simp only [cutF]
        simp [c1, c2, c5, ← hv13_3]
      · skip
        refine run_aops hA 4 _ _ _ _ (by cbv) ?_
        obtain ⟨v19_6, hv19_6, hc7⟩ : ∃ (v19_6 : Bool), v19_6 = (eqFunc sbx (GState.Boxes (⟨c_Risen_Boxes⟩ : GState)) (GState.Boxes (⟨c_After_Boxes⟩ : GState))) ∧ Real Try.prog 50 [.agg [.sl 5 c_Risen_Boxes_r], .agg [.sl 5 c_After_Boxes_r]] (.bool v19_6) := ⟨_, rfl, by subst hc_Risen_Boxes_r hc_After_Boxes_r; exact r_impl_SameState A hA (⟨c_Risen_Boxes⟩ : GState) (⟨c_After_Boxes⟩ : GState) hb hbm⟩
        refine ops_callG rfl rfl rfl rfl (by cbv) (by cbv) hc7 (.inr rfl) (by cbv) ?_
        refine run_aops hA 4 _ _ _ _ (by cbv) ?_
        refine ops_done ?_
        refine go_ret ⟨_, by cbv, ?_⟩
        show _ = (PV.bool v19_6)
        refine congrArg PV.bool ?_
        simp only [cutF]
        simp [c1, c2, c5, ← hv13_3, ← hv19_6]
    · skip
      refine run_aops hA 15 _ _ _ _ (by cbv) ?_
      refine ops_done ?_
      refine go_ret ⟨_, by cbv, ?_⟩
      show _ = (PV.bool false)
      refine congrArg PV.bool ?_
      simp only [cutF]
      simp [c1, c2]

theorem r_laws_FnExactCutRight (A : Alg) (hA : A = std) (c : GCut) (hc : ∀ k ∈ zsCut c, (k : Int) ≤ 9223372036854775807) : Real Try.prog 4 [.agg (eCut c)] (.bool true) := by
  obtain ⟨⟨c_Before_Boxes⟩, ⟨c_After_Boxes⟩, ⟨c_Risen_Boxes⟩, c_Ok, c_Clash⟩ := c
  obtain ⟨c_Before_Boxes_r, hc_Before_Boxes_r⟩ : ∃ r, r = c_Before_Boxes.map eBox := ⟨_, rfl⟩
  have lc_Before_Boxes_r : A.rlen c_Before_Boxes_r = (List.length c_Before_Boxes : Int) := rlen_map hA hc_Before_Boxes_r
  obtain ⟨c_After_Boxes_r, hc_After_Boxes_r⟩ : ∃ r, r = c_After_Boxes.map eBox := ⟨_, rfl⟩
  have lc_After_Boxes_r : A.rlen c_After_Boxes_r = (List.length c_After_Boxes : Int) := rlen_map hA hc_After_Boxes_r
  obtain ⟨c_Risen_Boxes_r, hc_Risen_Boxes_r⟩ : ∃ r, r = c_Risen_Boxes.map eBox := ⟨_, rfl⟩
  have lc_Risen_Boxes_r : A.rlen c_Risen_Boxes_r = (List.length c_Risen_Boxes : Int) := rlen_map hA hc_Risen_Boxes_r
  refine real_args (args' := [.agg [.sl 5 c_Before_Boxes_r, .sl 5 c_After_Boxes_r, .sl 5 c_Risen_Boxes_r, .bool c_Ok, .bool c_Clash]]) (by subst hc_Before_Boxes_r hc_After_Boxes_r hc_Risen_Boxes_r; rfl) ?_
  refine real tyOk Try.func4 (by kernel_rfl) (afun_of rfl ?_)
  refine go_seq ?_
  refine go_reg ?_
  refine run_aops hA 2 _ _ _ _ (by cbv) ?_
  refine ops_done ?_
  refine go_seq ?_
  refine go_reg ?_
  refine run_aops hA 1 _ _ _ _ (by cbv) ?_
  refine ops_done ?_
  refine go_seq ?_
  refine go_reg ?_
  refine run_aops hA 2 _ _ _ _ (by cbv) ?_
  obtain ⟨v9_1, hv9_1, hc2⟩ : ∃ (v9_1 : Int), v9_1 = (chain 1048576 (zsCut (⟨⟨c_Before_Boxes⟩, ⟨c_After_Boxes⟩, ⟨c_Risen_Boxes⟩, c_Ok, c_Clash⟩ : GCut))) ∧ Real Try.prog 15 [.agg [.sl 5 c_Before_Boxes_r, .sl 5 c_After_Boxes_r, .sl 5 c_Risen_Boxes_r, .bool c_Ok, .bool c_Clash], .int .i64 1048576] (.int .i64 v9_1) := ⟨_, rfl, by subst hc_Before_Boxes_r hc_After_Boxes_r hc_Risen_Boxes_r; exact r_laws_szCut A hA (⟨⟨c_Before_Boxes⟩, ⟨c_After_Boxes⟩, ⟨c_Risen_Boxes⟩, c_Ok, c_Clash⟩ : GCut) 1048576 (by omega) (by omega) hc⟩
  refine ops_callV rfl rfl (by cbv) (by cbv) hc2 (.inr rfl) (by cbv) ?_
  have bv9_1 := chain_bd hv9_1 (by omega)
  refine run_aops hA 1 _ _ _ _ (by cbv) ?_
  refine ops_done ?_
  refine go_seq ?_
  refine go_seq ?_
  refine go_reg ?_
  refine run_aops hA 2 _ _ _ _ (by cbv) ?_
  refine ops_done ?_
  refine go_cond rfl (fun c3 => ?_) (fun c3 => ?_)
  · skip
    have ec3 : v9_1 < 0 := lss_t hA c3
    refine go_seq ?_
    refine go_reg ?_
    refine run_aops hA 1 _ _ _ _ (by cbv) ?_
    refine ops_done ?_
    refine go_ret ⟨_, by cbv, ?_⟩
    show _ = (PV.bool true)
    rfl
  · skip
    have ec3 : 0 ≤ v9_1 := lss_f hA c3
    refine go_skip ?_
    refine go_seq ?_
    have jc : ∀ k ∈ zsCut (⟨⟨c_Before_Boxes⟩, ⟨c_After_Boxes⟩, ⟨c_Risen_Boxes⟩, c_Ok, c_Clash⟩ : GCut), k ≤ 1048576 := fun k hk => by
      have := chain_all _ _ (show 0 ≤ chain _ _ from hv9_1 ▸ (by omega : (0 : Int) ≤ v9_1)) k hk
      omega
    have ic : ∀ k ∈ zsCut (⟨⟨c_Before_Boxes⟩, ⟨c_After_Boxes⟩, ⟨c_Risen_Boxes⟩, c_Ok, c_Clash⟩ : GCut), (k : Int) ≤ 4611686018427387904 := fun k hk => by have := jc k hk; omega
    have hb : (List.length c_Risen_Boxes : Int) ≤ 4611686018427387904 := ic _ (by simp [zsCut, zsState, zsBoxS])
    have hbm : ∀ x ∈ c_Risen_Boxes, (List.length x.Mails : Int) ≤ 4611686018427387904 := fun x hx => ic _ (by
      simp only [zsCut, zsState, zsBoxS, List.mem_append, List.mem_cons, List.mem_flatMap]
      exact .inr (.inr (.inl (.inl (.inr ⟨x, hx, by simp [zsBox, zsMailS]⟩)))))
    refine go_reg ?_
    refine run_aops hA 1 _ _ _ _ (by cbv) ?_
    obtain ⟨v13_4_Before_Boxes, v13_4_After_Boxes, v13_4_Risen_Boxes, hv13_4_Before_Boxes, hv13_4_After_Boxes, hv13_4_Risen_Boxes, hc5⟩ : ∃ (v13_4_Before_Boxes : List (List PV)) (v13_4_After_Boxes : List (List PV)) (v13_4_Risen_Boxes : List (List PV)), v13_4_Before_Boxes = List.map eoBox c_Before_Boxes ∧ v13_4_After_Boxes = List.map eoBox c_After_Boxes ∧ v13_4_Risen_Boxes = List.map eoBox c_Risen_Boxes ∧ Real Try.prog 17 [.agg [.sl 5 c_Before_Boxes_r, .sl 5 c_After_Boxes_r, .sl 5 c_Risen_Boxes_r, .bool c_Ok, .bool c_Clash]] (.agg [.ow 5 v13_4_Before_Boxes, .ow 5 v13_4_After_Boxes, .ow 5 v13_4_Risen_Boxes, .bool c_Ok, .bool c_Clash]) := ⟨_, _, _, rfl, rfl, rfl, by subst hc_Before_Boxes_r hc_After_Boxes_r hc_Risen_Boxes_r; exact r_laws_toCut A hA (⟨⟨c_Before_Boxes⟩, ⟨c_After_Boxes⟩, ⟨c_Risen_Boxes⟩, c_Ok, c_Clash⟩ : GCut) jc⟩
    have lv13_4_Before_Boxes : A.rlen v13_4_Before_Boxes = (List.length c_Before_Boxes : Int) := rlen_map hA hv13_4_Before_Boxes
    have lv13_4_After_Boxes : A.rlen v13_4_After_Boxes = (List.length c_After_Boxes : Int) := rlen_map hA hv13_4_After_Boxes
    have lv13_4_Risen_Boxes : A.rlen v13_4_Risen_Boxes = (List.length c_Risen_Boxes : Int) := rlen_map hA hv13_4_Risen_Boxes
    refine ops_callV rfl rfl (by cbv) (by cbv) hc5 (.inr rfl) (by cbv) ?_
    obtain ⟨v14_6, hv14_6, hc7⟩ : ∃ (v14_6 : Bool), v14_6 = (cutF (⟨⟨c_Before_Boxes⟩, ⟨c_After_Boxes⟩, ⟨c_Risen_Boxes⟩, c_Ok, c_Clash⟩ : GCut)) ∧ Real Try.prog 16 [.agg [.sl 5 (eraseR v13_4_Before_Boxes), .sl 5 (eraseR v13_4_After_Boxes), .sl 5 (eraseR v13_4_Risen_Boxes), .bool c_Ok, .bool c_Clash]] (.bool v14_6) := ⟨_, rfl, by subst hv13_4_Before_Boxes hv13_4_After_Boxes hv13_4_Risen_Boxes; simp only [erR_Box]; exact r_spec_CutRight A hA (⟨⟨c_Before_Boxes⟩, ⟨c_After_Boxes⟩, ⟨c_Risen_Boxes⟩, c_Ok, c_Clash⟩ : GCut) hb hbm⟩
    refine ops_callV rfl rfl (by cbv) (by cbv) hc7 (.inl trivial) (by cbv) ?_
    refine run_aops hA 1 _ _ _ _ (by cbv) ?_
    refine ops_done ?_
    refine go_seq ?_
    refine go_reg ?_
    refine run_aops hA 1 _ _ _ _ (by cbv) ?_
    obtain ⟨v16_8_Before_Boxes, v16_8_After_Boxes, v16_8_Risen_Boxes, hv16_8_Before_Boxes, hv16_8_After_Boxes, hv16_8_Risen_Boxes, hc9⟩ : ∃ (v16_8_Before_Boxes : List (List PV)) (v16_8_After_Boxes : List (List PV)) (v16_8_Risen_Boxes : List (List PV)), v16_8_Before_Boxes = List.map eoBox c_Before_Boxes ∧ v16_8_After_Boxes = List.map eoBox c_After_Boxes ∧ v16_8_Risen_Boxes = List.map eoBox c_Risen_Boxes ∧ Real Try.prog 17 [.agg [.sl 5 c_Before_Boxes_r, .sl 5 c_After_Boxes_r, .sl 5 c_Risen_Boxes_r, .bool c_Ok, .bool c_Clash]] (.agg [.ow 5 v16_8_Before_Boxes, .ow 5 v16_8_After_Boxes, .ow 5 v16_8_Risen_Boxes, .bool c_Ok, .bool c_Clash]) := ⟨_, _, _, rfl, rfl, rfl, by subst hc_Before_Boxes_r hc_After_Boxes_r hc_Risen_Boxes_r; exact r_laws_toCut A hA (⟨⟨c_Before_Boxes⟩, ⟨c_After_Boxes⟩, ⟨c_Risen_Boxes⟩, c_Ok, c_Clash⟩ : GCut) jc⟩
    have lv16_8_Before_Boxes : A.rlen v16_8_Before_Boxes = (List.length c_Before_Boxes : Int) := rlen_map hA hv16_8_Before_Boxes
    have lv16_8_After_Boxes : A.rlen v16_8_After_Boxes = (List.length c_After_Boxes : Int) := rlen_map hA hv16_8_After_Boxes
    have lv16_8_Risen_Boxes : A.rlen v16_8_Risen_Boxes = (List.length c_Risen_Boxes : Int) := rlen_map hA hv16_8_Risen_Boxes
    refine ops_callV rfl rfl (by cbv) (by cbv) hc9 (.inr rfl) (by cbv) ?_
    refine run_aops hA 2 _ _ _ _ (by cbv) ?_
    refine ops_done ?_
    refine go_seq ?_
    refine go_reg ?_
    refine run_aops hA 1 _ _ _ _ (by cbv) ?_
    obtain ⟨v18_10, hv18_10, hc11⟩ : ∃ (v18_10 : Bool), v18_10 = (cutF (⟨⟨c_Before_Boxes⟩, ⟨c_After_Boxes⟩, ⟨c_Risen_Boxes⟩, c_Ok, c_Clash⟩ : GCut)) ∧ Real Try.prog 18 [.agg [.sl 5 (eraseR v16_8_Before_Boxes), .sl 5 (eraseR v16_8_After_Boxes), .sl 5 (eraseR v16_8_Risen_Boxes), .bool c_Ok, .bool c_Clash]] (.bool v18_10) := ⟨_, rfl, by subst hv16_8_Before_Boxes hv16_8_After_Boxes hv16_8_Risen_Boxes; simp only [erR_Box]; exact r_impl_CutRight A hA (⟨⟨c_Before_Boxes⟩, ⟨c_After_Boxes⟩, ⟨c_Risen_Boxes⟩, c_Ok, c_Clash⟩ : GCut) hb hbm⟩
    refine ops_callV rfl rfl (by cbv) (by cbv) hc11 (.inl trivial) (by cbv) ?_
    refine run_aops hA 1 _ _ _ _ (by cbv) ?_
    refine ops_done ?_
    refine go_seq ?_
    refine go_seq ?_
    refine go_reg ?_
    refine run_aops hA 3 _ _ _ _ (by cbv) ?_
    refine ops_done ?_
    refine go_cond rfl (fun c12 => ?_) (fun c12 => ?_)
    · skip
      exact absurd (show (A.bnot (A.beq v18_10 v14_6)) = true from c12) (by rw [show (A.bnot (A.beq v18_10 v14_6)) = false from by subst hA; simp [std, hv18_10, hv14_6]]; decide)
    · skip
      refine go_skip ?_
      refine go_seq ?_
      refine go_seq ?_
      refine go_draw (by cbv) ?_
      refine run_dops hA 2 _ _ _ _ (by cbv) ?_
      obtain ⟨v24_13_Before_Boxes, v24_13_After_Boxes, v24_13_Risen_Boxes, hv24_13_Before_Boxes, hv24_13_After_Boxes, hv24_13_Risen_Boxes, hc14⟩ : ∃ (v24_13_Before_Boxes : List (List PV)) (v24_13_After_Boxes : List (List PV)) (v24_13_Risen_Boxes : List (List PV)), v24_13_Before_Boxes = List.map eoBox c_Before_Boxes ∧ v24_13_After_Boxes = List.map eoBox c_After_Boxes ∧ v24_13_Risen_Boxes = List.map eoBox c_Risen_Boxes ∧ Real Try.prog 17 [.agg [.sl 5 c_Before_Boxes_r, .sl 5 c_After_Boxes_r, .sl 5 c_Risen_Boxes_r, .bool c_Ok, .bool c_Clash]] (.agg [.ow 5 v24_13_Before_Boxes, .ow 5 v24_13_After_Boxes, .ow 5 v24_13_Risen_Boxes, .bool c_Ok, .bool c_Clash]) := ⟨_, _, _, rfl, rfl, rfl, by subst hc_Before_Boxes_r hc_After_Boxes_r hc_Risen_Boxes_r; exact r_laws_toCut A hA (⟨⟨c_Before_Boxes⟩, ⟨c_After_Boxes⟩, ⟨c_Risen_Boxes⟩, c_Ok, c_Clash⟩ : GCut) jc⟩
      have lv24_13_Before_Boxes : A.rlen v24_13_Before_Boxes = (List.length c_Before_Boxes : Int) := rlen_map hA hv24_13_Before_Boxes
      have lv24_13_After_Boxes : A.rlen v24_13_After_Boxes = (List.length c_After_Boxes : Int) := rlen_map hA hv24_13_After_Boxes
      have lv24_13_Risen_Boxes : A.rlen v24_13_Risen_Boxes = (List.length c_Risen_Boxes : Int) := rlen_map hA hv24_13_Risen_Boxes
      refine dops_callV rfl rfl (by cbv) (by cbv) hc14 (.inr rfl) ?_
      have hc16 : Real Try.prog 19 [.agg [.sl 5 (eraseR v16_8_Before_Boxes), .sl 5 (eraseR v16_8_After_Boxes), .sl 5 (eraseR v16_8_Risen_Boxes), .bool c_Ok, .bool c_Clash], .agg [.sl 5 (eraseR v24_13_Before_Boxes), .sl 5 (eraseR v24_13_After_Boxes), .sl 5 (eraseR v24_13_Risen_Boxes), .bool c_Ok, .bool c_Clash]] (.bool true) := by subst hv16_8_Before_Boxes hv16_8_After_Boxes hv16_8_Risen_Boxes hv24_13_Before_Boxes hv24_13_After_Boxes hv24_13_Risen_Boxes; simp only [erR_Box]; exact r_laws_eqCut A hA (⟨⟨c_Before_Boxes⟩, ⟨c_After_Boxes⟩, ⟨c_Risen_Boxes⟩, c_Ok, c_Clash⟩ : GCut) ic
      refine dops_callV rfl rfl (by cbv) (by cbv) hc16 (.inl trivial) ?_
      refine run_dops hA 1 _ _ _ _ (by cbv) ?_
      refine dops_done ?_
      refine go_cond rfl (fun c17 => ?_) (fun c17 => ?_)
      · skip
        exact absurd (show (A.bnot true) = true from c17) (by rw [show (A.bnot true) = false from by subst hA; rfl]; decide)
      · skip
        refine go_skip ?_
        refine go_seq ?_
        refine go_reg ?_
        refine run_aops hA 1 _ _ _ _ (by cbv) ?_
        refine ops_done ?_
        refine go_ret ⟨_, by cbv, ?_⟩
        show _ = (PV.bool true)
        rfl
end Go.Av
