/- Walks: numerals and flags. -/
import Derived.Test.YtjbokkoiicoahaaDoorNu
namespace Go.Av
open Go Go.Proofs
set_option maxRecDepth 100000
set_option maxHeartbeats 4000000
set_option linter.unusedVariables false
set_option linter.unusedSimpArgs false
theorem r_impl_Decimal (A : Alg) (hA : A = std) (n : Int) (hn : i64 n) : Real Tryd.prog 26 [.int .i64 n] (.str (itoaB n)) := by
  refine real_args (args' := [.int .i64 n]) (by rfl) ?_
  refine real tyOk Tryd.func26 (by kernel_rfl) (afun_of rfl ?_)
  refine go_seq ?_
  refine go_reg ?_
  refine run_aops hA 1 _ _ _ _ (by cbv) ?_
  refine ops_done ?_
  refine go_seq ?_
  refine go_reg ?_
  refine run_aops hA 1 _ _ _ _ (by cbv) ?_
  obtain ⟨v4_1, hv4_1, hc2⟩ : ∃ (v4_1 : ByteArray), v4_1 = (itoaB n) ∧ Real Tryd.prog 42 [.int .i64 n] (.str v4_1) := ⟨_, rfl, by exact rItoa A hA n (by assumption)⟩
  refine ops_callV rfl rfl (by cbv) (by cbv) hc2 (.inr rfl) (by cbv) ?_
  refine run_aops hA 1 _ _ _ _ (by cbv) ?_
  refine ops_done ?_
  refine go_ret ⟨_, by cbv, ?_⟩
  show _ = (PV.str v4_1)
  refine congrArg PV.str ?_
  exact hv4_1.symm

theorem r_impl_figures (A : Alg) (hA : A = std) (n : Int) (hn : i64 n) : Real Tryd.prog 21 [.int .i64 n] (.str (figB n)) := by
  refine real_args (args' := [.int .i64 n]) (by rfl) ?_
  refine real tyOk Tryd.func21 (by kernel_rfl) (afun_of rfl ?_)
  refine go_seq ?_
  refine go_reg ?_
  refine run_aops hA 1 _ _ _ _ (by cbv) ?_
  refine ops_done ?_
  refine go_seq ?_
  refine go_reg ?_
  refine run_aops hA 1 _ _ _ _ (by cbv) ?_
  obtain ⟨m1, hm1⟩ : ∃ v : Int, v = max 0 n := ⟨_, rfl⟩
  refine ops_ext rfl (ext_max rfl rfl rfl hm1) ?_
  obtain ⟨v5_2, hv5_2, hc3⟩ : ∃ (v5_2 : ByteArray), v5_2 = (itoaB m1) ∧ Real Tryd.prog 26 [.int .i64 m1] (.str v5_2) := ⟨_, rfl, by exact r_impl_Decimal A hA m1 (by unfold i64 at *; omega)⟩
  refine ops_callV rfl rfl (by cbv) (by cbv) hc3 (.inr rfl) (by cbv) ?_
  refine run_aops hA 1 _ _ _ _ (by cbv) ?_
  refine ops_done ?_
  refine go_ret ⟨_, by cbv, ?_⟩
  show _ = (PV.str v5_2)
  refine congrArg PV.str ?_
  rw [hv5_2, hm1]; rfl

theorem r_spec_l01Figure (A : Alg) (hA : A = std) (n : Int) (h0 : 0 ≤ n) (h1 : n < 10) : Real Tryd.prog 30 [.int .i64 n] (.int .u8 (48 + n)) := by
  refine real_args (args' := [.int .i64 n]) (by rfl) ?_
  refine real tyOk Tryd.func30 (by kernel_rfl) (afun_of rfl ?_)
  refine go_seq ?_
  refine go_reg ?_
  refine run_aops hA 1 _ _ _ _ (by cbv) ?_
  refine ops_done ?_
  refine go_seq ?_
  refine go_seq ?_
  refine go_reg ?_
  refine run_aops hA 2 _ _ _ _ (by cbv) ?_
  refine ops_done ?_
  refine go_cond rfl (fun c1 => ?_) (fun c1 => ?_)
  · skip
    have ec1 : n < 10 := lss_t hA c1
    refine go_seq ?_
    refine go_reg ?_
    refine run_aops hA 4 _ _ _ _ (by cbv) ?_
    refine ops_done ?_
    refine go_ret ⟨_, by cbv, ?_⟩
    show _ = (PV.int .u8 (A.cnv .u8 (A.num .add .i64 48 n)))
    exact congrArg (PV.int .u8) (fig_u8 hA h0 h1).symm
  · skip
    have ec1 : 10 ≤ n := lss_f hA c1
    exact absurd h1 (by omega)

def S17_1 (p0 : Int) (p1 : Bool) (p2 : ByteArray) : St := { sl := [.int .i64 p0, .bad, .bad, .bool p1, .str p2, .bad, .bad, .bad, .bad, .bad, .bad, .bad, .bad, .bad, .bad, .bad, .bad, .bad, .bad, .bad, .bad, .bad, .bad, .bad, .bad, .bad, .bad, .bad, .bad, .bad], bl := [] }
theorem r_spec_Decimal (A : Alg) (hA : A = std) (n : Int) (hn : i64 n) : Real Tryd.prog 17 [.int .i64 n] (.str (itoaB n)) := by
  refine real_args (args' := [.int .i64 n]) (by rfl) ?_
  refine real tyOk Tryd.func17 (by kernel_rfl) (afun_of rfl ?_)
  refine go_seq ?_
  refine go_reg ?_
  refine run_aops hA 1 _ _ _ _ (by cbv) ?_
  refine ops_done ?_
  refine go_seq ?_
  refine go_seq ?_
  refine go_reg ?_
  refine run_aops hA 2 _ _ _ _ (by cbv) ?_
  refine ops_done ?_
  refine go_cond rfl (fun c1 => ?_) (fun c1 => ?_)
  · skip
    have ec1 : n = 0 := eql_t hA c1
    refine go_seq ?_
    refine go_reg ?_
    refine run_aops hA 1 _ _ _ _ (by cbv) ?_
    refine ops_done ?_
    refine go_ret ⟨_, by cbv, ?_⟩
    show _ = (PV.str (ByteArray.mk #[48]))
    refine congrArg PV.str ?_
    rw [show n = 0 by omega, itoa_0]
  · skip
    have ec1 : n ≠ 0 := eql_f hA c1
    refine go_skip ?_
    refine go_seq ?_
    refine go_reg ?_
    refine run_aops hA 3 _ _ _ _ (by cbv) ?_
    refine ops_done ?_
    refine go_seq ?_
    refine go_reg ?_
    refine run_aops hA 1 _ _ _ _ (by cbv) ?_
    refine ops_done ?_
    refine go_seq ?_
    refine go_block ?_
    refine go_loopE (fun σ m => ∃ (q : Int) (S : ByteArray), σ = (S17_1 q (A.cmp .lss n 0) S) ∧ ((0 ≤ n → 0 ≤ q) ∧ (n < 0 → q ≤ 0) ∧ Int.natAbs q ≤ Int.natAbs n ∧ bOf (dgs (Int.natAbs n)) = bOf (dgs (Int.natAbs q)) ++ S) ∧ m = Int.natAbs q) _ [] [0, 3, 4] [] (S17_1 n (A.cmp .lss n 0) (ByteArray.mk #[])) rfl (by cbv) ⟨n, (ByteArray.mk #[]), rfl, ?_, rfl⟩ (fun σ m hI => ?_)
    · skip
      refine ⟨fun h => h, fun h => by omega, Nat.le_refl _, ?_⟩
      apply ByteArray.ext
      rw [ByteArray.data_append]
      show _ = _ ++ #[]
      simp
    obtain ⟨q, S, rfl, ⟨hp, hm, hb, hE⟩, rfl⟩ := hI
    have hrem := num_rem hA .i64 q 10
    have hquo : A.num .quo .i64 q 10 = Int.tdiv q 10 := num_quo hA (by unfold i64 at *; omega) (by decide)
    have r10 := rem10 q
    have q10 := quo10 q
    have hS : ByteArray.size S ≤ 19 := dgs_app (by unfold i64 at *; omega) hE
    refine go_seq ?_
    refine go_seq ?_
    refine go_reg ?_
    refine run_aops hA 2 _ _ _ _ (by cbv) ?_
    refine ops_done ?_
    refine go_cond rfl (fun c2 => ?_) (fun c2 => ?_)
    · skip
      have ec2 : q ≠ 0 := neq_t hA c2
      refine go_skip ?_
      refine go_block ?_
      refine go_seq ?_
      refine go_reg ?_
      refine run_aops hA 3 _ _ _ _ (by cbv) ?_
      refine ops_done ?_
      refine go_seq ?_
      refine go_seq ?_
      refine go_reg ?_
      refine run_aops hA 2 _ _ _ _ (by cbv) ?_
      refine ops_done ?_
      refine go_cond rfl (fun c3 => ?_) (fun c3 => ?_)
      · skip
        have ec3 : (A.num .rem .i64 q 10) < 0 := lss_t hA c3
        refine go_reg ?_
        refine run_aops hA 1 _ _ _ _ (by cbv) ?_
        obtain ⟨n4, hn4⟩ : ∃ v : Int, v = IntKind.wrap .i64 (0 - (A.num .rem .i64 q 10)) := ⟨_, rfl⟩
        refine ops_ext rfl (ext_neg rfl rfl hn4) ?_
        refine run_aops hA 1 _ _ _ _ (by cbv) ?_
        refine ops_done ?_
        refine go_seq ?_
        have wn4 := hn4
        rw [wrap64 (by unfold i64; omega)] at wn4
        refine go_reg ?_
        refine run_aops hA 1 _ _ _ _ (by cbv) ?_
        obtain ⟨v19_5, hv19_5, hc6⟩ : ∃ (v19_5 : Int), v19_5 = (48 + n4) ∧ Real Tryd.prog 30 [.int .i64 n4] (.int .u8 v19_5) := ⟨_, rfl, by exact r_spec_l01Figure A hA n4 (by omega) (by omega)⟩
        refine ops_callV rfl rfl (by cbv) (by cbv) hc6 (.inr rfl) (by cbv) ?_
        refine run_aops hA 3 _ _ _ _ (by cbv) ?_
        obtain ⟨s7, hs7⟩ : ∃ s : ByteArray, s = (A.ofB [[.int .u8 v19_5]]) ++ S := ⟨_, rfl⟩
        have zs7 : ByteArray.size s7 = ByteArray.size (A.ofB [[.int .u8 v19_5]]) + ByteArray.size S := by rw [hs7]; exact ByteArray.size_append
        have bs7 : ByteArray.size (A.ofB [[.int .u8 v19_5]]) + ByteArray.size S ≤ 140737488355328 := by
          try simp only [ofB_size hA]
          try simp only [show ByteArray.size (ByteArray.mk #[45]) = 1 from rfl]
          omega
        refine ops_step rfl rfl (str_add rfl rfl rfl hs7 bs7) ?_
        refine run_aops hA 1 _ _ _ _ (by cbv) ?_
        refine ops_done ?_
        refine go_reg ?_
        refine run_aops hA 3 _ _ _ _ (by cbv) ?_
        refine ops_done ?_
        refine ⟨(S17_1 (A.num .quo .i64 q 10) (A.cmp .lss n 0) s7), Int.natAbs (A.num .quo .i64 q 10), ?_, by cbv, (A.num .quo .i64 q 10), s7, rfl, ?_, rfl⟩
        · skip
          rw [hquo]; omega
        · skip
          rw [hquo]
          refine ⟨by omega, by omega, by omega, ?_⟩
          rw [hE, hs7, show (Int.tdiv q 10).natAbs = q.natAbs / 10 from by omega]
          exact dgs_more (d := n4) (by omega) (by omega) (by rw [hv19_5, ofB_one hA])
      · skip
        have ec3 : 0 ≤ (A.num .rem .i64 q 10) := lss_f hA c3
        refine go_skip ?_
        refine go_seq ?_
        skip
        refine go_reg ?_
        refine run_aops hA 1 _ _ _ _ (by cbv) ?_
        obtain ⟨v19_8, hv19_8, hc9⟩ : ∃ (v19_8 : Int), v19_8 = (48 + (A.num .rem .i64 q 10)) ∧ Real Tryd.prog 30 [.int .i64 (A.num .rem .i64 q 10)] (.int .u8 v19_8) := ⟨_, rfl, by exact r_spec_l01Figure A hA (A.num .rem .i64 q 10) (by omega) (by omega)⟩
        refine ops_callV rfl rfl (by cbv) (by cbv) hc9 (.inr rfl) (by cbv) ?_
        refine run_aops hA 3 _ _ _ _ (by cbv) ?_
        obtain ⟨s10, hs10⟩ : ∃ s : ByteArray, s = (A.ofB [[.int .u8 v19_8]]) ++ S := ⟨_, rfl⟩
        have zs10 : ByteArray.size s10 = ByteArray.size (A.ofB [[.int .u8 v19_8]]) + ByteArray.size S := by rw [hs10]; exact ByteArray.size_append
        have bs10 : ByteArray.size (A.ofB [[.int .u8 v19_8]]) + ByteArray.size S ≤ 140737488355328 := by
          try simp only [ofB_size hA]
          try simp only [show ByteArray.size (ByteArray.mk #[45]) = 1 from rfl]
          omega
        refine ops_step rfl rfl (str_add rfl rfl rfl hs10 bs10) ?_
        refine run_aops hA 1 _ _ _ _ (by cbv) ?_
        refine ops_done ?_
        refine go_reg ?_
        refine run_aops hA 3 _ _ _ _ (by cbv) ?_
        refine ops_done ?_
        refine ⟨(S17_1 (A.num .quo .i64 q 10) (A.cmp .lss n 0) s10), Int.natAbs (A.num .quo .i64 q 10), ?_, by cbv, (A.num .quo .i64 q 10), s10, rfl, ?_, rfl⟩
        · skip
          rw [hquo]; omega
        · skip
          rw [hquo]
          refine ⟨by omega, by omega, by omega, ?_⟩
          rw [hE, hs10, show (Int.tdiv q 10).natAbs = q.natAbs / 10 from by omega]
          exact dgs_more (d := (A.num .rem .i64 q 10)) (by omega) (by omega) (by rw [hv19_8, ofB_one hA])
    · skip
      have ec2 : q = 0 := neq_f hA c2
      refine go_exit ⟨fun _ => ?_, fun h => absurd rfl h⟩
      refine go_seq ?_
      refine go_seq ?_
      refine go_reg ?_
      refine run_aops hA 1 _ _ _ _ (by cbv) ?_
      refine ops_done ?_
      refine go_cond rfl (fun c11 => ?_) (fun c11 => ?_)
      · skip
        have ec11 : n < 0 := lss_t hA c11
        refine go_seq ?_
        refine go_reg ?_
        refine run_aops hA 1 _ _ _ _ (by cbv) ?_
        obtain ⟨s12, hs12⟩ : ∃ s : ByteArray, s = (ByteArray.mk #[45]) ++ S := ⟨_, rfl⟩
        have zs12 : ByteArray.size s12 = ByteArray.size (ByteArray.mk #[45]) + ByteArray.size S := by rw [hs12]; exact ByteArray.size_append
        have bs12 : ByteArray.size (ByteArray.mk #[45]) + ByteArray.size S ≤ 140737488355328 := by
          try simp only [ofB_size hA]
          try simp only [show ByteArray.size (ByteArray.mk #[45]) = 1 from rfl]
          omega
        refine ops_step rfl rfl (str_add rfl rfl rfl hs12 bs12) ?_
        refine run_aops hA 1 _ _ _ _ (by cbv) ?_
        refine ops_done ?_
        refine go_ret ⟨_, by cbv, ?_⟩
        show _ = (PV.str s12)
        refine congrArg PV.str ?_
        rw [itoa_dgs n (by omega), if_pos (by omega), hE, dgs_done (by omega), hs12]; rfl
      · skip
        have ec11 : 0 ≤ n := lss_f hA c11
        refine go_skip ?_
        refine go_seq ?_
        refine go_reg ?_
        refine run_aops hA 2 _ _ _ _ (by cbv) ?_
        refine ops_done ?_
        refine go_ret ⟨_, by cbv, ?_⟩
        show _ = (PV.str S)
        refine congrArg PV.str ?_
        rw [itoa_dgs n (by omega), if_neg (by omega), hE, dgs_done (by omega)]

theorem r_spec_l20Num (A : Alg) (hA : A = std) (n : Int) (hn : i64 n) : Real Tryd.prog 16 [.int .i64 n] (.str (figB n)) := by
  refine real_args (args' := [.int .i64 n]) (by rfl) ?_
  refine real tyOk Tryd.func16 (by kernel_rfl) (afun_of rfl ?_)
  refine go_seq ?_
  refine go_reg ?_
  refine run_aops hA 1 _ _ _ _ (by cbv) ?_
  refine ops_done ?_
  refine go_seq ?_
  refine go_seq ?_
  refine go_reg ?_
  refine run_aops hA 2 _ _ _ _ (by cbv) ?_
  refine ops_done ?_
  refine go_cond rfl (fun c1 => ?_) (fun c1 => ?_)
  · skip
    have ec1 : n < 0 := lss_t hA c1
    refine go_seq ?_
    refine go_reg ?_
    refine run_aops hA 1 _ _ _ _ (by cbv) ?_
    refine ops_done ?_
    refine go_ret ⟨_, by cbv, ?_⟩
    show _ = (PV.str (ByteArray.mk #[48]))
    refine congrArg PV.str ?_
    exact figB_neg (by omega)
  · skip
    have ec1 : 0 ≤ n := lss_f hA c1
    refine go_skip ?_
    refine go_seq ?_
    refine go_reg ?_
    refine run_aops hA 1 _ _ _ _ (by cbv) ?_
    obtain ⟨v6_2, hv6_2, hc3⟩ : ∃ (v6_2 : ByteArray), v6_2 = (itoaB n) ∧ Real Tryd.prog 17 [.int .i64 n] (.str v6_2) := ⟨_, rfl, by exact r_spec_Decimal A hA n (by unfold i64 at *; omega)⟩
    refine ops_callV rfl rfl (by cbv) (by cbv) hc3 (.inr rfl) (by cbv) ?_
    refine run_aops hA 1 _ _ _ _ (by cbv) ?_
    refine ops_done ?_
    refine go_ret ⟨_, by cbv, ?_⟩
    show _ = (PV.str v6_2)
    refine congrArg PV.str ?_
    rw [figB_nn (by omega)]; exact hv6_2.symm
end Go.Av
