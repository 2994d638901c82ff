/- Walks: flags, in the reference. -/
import Derived.Test.YtjbokkoiicoahaaDoorG1
namespace Go.Av
open Go Go.Proofs
set_option maxRecDepth 100000
set_option maxHeartbeats 4000000
set_option linter.unusedVariables false
set_option linter.unusedSimpArgs false
def S18_1 (p0 : Int) (p1 : ByteArray) (p2 : Int) (p3 : Int) (p4 : List (List PV)) : St := { sl := [.int .i64 p0, .bad, .bad, .own 7, .str p1, .int .i64 p2, .int .i64 p3, .bad, .bad, .bad, .bad, .bad, .bad, .bad, .bad, .bad, .bad, .bad, .bad, .bad, .bad, .bad, .bad, .bad, .bad, .bad, .bad, .bad, .bad, .bad, .bad, .bad, .bad, .bad], bl := [(7, ⟨.arr, 1, p4⟩)] }
theorem r_spec_FlagWords (A : Alg) (hA : A = std) (f : Int) (hf : i64 f) : Real Tryd.prog 18 [.int .i64 f] (.str (flagW f)) := by
  refine real_args (args' := [.int .i64 f]) (by rfl) ?_
  refine real tyOk Tryd.func18 (by kernel_rfl) (afun_of rfl ?_)
  refine go_seq ?_
  refine go_reg ?_
  refine run_aops hA 1 _ _ _ _ (by cbv) ?_
  refine ops_done ?_
  refine go_seq ?_
  refine go_reg ?_
  obtain ⟨r1, hr1⟩ : ∃ r : List (List PV), r = [[.str (ByteArray.mk #[115, 101, 101, 110])], [.str (ByteArray.mk #[102, 108, 97, 103, 103, 101, 100])], [.str (ByteArray.mk #[100, 101, 108, 101, 116, 101, 100])]] := ⟨_, rfl⟩
  have er1 : r1 = List.map eString ([(ByteArray.mk #[115, 101, 101, 110]), (ByteArray.mk #[102, 108, 97, 103, 103, 101, 100]), (ByteArray.mk #[100, 101, 108, 101, 116, 101, 100])] : List ByteArray) := by rw [hr1]; rfl
  have lr1 : A.rlen r1 = (List.length ([(ByteArray.mk #[115, 101, 101, 110]), (ByteArray.mk #[102, 108, 97, 103, 103, 101, 100]), (ByteArray.mk #[100, 101, 108, 101, 116, 101, 100])] : List ByteArray) : Int) := rlen_map hA er1
  refine ops_ext rfl (ext_lit rfl rfl rfl rfl rfl rfl rfl hr1) ?_
  refine run_aops hA 1 _ _ _ _ (by cbv) ?_
  refine ops_done ?_
  refine go_seq ?_
  refine go_reg ?_
  refine run_aops hA 1 _ _ _ _ (by cbv) ?_
  refine ops_done ?_
  refine go_seq ?_
  refine go_reg ?_
  refine run_aops hA 1 _ _ _ _ (by cbv) ?_
  refine ops_done ?_
  refine go_seq ?_
  refine go_seq ?_
  refine go_reg ?_
  refine run_aops hA 1 _ _ _ _ (by cbv) ?_
  refine ops_done ?_
  refine go_block ?_
  refine go_loopE (fun σ m => ∃ (i : Nat) (k : Int) (p : Int) (S : ByteArray), σ = (S18_1 f S p k r1) ∧ (k = (i : Int) ∧ i ≤ 3 ∧ p = 2 ^ i ∧ S = fwS f i) ∧ m = 3 - i) _ [.up 7] [0, 3, 4, 5, 6] [7] (S18_1 f (ByteArray.mk #[]) 1 0 r1) rfl (by cbv) ⟨0, 0, 1, (ByteArray.mk #[]), rfl, ?_, rfl⟩ (fun σ m hI => ?_)
  · skip
    exact ⟨rfl, by decide, rfl, rfl⟩
  obtain ⟨i, k, p, S, rfl, ⟨hk, hi, hp, hS⟩, rfl⟩ := hI
  have l3 : A.rlen r1 = 3 := lr1
  have hp0 : p = 1 ∨ p = 2 ∨ p = 4 ∨ p = 8 := by
    rcases (by omega : i = 0 ∨ i = 1 ∨ i = 2 ∨ i = 3) with h | h | h | h <;> simp [hp, h]
  have hz : ByteArray.size S ≤ 20 := hS ▸ fwS_sz f hi
  refine go_seq ?_
  refine go_seq ?_
  refine go_reg ?_
  refine run_aops hA 4 _ _ _ _ (by cbv) ?_
  refine ops_done ?_
  refine go_cond rfl (fun c2 => ?_) (fun c2 => ?_)
  · skip
    have ec2 : k < (A.rlen r1) := lss_t hA c2
    refine go_skip ?_
    refine go_seq ?_
    refine go_block ?_
    refine go_seq ?_
    refine go_seq ?_
    refine go_reg ?_
    refine run_aops hA 2 _ _ _ _ (by cbv) ?_
    obtain ⟨q3, hq3⟩ : ∃ v : Int, v = IntKind.wrap .i64 (Int.tdiv f p) := ⟨_, rfl⟩
    refine ops_step rfl rfl (int_quo rfl rfl rfl (by omega) hq3) ?_
    refine run_aops hA 2 _ _ _ _ (by cbv) ?_
    refine ops_done ?_
    refine go_cond rfl (fun c4 => ?_) (fun c4 => ?_)
    · skip
      have ec4 : (A.num .rem .i64 q3 2) ≠ 0 := neq_t hA c4
      refine go_seq ?_
      refine go_seq ?_
      refine go_reg ?_
      refine run_aops hA 2 _ _ _ _ (by cbv) ?_
      refine ops_done ?_
      refine go_cond rfl (fun c5 => ?_) (fun c5 => ?_)
      · skip
        have ec5 : S ≠ (ByteArray.mk #[]) := sneq_t hA c5
        refine go_reg ?_
        refine run_aops hA 1 _ _ _ _ (by cbv) ?_
        obtain ⟨s6, hs6⟩ : ∃ s : ByteArray, s = S ++ (ByteArray.mk #[32]) := ⟨_, rfl⟩
        have zs6 : ByteArray.size s6 = ByteArray.size S + ByteArray.size (ByteArray.mk #[32]) := by rw [hs6]; exact ByteArray.size_append
        have bs6 : ByteArray.size S + ByteArray.size (ByteArray.mk #[32]) ≤ 140737488355328 := by
          have e1 : (ByteArray.mk #[40]).size = 1 := rfl
          have e2 : (ByteArray.mk #[41]).size = 1 := rfl
          have e3 : (ByteArray.mk #[32]).size = 1 := rfl
          omega
        refine ops_step rfl rfl (str_add rfl rfl rfl hs6 bs6) ?_
        refine run_aops hA 1 _ _ _ _ (by cbv) ?_
        refine ops_done ?_
        refine go_reg ?_
        refine run_aops hA 3 _ _ _ _ (by cbv) ?_
        have h0x7 : (0 : Int) ≤ k := by
          try simp only [List.length_cons, List.length_nil]
          omega
        have hlx7 : (Int.toNat k) < List.length ([(ByteArray.mk #[115, 101, 101, 110]), (ByteArray.mk #[102, 108, 97, 103, 103, 101, 100]), (ByteArray.mk #[100, 101, 108, 101, 116, 101, 100])] : List ByteArray) := by
          try simp only [List.length_cons, List.length_nil]
          omega
        obtain ⟨x7, hx7⟩ : ∃ x, (([(ByteArray.mk #[115, 101, 101, 110]), (ByteArray.mk #[102, 108, 97, 103, 103, 101, 100]), (ByteArray.mk #[100, 101, 108, 101, 116, 101, 100])] : List ByteArray))[(Int.toNat k)]? = some x := ⟨_, List.getElem?_eq_getElem hlx7⟩
        have hmx7 := List.mem_of_getElem? hx7
        have hrx7 : r1[(Int.toNat k)]? = some [.str x7] := by
          exact map_at eString er1 hx7
        have hwx7 := hx7
        rw [hk] at hwx7
        have hwx7 : wdsF[i]? = some x7 := hwx7
        have zwx7 := wdF_sz i hwx7
        have hloz8 : k < (List.length r1 : Int) := by
          rw [er1, List.length_map]; omega
        refine ops_step rfl rfl (idx_own rfl rfl rfl rfl rfl rfl h0x7 hloz8 rfl) ?_
        refine ops_step rfl rfl (ld_arr rfl rfl rfl rfl hrx7 rfl) ?_
        obtain ⟨s9, hs9⟩ : ∃ s : ByteArray, s = s6 ++ x7 := ⟨_, rfl⟩
        have zs9 : ByteArray.size s9 = ByteArray.size s6 + ByteArray.size x7 := by rw [hs9]; exact ByteArray.size_append
        have bs9 : ByteArray.size s6 + ByteArray.size x7 ≤ 140737488355328 := by
          have e1 : (ByteArray.mk #[40]).size = 1 := rfl
          have e2 : (ByteArray.mk #[41]).size = 1 := rfl
          have e3 : (ByteArray.mk #[32]).size = 1 := rfl
          omega
        refine ops_step rfl rfl (str_add rfl rfl rfl hs9 bs9) ?_
        refine run_aops hA 1 _ _ _ _ (by cbv) ?_
        refine ops_done ?_
        refine go_reg ?_
        refine run_aops hA 3 _ _ _ _ (by cbv) ?_
        refine ops_done ?_
        refine go_reg ?_
        refine run_aops hA 3 _ _ _ _ (by cbv) ?_
        refine ops_done ?_
        refine ⟨(S18_1 f s9 (A.num .mul .i64 2 p) (A.num .add .i64 k 1) r1), 3 - (i + 1), ?_, by cbv, i + 1, (A.num .add .i64 k 1), (A.num .mul .i64 2 p), s9, rfl, ?_, rfl⟩
        · skip
          omega
        · skip
          have hbq := bit_of hA hf hp (by omega) hq3
          refine ⟨by rw [add_i64 hA (by omega) (by omega)]; omega, by omega, ?_, ?_⟩
          · rw [show A.num .mul .i64 2 p = 2 * p from by rw [hA]; exact wrap64 (by unfold i64; omega), hp, Int.pow_succ, Int.mul_comm]
          · rw [fw_t (f := f) (i := i) (by rw [hbq]; exact decide_eq_true (by omega)) hS (hwx7 : wdsF[i]? = some x7)]
            rw [if_neg (by assumption), hs9, hs6]; rfl
      · skip
        have ec5 : S = (ByteArray.mk #[]) := sneq_f hA c5
        refine go_skip ?_
        refine go_reg ?_
        refine run_aops hA 3 _ _ _ _ (by cbv) ?_
        have h0x10 : (0 : Int) ≤ k := by
          try simp only [List.length_cons, List.length_nil]
          omega
        have hlx10 : (Int.toNat k) < List.length ([(ByteArray.mk #[115, 101, 101, 110]), (ByteArray.mk #[102, 108, 97, 103, 103, 101, 100]), (ByteArray.mk #[100, 101, 108, 101, 116, 101, 100])] : List ByteArray) := by
          try simp only [List.length_cons, List.length_nil]
          omega
        obtain ⟨x10, hx10⟩ : ∃ x, (([(ByteArray.mk #[115, 101, 101, 110]), (ByteArray.mk #[102, 108, 97, 103, 103, 101, 100]), (ByteArray.mk #[100, 101, 108, 101, 116, 101, 100])] : List ByteArray))[(Int.toNat k)]? = some x := ⟨_, List.getElem?_eq_getElem hlx10⟩
        have hmx10 := List.mem_of_getElem? hx10
        have hrx10 : r1[(Int.toNat k)]? = some [.str x10] := by
          exact map_at eString er1 hx10
        have hwx10 := hx10
        rw [hk] at hwx10
        have hwx10 : wdsF[i]? = some x10 := hwx10
        have zwx10 := wdF_sz i hwx10
        have hloz11 : k < (List.length r1 : Int) := by
          rw [er1, List.length_map]; omega
        refine ops_step rfl rfl (idx_own rfl rfl rfl rfl rfl rfl h0x10 hloz11 rfl) ?_
        refine ops_step rfl rfl (ld_arr rfl rfl rfl rfl hrx10 rfl) ?_
        obtain ⟨s12, hs12⟩ : ∃ s : ByteArray, s = S ++ x10 := ⟨_, rfl⟩
        have zs12 : ByteArray.size s12 = ByteArray.size S + ByteArray.size x10 := by rw [hs12]; exact ByteArray.size_append
        have bs12 : ByteArray.size S + ByteArray.size x10 ≤ 140737488355328 := by
          have e1 : (ByteArray.mk #[40]).size = 1 := rfl
          have e2 : (ByteArray.mk #[41]).size = 1 := rfl
          have e3 : (ByteArray.mk #[32]).size = 1 := rfl
          omega
        refine ops_step rfl rfl (str_add rfl rfl rfl hs12 bs12) ?_
        refine run_aops hA 1 _ _ _ _ (by cbv) ?_
        refine ops_done ?_
        refine go_reg ?_
        refine run_aops hA 3 _ _ _ _ (by cbv) ?_
        refine ops_done ?_
        refine go_reg ?_
        refine run_aops hA 3 _ _ _ _ (by cbv) ?_
        refine ops_done ?_
        refine ⟨(S18_1 f s12 (A.num .mul .i64 2 p) (A.num .add .i64 k 1) r1), 3 - (i + 1), ?_, by cbv, i + 1, (A.num .add .i64 k 1), (A.num .mul .i64 2 p), s12, rfl, ?_, rfl⟩
        · skip
          omega
        · skip
          have hbq := bit_of hA hf hp (by omega) hq3
          refine ⟨by rw [add_i64 hA (by omega) (by omega)]; omega, by omega, ?_, ?_⟩
          · rw [show A.num .mul .i64 2 p = 2 * p from by rw [hA]; exact wrap64 (by unfold i64; omega), hp, Int.pow_succ, Int.mul_comm]
          · rw [fw_t (f := f) (i := i) (by rw [hbq]; exact decide_eq_true (by omega)) hS (hwx10 : wdsF[i]? = some x10)]
            rw [if_pos (by assumption), hs12]
            congr 1
    · skip
      have ec4 : (A.num .rem .i64 q3 2) = 0 := neq_f hA c4
      refine go_skip ?_
      refine go_reg ?_
      refine run_aops hA 3 _ _ _ _ (by cbv) ?_
      refine ops_done ?_
      refine go_reg ?_
      refine run_aops hA 3 _ _ _ _ (by cbv) ?_
      refine ops_done ?_
      refine ⟨(S18_1 f S (A.num .mul .i64 2 p) (A.num .add .i64 k 1) r1), 3 - (i + 1), ?_, by cbv, i + 1, (A.num .add .i64 k 1), (A.num .mul .i64 2 p), S, rfl, ?_, rfl⟩
      · skip
        omega
      · skip
        have hbq := bit_of hA hf hp (by omega) hq3
        refine ⟨by rw [add_i64 hA (by omega) (by omega)]; omega, by omega, ?_, ?_⟩
        · rw [show A.num .mul .i64 2 p = 2 * p from by rw [hA]; exact wrap64 (by unfold i64; omega), hp, Int.pow_succ, Int.mul_comm]
        · rw [fw_f (f := f) (i := i) (by rw [hbq]; exact decide_eq_false (by omega)), hS]
  · skip
    have ec2 : (A.rlen r1) ≤ k := lss_f hA c2
    refine go_exit ⟨fun _ => ?_, fun h => absurd rfl h⟩
    refine go_seq ?_
    refine go_reg ?_
    refine run_aops hA 1 _ _ _ _ (by cbv) ?_
    obtain ⟨s13, hs13⟩ : ∃ s : ByteArray, s = (ByteArray.mk #[40]) ++ S := ⟨_, rfl⟩
    have zs13 : ByteArray.size s13 = ByteArray.size (ByteArray.mk #[40]) + ByteArray.size S := by rw [hs13]; exact ByteArray.size_append
    have bs13 : ByteArray.size (ByteArray.mk #[40]) + ByteArray.size S ≤ 140737488355328 := by
      have e1 : (ByteArray.mk #[40]).size = 1 := rfl
      have e2 : (ByteArray.mk #[41]).size = 1 := rfl
      have e3 : (ByteArray.mk #[32]).size = 1 := rfl
      omega
    refine ops_step rfl rfl (str_add rfl rfl rfl hs13 bs13) ?_
    obtain ⟨s14, hs14⟩ : ∃ s : ByteArray, s = s13 ++ (ByteArray.mk #[41]) := ⟨_, rfl⟩
    have zs14 : ByteArray.size s14 = ByteArray.size s13 + ByteArray.size (ByteArray.mk #[41]) := by rw [hs14]; exact ByteArray.size_append
    have bs14 : ByteArray.size s13 + ByteArray.size (ByteArray.mk #[41]) ≤ 140737488355328 := by
      have e1 : (ByteArray.mk #[40]).size = 1 := rfl
      have e2 : (ByteArray.mk #[41]).size = 1 := rfl
      have e3 : (ByteArray.mk #[32]).size = 1 := rfl
      omega
    refine ops_step rfl rfl (str_add rfl rfl rfl hs14 bs14) ?_
    refine run_aops hA 1 _ _ _ _ (by cbv) ?_
    refine ops_done ?_
    refine go_ret ⟨_, by cbv, ?_⟩
    show _ = (PV.str s14)
    refine congrArg PV.str ?_
    rw [hs14, hs13, hS, show i = 3 by omega]; rfl
end Go.Av
