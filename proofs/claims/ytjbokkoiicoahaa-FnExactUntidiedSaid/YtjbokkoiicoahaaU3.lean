/- Walks: sizes, copies, comparisons of events. -/
import Derived.Test.YtjbokkoiicoahaaTy
namespace Go.Av
open Go Go.Proofs
set_option maxRecDepth 100000
set_option maxHeartbeats 4000000
set_option linter.unusedVariables false
set_option linter.unusedSimpArgs false
theorem r_laws_szIntS (A : Alg) (hA : A = std) (xs : List Int) (n : Int) (h1 : 0 ≤ n) (h2 : n ≤ 1048576) (hk : ∀ k ∈ zsIntS xs, (k : Int) ≤ 9223372036854775807) : Real Try.prog 58 [.sl 1 (List.map eInt xs), .int .i64 n] (.int .i64 (chain n (zsIntS xs))) := by
  obtain ⟨xs_r, hxs_r⟩ : ∃ r, r = xs.map eInt := ⟨_, rfl⟩
  have lxs_r : A.rlen xs_r = (List.length xs : Int) := rlen_map hA hxs_r
  refine real_args (args' := [.sl 1 xs_r, .int .i64 n]) (by subst hxs_r; rfl) ?_
  have hlen : (List.length xs : Int) ≤ 9223372036854775807 := hk _ (by simp [zsIntS])
  refine real tyOk Try.func58 (by kernel_rfl) (afun_of rfl ?_)
  refine go_seq ?_
  refine go_reg ?_
  refine run_aops hA 1 _ _ _ _ (by cbv) ?_
  refine ops_done ?_
  refine go_seq ?_
  refine go_reg ?_
  refine run_aops hA 5 _ _ _ _ (by cbv) ?_
  refine ops_done ?_
  refine go_seq ?_
  refine go_seq ?_
  have w0 : A.num .sub .i64 n (A.rlen xs_r) = n - (List.length xs : Int) := by
    rw [lxs_r]; exact sub_i64 hA (by omega) (by omega)
  refine go_reg ?_
  refine run_aops hA 2 _ _ _ _ (by cbv) ?_
  refine ops_done ?_
  refine go_cond rfl (fun c1 => ?_) (fun c1 => ?_)
  · skip
    have ec1 : (A.num .sub .i64 n (A.rlen xs_r)) < 0 := lss_t hA c1
    refine go_seq ?_
    refine go_reg ?_
    refine run_aops hA 1 _ _ _ _ (by cbv) ?_
    refine ops_done ?_
    refine go_ret ⟨_, by cbv, ?_⟩
    show _ = (PV.int .i64 (-1))
    refine congrArg (PV.int .i64) ?_
    rw [zsIntS, chain_cons, if_pos (by omega)]
  · skip
    have ec1 : 0 ≤ (A.num .sub .i64 n (A.rlen xs_r)) := lss_f hA c1
    refine go_skip ?_
    refine go_seq ?_
    refine go_reg ?_
    refine run_aops hA 2 _ _ _ _ (by cbv) ?_
    refine ops_done ?_
    refine go_ret ⟨_, by cbv, ?_⟩
    show _ = (PV.int .i64 (A.num .sub .i64 n (A.rlen xs_r)))
    refine congrArg (PV.int .i64) ?_
    rw [zsIntS, chain_cons, if_neg (by omega), w0]; rfl

theorem r_laws_szEvent (A : Alg) (hA : A = std) (x : GEvent) (n : Int) (h1 : 0 ≤ n) (h2 : n ≤ 1048576) (hk : ∀ k ∈ zsEvent x, (k : Int) ≤ 9223372036854775807) : Real Try.prog 39 [.agg (eEvent x), .int .i64 n] (.int .i64 (chain n (zsEvent x))) := by
  obtain ⟨x_Kind, x_At, x_Text, x_Keep⟩ := x
  obtain ⟨x_Keep_r, hx_Keep_r⟩ : ∃ r, r = x_Keep.map eInt := ⟨_, rfl⟩
  have lx_Keep_r : A.rlen x_Keep_r = (List.length x_Keep : Int) := rlen_map hA hx_Keep_r
  refine real_args (args' := [.agg [.int .i64 x_Kind, .int .i64 x_At, .str x_Text, .sl 1 x_Keep_r], .int .i64 n]) (by subst hx_Keep_r; rfl) ?_
  have hk0 : (ByteArray.size x_Text : Int) ≤ 9223372036854775807 := hk _ (by simp [zsEvent])
  refine real tyOk Try.func39 (by kernel_rfl) (afun_of rfl ?_)
  refine go_seq ?_
  refine go_reg ?_
  refine run_aops hA 2 _ _ _ _ (by cbv) ?_
  refine ops_done ?_
  refine go_seq ?_
  refine go_reg ?_
  refine run_aops hA 6 _ _ _ _ (by cbv) ?_
  refine ops_done ?_
  refine go_seq ?_
  refine go_seq ?_
  have w0 : (A.num .sub .i64 n (A.slen x_Text)) = n - (ByteArray.size x_Text : Int) := by
    rw [slen_eq hA x_Text]; exact sub_i64 hA (by omega) (by omega)
  refine go_reg ?_
  refine run_aops hA 2 _ _ _ _ (by cbv) ?_
  refine ops_done ?_
  refine go_cond rfl (fun c1 => ?_) (fun c1 => ?_)
  · skip
    have ec1 : (A.num .sub .i64 n (A.slen x_Text)) < 0 := lss_t hA c1
    refine go_seq ?_
    refine go_reg ?_
    refine run_aops hA 1 _ _ _ _ (by cbv) ?_
    refine ops_done ?_
    refine go_ret ⟨_, by cbv, ?_⟩
    show _ = (PV.int .i64 (-1))
    show PV.int _ _ = PV.int _ _
    refine congrArg (PV.int .i64) ?_
    simp only [zsEvent]
    exact chain_strN w0 ec1
  · skip
    have ec1 : 0 ≤ (A.num .sub .i64 n (A.slen x_Text)) := lss_f hA c1
    refine go_skip ?_
    refine go_seq ?_
    refine go_reg ?_
    refine run_aops hA 3 _ _ _ _ (by cbv) ?_
    obtain ⟨v15_2, hv15_2, hc3⟩ : ∃ (v15_2 : Int), v15_2 = (chain (A.num .sub .i64 n (A.slen x_Text)) (zsIntS x_Keep)) ∧ Real Try.prog 58 [.sl 1 x_Keep_r, .int .i64 (A.num .sub .i64 n (A.slen x_Text))] (.int .i64 v15_2) := ⟨_, rfl, by subst hx_Keep_r; exact r_laws_szIntS A hA x_Keep (A.num .sub .i64 n (A.slen x_Text)) (by omega) (by omega) (fun k h => hk k (by simp only [zsEvent, List.mem_append]; simp only [h, true_or, or_true]))⟩
    refine ops_callV rfl rfl (by cbv) (by cbv) hc3 (.inr rfl) (by cbv) ?_
    have bv15_2 := chain_bd hv15_2 (by omega)
    refine run_aops hA 1 _ _ _ _ (by cbv) ?_
    refine ops_done ?_
    refine go_seq ?_
    refine go_seq ?_
    refine go_reg ?_
    refine run_aops hA 2 _ _ _ _ (by cbv) ?_
    refine ops_done ?_
    refine go_cond rfl (fun c4 => ?_) (fun c4 => ?_)
    · skip
      have ec4 : v15_2 < 0 := lss_t hA c4
      refine go_seq ?_
      refine go_reg ?_
      refine run_aops hA 1 _ _ _ _ (by cbv) ?_
      refine ops_done ?_
      refine go_ret ⟨_, by cbv, ?_⟩
      show _ = (PV.int .i64 (-1))
      show PV.int _ _ = PV.int _ _
      refine congrArg (PV.int .i64) ?_
      simp only [zsEvent]
      rw [chain_str w0 ec1]
      exact chain_subN (by omega) hv15_2 ec4
    · skip
      have ec4 : 0 ≤ v15_2 := lss_f hA c4
      refine go_skip ?_
      refine go_seq ?_
      refine go_reg ?_
      refine run_aops hA 2 _ _ _ _ (by cbv) ?_
      refine ops_done ?_
      refine go_ret ⟨_, by cbv, ?_⟩
      show _ = (PV.int .i64 v15_2)
      show PV.int _ _ = PV.int _ _
      refine congrArg (PV.int .i64) ?_
      simp only [zsEvent]
      rw [chain_str w0 ec1]
      rw [chain_sub hv15_2 ec4]
      rfl

def S8_1 (p0 : List (List PV)) (p1 : Int) (p2 : Int) : St := { sl := [.sl 4 p0, .int .i64 p1, .bad, .bad, .bad, .int .i64 p2, .bad, .bad, .bad, .bad, .bad, .bad, .bad, .bad, .bad, .bad, .bad, .bad, .bad, .bad, .bad, .bad, .bad, .bad, .bad, .bad, .bad], bl := [] }
theorem r_laws_szEventS (A : Alg) (hA : A = std) (xs : List GEvent) (n : Int) (h1 : 0 ≤ n) (h2 : n ≤ 1048576) (hk : ∀ k ∈ zsEventS xs, (k : Int) ≤ 9223372036854775807) : Real Try.prog 8 [.sl 4 (List.map eEvent xs), .int .i64 n] (.int .i64 (chain n (zsEventS xs))) := by
  obtain ⟨xs_r, hxs_r⟩ : ∃ r, r = xs.map eEvent := ⟨_, rfl⟩
  have lxs_r : A.rlen xs_r = (List.length xs : Int) := rlen_map hA hxs_r
  refine real_args (args' := [.sl 4 xs_r, .int .i64 n]) (by subst hxs_r; rfl) ?_
  have hlen : (List.length xs : Int) ≤ 9223372036854775807 := hk _ (by simp [zsEventS])
  refine real tyOk Try.func8 (by kernel_rfl) (afun_of rfl ?_)
  refine go_seq ?_
  refine go_reg ?_
  refine run_aops hA 1 _ _ _ _ (by cbv) ?_
  refine ops_done ?_
  refine go_seq ?_
  refine go_reg ?_
  refine run_aops hA 5 _ _ _ _ (by cbv) ?_
  refine ops_done ?_
  refine go_seq ?_
  refine go_seq ?_
  have w0 : A.num .sub .i64 n (A.rlen xs_r) = n - (List.length xs : Int) := by
    rw [lxs_r]; exact sub_i64 hA (by omega) (by omega)
  refine go_reg ?_
  refine run_aops hA 2 _ _ _ _ (by cbv) ?_
  refine ops_done ?_
  refine go_cond rfl (fun c1 => ?_) (fun c1 => ?_)
  · skip
    have ec1 : (A.num .sub .i64 n (A.rlen xs_r)) < 0 := lss_t hA c1
    refine go_seq ?_
    refine go_reg ?_
    refine run_aops hA 1 _ _ _ _ (by cbv) ?_
    refine ops_done ?_
    refine go_ret ⟨_, by cbv, ?_⟩
    show _ = (PV.int .i64 (-1))
    refine congrArg (PV.int .i64) ?_
    rw [zsEventS, chain_cons, if_pos (by omega)]
  · skip
    have ec1 : 0 ≤ (A.num .sub .i64 n (A.rlen xs_r)) := lss_f hA c1
    refine go_skip ?_
    refine go_seq ?_
    refine go_seq ?_
    refine go_reg ?_
    refine run_aops hA 1 _ _ _ _ (by cbv) ?_
    refine ops_done ?_
    refine go_block ?_
    refine go_loopE (fun σ m => ∃ (i : Nat) (L : Int) (n5 : Int), σ = (S8_1 xs_r L n5) ∧ (n5 = (i : Int) ∧ i ≤ List.length xs ∧ 0 ≤ L ∧ L ≤ 1048576 ∧ L = chain (n - (List.length xs : Int)) ((xs.take i).flatMap zsEvent)) ∧ m = List.length xs - i) _ [] [0, 1, 5] [] (S8_1 xs_r (A.num .sub .i64 n (A.rlen xs_r)) 0) rfl (by cbv) ⟨0, (A.num .sub .i64 n (A.rlen xs_r)), 0, rfl, ?_, rfl⟩ (fun σ m hI => ?_)
    · skip
      exact ⟨rfl, Nat.zero_le _, by omega, by omega, w0⟩
    obtain ⟨i, L, n5, rfl, ⟨hn5, hi, hL0, hL1, hL⟩, rfl⟩ := hI
    refine go_seq ?_
    refine go_seq ?_
    refine go_reg ?_
    refine run_aops hA 4 _ _ _ _ (by cbv) ?_
    refine ops_done ?_
    refine go_cond rfl (fun c2 => ?_) (fun c2 => ?_)
    · skip
      have ec2 : n5 < (A.rlen xs_r) := lss_t hA c2
      refine go_skip ?_
      refine go_seq ?_
      refine go_block ?_
      refine go_seq ?_
      refine go_reg ?_
      refine run_aops hA 2 _ _ _ _ (by cbv) ?_
      have h0x3 : (0 : Int) ≤ n5 := by
        omega
      have hlx3 : (Int.toNat n5) < List.length xs := by
        omega
      obtain ⟨x3, hx3⟩ : ∃ x, (xs)[(Int.toNat n5)]? = some x := ⟨_, List.getElem?_eq_getElem hlx3⟩
      have hmx3 := List.mem_of_getElem? hx3
      obtain ⟨x3_Kind, x3_At, x3_Text, x3_Keep⟩ := x3
      obtain ⟨x3_Keep_r, hx3_Keep_r⟩ : ∃ r, r = x3_Keep.map eInt := ⟨_, rfl⟩
      have lx3_Keep_r : A.rlen x3_Keep_r = (List.length x3_Keep : Int) := rlen_map hA hx3_Keep_r
      have hrx3 : xs_r[(Int.toNat n5)]? = some [.int .i64 x3_Kind, .int .i64 x3_At, .str x3_Text, .sl 1 x3_Keep_r] := by
        subst hx3_Keep_r; exact map_at eEvent hxs_r hx3
      have hix3 : xs[i]? = some (⟨x3_Kind, x3_At, x3_Text, x3_Keep⟩ : GEvent) := by
        have h := hx3; rw [hn5] at h; exact h
      have hkx := fun (k : Nat) h => hk k (List.mem_cons_of_mem _ (List.mem_flatMap.2 ⟨_, hmx3, h⟩))
      refine ops_step rfl rfl (idx_sl rfl rfl rfl rfl rfl h0x3 rfl hrx3) ?_
      refine run_aops hA 2 _ _ _ _ (by cbv) ?_
      obtain ⟨v23_4, hv23_4, hc5⟩ : ∃ (v23_4 : Int), v23_4 = (chain L (zsEvent (⟨x3_Kind, x3_At, x3_Text, x3_Keep⟩ : GEvent))) ∧ Real Try.prog 39 [.agg [.int .i64 x3_Kind, .int .i64 x3_At, .str x3_Text, .sl 1 x3_Keep_r], .int .i64 L] (.int .i64 v23_4) := ⟨_, rfl, by subst hx3_Keep_r; exact r_laws_szEvent A hA (⟨x3_Kind, x3_At, x3_Text, x3_Keep⟩ : GEvent) L (by omega) (by omega) hkx⟩
      refine ops_callV rfl rfl (by cbv) (by cbv) hc5 (.inr rfl) (by cbv) ?_
      have bv23_4 := chain_bd hv23_4 (by omega)
      refine run_aops hA 1 _ _ _ _ (by cbv) ?_
      refine ops_done ?_
      refine go_seq ?_
      skip
      refine go_reg ?_
      refine run_aops hA 2 _ _ _ _ (by cbv) ?_
      refine ops_done ?_
      refine go_cond rfl (fun c6 => ?_) (fun c6 => ?_)
      · skip
        have ec6 : v23_4 < 0 := lss_t hA c6
        refine go_seq ?_
        refine go_reg ?_
        refine run_aops hA 1 _ _ _ _ (by cbv) ?_
        refine ops_done ?_
        refine go_ret ⟨_, by cbv, ?_⟩
        show _ = (PV.int .i64 (-1))
        refine congrArg (PV.int .i64) ?_
        rw [zsEventS, chain_cons, if_neg (by omega), flat_split zsEvent xs (i + 1), take_flat zsEvent xs hix3, List.append_assoc, chain_sub hL hL0]
        exact chain_subN (by omega) hv23_4 ec6
      · skip
        have ec6 : 0 ≤ v23_4 := lss_f hA c6
        refine go_skip ?_
        refine go_reg ?_
        refine run_aops hA 3 _ _ _ _ (by cbv) ?_
        refine ops_done ?_
        refine ⟨(S8_1 xs_r v23_4 (A.num .add .i64 n5 1)), List.length xs - (i + 1), ?_, by cbv, i + 1, v23_4, (A.num .add .i64 n5 1), rfl, ?_, rfl⟩
        · skip
          omega
        · skip
          refine ⟨by rw [add_i64 hA (by omega) (by omega)]; omega, by omega, by omega, by omega, ?_⟩
          rw [take_flat zsEvent xs hix3, chain_sub hL hL0]
          exact hv23_4
    · skip
      have ec2 : (A.rlen xs_r) ≤ n5 := lss_f hA c2
      refine go_exit ⟨fun _ => ?_, fun h => absurd rfl h⟩
      refine go_seq ?_
      refine go_reg ?_
      refine run_aops hA 2 _ _ _ _ (by cbv) ?_
      refine ops_done ?_
      refine go_ret ⟨_, by cbv, ?_⟩
      show _ = (PV.int .i64 L)
      refine congrArg (PV.int .i64) ?_
      rw [zsEventS, chain_cons, if_neg (by omega), hL, List.take_of_length_le (by omega)]

def S63_1 (p0 : List (List PV)) (p1 : Int) (p2 : List (List PV)) : St := { sl := [.sl 1 p0, .bad, .bad, .own 7, .int .i64 p1, .bad, .bad, .bad, .bad, .bad, .bad, .bad, .bad, .bad, .bad, .bad, .bad, .bad, .bad, .bad, .bad, .bad], bl := [(7, ⟨.arr, 1, p2⟩)] }
theorem r_laws_toIntS (A : Alg) (hA : A = std) (xs : List Int) (hk : ∀ k ∈ zsIntS xs, k ≤ 1048576) : Real Try.prog 63 [.sl 1 (List.map eInt xs)] (.ow 1 (List.map eInt xs)) := by
  obtain ⟨xs_r, hxs_r⟩ : ∃ r, r = xs.map eInt := ⟨_, rfl⟩
  have lxs_r : A.rlen xs_r = (List.length xs : Int) := rlen_map hA hxs_r
  refine real_args (args' := [.sl 1 xs_r]) (by subst hxs_r; rfl) ?_
  have hlen : List.length xs ≤ 1048576 := hk _ (by simp [zsIntS])
  refine real tyOk Try.func63 (by kernel_rfl) (afun_of rfl ?_)
  refine go_seq ?_
  refine go_reg ?_
  refine run_aops hA 1 _ _ _ _ (by cbv) ?_
  refine ops_done ?_
  refine go_seq ?_
  refine go_reg ?_
  refine run_aops hA 2 _ _ _ _ (by cbv) ?_
  obtain ⟨rm, hrm⟩ : ∃ r : List (List PV), r = List.replicate (Int.toNat (A.rlen xs_r)) [.int .i64 0] := ⟨_, rfl⟩
  have hn0 : (0 : Int) ≤ A.rlen xs_r := by omega
  have hmax : A.rlen xs_r * 8 ≤ 140737488355328 := by omega
  refine ops_step rfl rfl (mk_arr rfl rfl rfl rfl rfl rfl hn0 hmax (by decide) (by decide) rfl hrm) ?_
  refine run_aops hA 1 _ _ _ _ (by cbv) ?_
  refine ops_done ?_
  refine go_seq ?_
  refine go_seq ?_
  refine go_reg ?_
  refine run_aops hA 1 _ _ _ _ (by cbv) ?_
  refine ops_done ?_
  refine go_block ?_
  refine go_loopE (fun σ m => ∃ (i : Nat) (ro : List (List PV)) (n4 : Int), σ = (S63_1 xs_r n4 ro) ∧ (n4 = (i : Int) ∧ i ≤ List.length xs ∧ ro = fill eInt [.int .i64 0] xs i) ∧ m = List.length xs - i) _ [] [0, 3, 4] [7] (S63_1 xs_r 0 rm) rfl (by cbv) ⟨0, rm, 0, rfl, ?_, rfl⟩ (fun σ m hI => ?_)
  · skip
    exact ⟨rfl, Nat.zero_le _, by rw [hrm, fill_zero, lxs_r]; rfl⟩
  obtain ⟨i, ro, n4, rfl, ⟨hn4, hi, hro⟩, rfl⟩ := hI
  refine go_seq ?_
  refine go_seq ?_
  refine go_reg ?_
  refine run_aops hA 4 _ _ _ _ (by cbv) ?_
  refine ops_done ?_
  refine go_cond rfl (fun c1 => ?_) (fun c1 => ?_)
  · skip
    have ec1 : n4 < (A.rlen xs_r) := lss_t hA c1
    refine go_skip ?_
    refine go_seq ?_
    refine go_block ?_
    refine go_reg ?_
    refine run_aops hA 4 _ _ _ _ (by cbv) ?_
    have h0x2 : (0 : Int) ≤ n4 := by
      omega
    have hlx2 : (Int.toNat n4) < List.length xs := by
      omega
    obtain ⟨x2, hx2⟩ : ∃ x, (xs)[(Int.toNat n4)]? = some x := ⟨_, List.getElem?_eq_getElem hlx2⟩
    have hmx2 := List.mem_of_getElem? hx2
    have hrx2 : xs_r[(Int.toNat n4)]? = some [.int .i64 x2] := by
      exact map_at eInt hxs_r hx2
    refine ops_step rfl rfl (idx_sl rfl rfl rfl rfl rfl h0x2 rfl hrx2) ?_
    refine run_aops hA 1 _ _ _ _ (by cbv) ?_
    have hlo : n4 < (List.length ro : Int) := by
      rw [hro, fill_len _ _ _ hi]; omega
    refine ops_step rfl rfl (idx_own rfl rfl rfl rfl rfl rfl (by omega) hlo rfl) ?_
    have hix2 := hx2
    rw [hn4] at hix2
    have hix2 : xs[i]? = some _ := hix2
    have hz : ro[Int.toNat n4]? = some [.int .i64 0] := by
      rw [hro, hn4]; exact fill_at _ _ _ (by omega)
    have hset : fill eInt [.int .i64 0] xs (i + 1) = ro.set (Int.toNat n4) [.int .i64 x2] := by
      rw [hro, hn4]; exact (fill_set eInt _ xs hix2).symm
    obtain ⟨ro2, hro2⟩ : ∃ r, r = fill eInt [.int .i64 0] xs (i + 1) := ⟨_, rfl⟩
    rw [← hro2] at hset
    refine ops_step rfl rfl (sto_arr (r := [.int .i64 0]) (cs := [.int .i64 x2]) rfl rfl rfl rfl rfl ⟨_, _, rfl⟩ rfl rfl hz rfl hset) ?_
    refine ops_done ?_
    refine go_reg ?_
    refine run_aops hA 3 _ _ _ _ (by cbv) ?_
    refine ops_done ?_
    refine ⟨(S63_1 xs_r (A.num .add .i64 n4 1) ro2), List.length xs - (i + 1), ?_, by cbv, i + 1, ro2, (A.num .add .i64 n4 1), rfl, ?_, rfl⟩
    · skip
      omega
    · skip
      exact ⟨by rw [add_i64 hA (by omega) (by omega)]; omega, by omega, hro2⟩
  · skip
    have ec1 : (A.rlen xs_r) ≤ n4 := lss_f hA c1
    refine go_exit ⟨fun _ => ?_, fun h => absurd rfl h⟩
    refine go_seq ?_
    refine go_reg ?_
    refine run_aops hA 2 _ _ _ _ (by cbv) ?_
    refine ops_done ?_
    refine go_ret ⟨_, by cbv, ?_⟩
    show _ = (PV.ow 1 ro)
    refine congrArg (PV.ow 1) ?_
    rw [hro, fill_all _ _ _ (by omega)]

theorem r_laws_toEvent (A : Alg) (hA : A = std) (x : GEvent) (hk : ∀ k ∈ zsEvent x, k ≤ 1048576) : Real Try.prog 41 [.agg (eEvent x)] (.agg (eoEvent x)) := by
  obtain ⟨x_Kind, x_At, x_Text, x_Keep⟩ := x
  obtain ⟨x_Keep_r, hx_Keep_r⟩ : ∃ r, r = x_Keep.map eInt := ⟨_, rfl⟩
  have lx_Keep_r : A.rlen x_Keep_r = (List.length x_Keep : Int) := rlen_map hA hx_Keep_r
  refine real_args (args' := [.agg [.int .i64 x_Kind, .int .i64 x_At, .str x_Text, .sl 1 x_Keep_r]]) (by subst hx_Keep_r; rfl) ?_
  refine real tyOk Try.func41 (by kernel_rfl) (afun_of rfl ?_)
  refine go_seq ?_
  refine go_reg ?_
  refine run_aops hA 2 _ _ _ _ (by cbv) ?_
  refine ops_done ?_
  refine go_seq ?_
  refine go_reg ?_
  refine run_aops hA 1 _ _ _ _ (by cbv) ?_
  refine ops_done ?_
  refine go_seq ?_
  refine go_reg ?_
  refine run_aops hA 4 _ _ _ _ (by cbv) ?_
  refine ops_done ?_
  refine go_seq ?_
  refine go_reg ?_
  refine run_aops hA 4 _ _ _ _ (by cbv) ?_
  refine ops_done ?_
  refine go_seq ?_
  refine go_reg ?_
  refine run_aops hA 4 _ _ _ _ (by cbv) ?_
  refine ops_done ?_
  refine go_seq ?_
  refine go_reg ?_
  refine run_aops hA 2 _ _ _ _ (by cbv) ?_
  obtain ⟨v15_1, hv15_1, hc2⟩ : ∃ (v15_1 : List (List PV)), v15_1 = List.map eInt x_Keep ∧ Real Try.prog 63 [.sl 1 x_Keep_r] (.ow 1 v15_1) := ⟨_, rfl, by subst hx_Keep_r; exact r_laws_toIntS A hA x_Keep (fun k h => hk k (by simp only [zsEvent, List.mem_append]; simp only [h, true_or, or_true]))⟩
  have lv15_1 : A.rlen v15_1 = (List.length x_Keep : Int) := rlen_map hA hv15_1
  refine ops_callV rfl rfl (by cbv) (by cbv) hc2 (.inr rfl) (by cbv) ?_
  refine run_aops hA 2 _ _ _ _ (by cbv) ?_
  refine ops_done ?_
  refine go_seq ?_
  refine go_reg ?_
  refine run_aops hA 2 _ _ _ _ (by cbv) ?_
  refine ops_done ?_
  refine go_ret ⟨_, by cbv, ?_⟩
  show _ = (PV.agg [.int .i64 x_Kind, .int .i64 x_At, .str x_Text, .ow 1 v15_1])
  subst hv15_1
  rfl

def S10_1 (p0 : List (List PV)) (p1 : Int) (p2 : List (List PV)) : St := { sl := [.sl 4 p0, .bad, .bad, .own 7, .int .i64 p1, .bad, .bad, .bad, .bad, .bad, .bad, .bad, .bad, .bad, .bad, .bad, .bad, .bad, .bad, .bad, .bad, .bad, .bad], bl := [(7, ⟨.arr, 4, p2⟩)] }
theorem r_laws_toEventS (A : Alg) (hA : A = std) (xs : List GEvent) (hk : ∀ k ∈ zsEventS xs, k ≤ 1048576) : Real Try.prog 10 [.sl 4 (List.map eEvent xs)] (.ow 4 (List.map eoEvent xs)) := by
  obtain ⟨xs_r, hxs_r⟩ : ∃ r, r = xs.map eEvent := ⟨_, rfl⟩
  have lxs_r : A.rlen xs_r = (List.length xs : Int) := rlen_map hA hxs_r
  refine real_args (args' := [.sl 4 xs_r]) (by subst hxs_r; rfl) ?_
  have hlen : List.length xs ≤ 1048576 := hk _ (by simp [zsEventS])
  refine real tyOk Try.func10 (by kernel_rfl) (afun_of rfl ?_)
  refine go_seq ?_
  refine go_reg ?_
  refine run_aops hA 1 _ _ _ _ (by cbv) ?_
  refine ops_done ?_
  refine go_seq ?_
  refine go_reg ?_
  refine run_aops hA 2 _ _ _ _ (by cbv) ?_
  obtain ⟨rm, hrm⟩ : ∃ r : List (List PV), r = List.replicate (Int.toNat (A.rlen xs_r)) [.int .i64 0, .int .i64 0, .str ByteArray.empty, .zc] := ⟨_, rfl⟩
  have hn0 : (0 : Int) ≤ A.rlen xs_r := by omega
  have hmax : A.rlen xs_r * 56 ≤ 140737488355328 := by omega
  refine ops_step rfl rfl (mk_arr rfl rfl rfl rfl rfl rfl hn0 hmax (by decide) (by decide) rfl hrm) ?_
  refine run_aops hA 1 _ _ _ _ (by cbv) ?_
  refine ops_done ?_
  refine go_seq ?_
  refine go_seq ?_
  refine go_reg ?_
  refine run_aops hA 1 _ _ _ _ (by cbv) ?_
  refine ops_done ?_
  refine go_block ?_
  refine go_loopE (fun σ m => ∃ (i : Nat) (ro : List (List PV)) (n4 : Int), σ = (S10_1 xs_r n4 ro) ∧ (n4 = (i : Int) ∧ i ≤ List.length xs ∧ ro = fill eoEvent [.int .i64 0, .int .i64 0, .str ByteArray.empty, .zc] xs i) ∧ m = List.length xs - i) _ [] [0, 3, 4] [7] (S10_1 xs_r 0 rm) rfl (by cbv) ⟨0, rm, 0, rfl, ?_, rfl⟩ (fun σ m hI => ?_)
  · skip
    exact ⟨rfl, Nat.zero_le _, by rw [hrm, fill_zero, lxs_r]; rfl⟩
  obtain ⟨i, ro, n4, rfl, ⟨hn4, hi, hro⟩, rfl⟩ := hI
  refine go_seq ?_
  refine go_seq ?_
  refine go_reg ?_
  refine run_aops hA 4 _ _ _ _ (by cbv) ?_
  refine ops_done ?_
  refine go_cond rfl (fun c1 => ?_) (fun c1 => ?_)
  · skip
    have ec1 : n4 < (A.rlen xs_r) := lss_t hA c1
    refine go_skip ?_
    refine go_seq ?_
    refine go_block ?_
    refine go_reg ?_
    refine run_aops hA 4 _ _ _ _ (by cbv) ?_
    have h0x2 : (0 : Int) ≤ n4 := by
      omega
    have hlx2 : (Int.toNat n4) < List.length xs := by
      omega
    obtain ⟨x2, hx2⟩ : ∃ x, (xs)[(Int.toNat n4)]? = some x := ⟨_, List.getElem?_eq_getElem hlx2⟩
    have hmx2 := List.mem_of_getElem? hx2
    obtain ⟨x2_Kind, x2_At, x2_Text, x2_Keep⟩ := x2
    obtain ⟨x2_Keep_r, hx2_Keep_r⟩ : ∃ r, r = x2_Keep.map eInt := ⟨_, rfl⟩
    have lx2_Keep_r : A.rlen x2_Keep_r = (List.length x2_Keep : Int) := rlen_map hA hx2_Keep_r
    have hrx2 : xs_r[(Int.toNat n4)]? = some [.int .i64 x2_Kind, .int .i64 x2_At, .str x2_Text, .sl 1 x2_Keep_r] := by
      subst hx2_Keep_r; exact map_at eEvent hxs_r hx2
    have hkx := fun (k : Nat) h => hk k (List.mem_cons_of_mem _ (List.mem_flatMap.2 ⟨_, hmx2, h⟩))
    refine ops_step rfl rfl (idx_sl rfl rfl rfl rfl rfl h0x2 rfl hrx2) ?_
    refine run_aops hA 1 _ _ _ _ (by cbv) ?_
    obtain ⟨v20_3_Keep, hv20_3_Keep, hc4⟩ : ∃ (v20_3_Keep : List (List PV)), v20_3_Keep = List.map eInt x2_Keep ∧ Real Try.prog 41 [.agg [.int .i64 x2_Kind, .int .i64 x2_At, .str x2_Text, .sl 1 x2_Keep_r]] (.agg [.int .i64 x2_Kind, .int .i64 x2_At, .str x2_Text, .ow 1 v20_3_Keep]) := ⟨_, rfl, by subst hx2_Keep_r; exact r_laws_toEvent A hA (⟨x2_Kind, x2_At, x2_Text, x2_Keep⟩ : GEvent) hkx⟩
    have lv20_3_Keep : A.rlen v20_3_Keep = (List.length x2_Keep : Int) := rlen_map hA hv20_3_Keep
    refine ops_callV rfl rfl (by cbv) (by cbv) hc4 (.inr rfl) (by cbv) ?_
    have hlo : n4 < (List.length ro : Int) := by
      rw [hro, fill_len _ _ _ hi]; omega
    refine ops_step rfl rfl (idx_own rfl rfl rfl rfl rfl rfl (by omega) hlo rfl) ?_
    have hix2 := hx2
    rw [hn4] at hix2
    have hix2 : xs[i]? = some _ := hix2
    have hz : ro[Int.toNat n4]? = some [.int .i64 0, .int .i64 0, .str ByteArray.empty, .zc] := by
      rw [hro, hn4]; exact fill_at _ _ _ (by omega)
    have hset : fill eoEvent [.int .i64 0, .int .i64 0, .str ByteArray.empty, .zc] xs (i + 1) = ro.set (Int.toNat n4) [.int .i64 x2_Kind, .int .i64 x2_At, .str x2_Text, .ow 1 v20_3_Keep] := by
      rw [hro, hn4]; subst hv20_3_Keep; exact (fill_set eoEvent _ xs hix2).symm
    obtain ⟨ro2, hro2⟩ : ∃ r, r = fill eoEvent [.int .i64 0, .int .i64 0, .str ByteArray.empty, .zc] xs (i + 1) := ⟨_, rfl⟩
    rw [← hro2] at hset
    refine ops_step rfl rfl (sto_arr (r := [.int .i64 0, .int .i64 0, .str ByteArray.empty, .zc]) (cs := [.int .i64 x2_Kind, .int .i64 x2_At, .str x2_Text, .ow 1 v20_3_Keep]) rfl rfl rfl rfl rfl ⟨_, _, rfl⟩ rfl rfl hz rfl hset) ?_
    refine ops_done ?_
    refine go_reg ?_
    refine run_aops hA 3 _ _ _ _ (by cbv) ?_
    refine ops_done ?_
    refine ⟨(S10_1 xs_r (A.num .add .i64 n4 1) ro2), List.length xs - (i + 1), ?_, by cbv, i + 1, ro2, (A.num .add .i64 n4 1), rfl, ?_, rfl⟩
    · skip
      omega
    · skip
      exact ⟨by rw [add_i64 hA (by omega) (by omega)]; omega, by omega, hro2⟩
  · skip
    have ec1 : (A.rlen xs_r) ≤ n4 := lss_f hA c1
    refine go_exit ⟨fun _ => ?_, fun h => absurd rfl h⟩
    refine go_seq ?_
    refine go_reg ?_
    refine run_aops hA 2 _ _ _ _ (by cbv) ?_
    refine ops_done ?_
    refine go_ret ⟨_, by cbv, ?_⟩
    show _ = (PV.ow 4 ro)
    refine congrArg (PV.ow 4) ?_
    rw [hro, fill_all _ _ _ (by omega)]

def S70_1 (p0 : List (List PV)) (p1 : Int) : St := { sl := [.sl 1 p0, .sl 1 p0, .bad, .bad, .bad, .int .i64 p1, .bad, .bad, .bad, .bad, .bad, .bad, .bad, .bad, .bad, .bad, .bad, .bad, .bad, .bad, .bad, .bad, .bad, .bad, .bad, .bad], bl := [] }
theorem r_laws_eqIntS (A : Alg) (hA : A = std) (xs : List Int) (hk : ∀ k ∈ zsIntS xs, (k : Int) ≤ 4611686018427387904) : Real Try.prog 70 [.sl 1 (List.map eInt xs), .sl 1 (List.map eInt xs)] (.bool true) := by
  obtain ⟨xs_r, hxs_r⟩ : ∃ r, r = xs.map eInt := ⟨_, rfl⟩
  have lxs_r : A.rlen xs_r = (List.length xs : Int) := rlen_map hA hxs_r
  refine real_args (args' := [.sl 1 xs_r, .sl 1 xs_r]) (by subst hxs_r; rfl) ?_
  have hlen : (List.length xs : Int) ≤ 4611686018427387904 := hk _ (by simp [zsIntS])
  refine real tyOk Try.func70 (by kernel_rfl) (afun_of rfl ?_)
  refine go_seq ?_
  refine go_reg ?_
  refine run_aops hA 1 _ _ _ _ (by cbv) ?_
  refine ops_done ?_
  refine go_seq ?_
  refine go_seq ?_
  refine go_reg ?_
  refine run_aops hA 5 _ _ _ _ (by cbv) ?_
  refine ops_done ?_
  refine go_cond rfl (fun c1 => ?_) (fun c1 => ?_)
  · skip
    exact absurd (show (A.cmp .neq (A.rlen xs_r) (A.rlen xs_r)) = true from c1) (by rw [show (A.cmp .neq (A.rlen xs_r) (A.rlen xs_r)) = false from by subst hA; simp [std]]; decide)
  · skip
    refine go_skip ?_
    refine go_seq ?_
    refine go_seq ?_
    refine go_reg ?_
    refine run_aops hA 1 _ _ _ _ (by cbv) ?_
    refine ops_done ?_
    refine go_block ?_
    refine go_loopE (fun σ m => ∃ (i : Nat) (n5 : Int), σ = (S70_1 xs_r n5) ∧ (n5 = (i : Int) ∧ i ≤ List.length xs) ∧ m = List.length xs - i) _ [] [0, 1, 5] [] (S70_1 xs_r 0) rfl (by cbv) ⟨0, 0, rfl, ?_, rfl⟩ (fun σ m hI => ?_)
    · skip
      exact ⟨rfl, Nat.zero_le _⟩
    obtain ⟨i, n5, rfl, ⟨hn5, hi⟩, rfl⟩ := hI
    refine go_seq ?_
    refine go_seq ?_
    refine go_reg ?_
    refine run_aops hA 4 _ _ _ _ (by cbv) ?_
    refine ops_done ?_
    refine go_cond rfl (fun c2 => ?_) (fun c2 => ?_)
    · skip
      have ec2 : n5 < (A.rlen xs_r) := lss_t hA c2
      refine go_skip ?_
      refine go_seq ?_
      refine go_block ?_
      refine go_seq ?_
      refine go_draw (by cbv) ?_
      refine run_dops hA 2 _ _ _ _ (by cbv) ?_
      have h0x3 : (0 : Int) ≤ n5 := by
        omega
      have hlx3 : (Int.toNat n5) < List.length xs := by
        omega
      obtain ⟨x3, hx3⟩ : ∃ x, (xs)[(Int.toNat n5)]? = some x := ⟨_, List.getElem?_eq_getElem hlx3⟩
      have hmx3 := List.mem_of_getElem? hx3
      have hrx3 : xs_r[(Int.toNat n5)]? = some [.int .i64 x3] := by
        exact map_at eInt hxs_r hx3
      refine dops_step rfl rfl rfl (idx_sl rfl rfl rfl rfl rfl h0x3 rfl hrx3) ?_
      refine run_dops hA 3 _ _ _ _ (by cbv) ?_
      refine dops_step rfl rfl rfl (idx_sl rfl rfl rfl rfl rfl h0x3 rfl hrx3) ?_
      refine run_dops hA 2 _ _ _ _ (by cbv) ?_
      refine dops_done ?_
      refine go_cond rfl (fun c4 => ?_) (fun c4 => ?_)
      · skip
        exact absurd (show (A.cmp .neq x3 x3) = true from c4) (by rw [show (A.cmp .neq x3 x3) = false from by subst hA; simp [std]]; decide)
      · skip
        refine go_skip ?_
        refine go_reg ?_
        refine run_aops hA 3 _ _ _ _ (by cbv) ?_
        refine ops_done ?_
        refine ⟨(S70_1 xs_r (A.num .add .i64 n5 1)), List.length xs - (i + 1), ?_, by cbv, i + 1, (A.num .add .i64 n5 1), rfl, ?_, rfl⟩
        · skip
          omega
        · skip
          exact ⟨by rw [add_i64 hA (by omega) (by omega)]; omega, by omega⟩
    · skip
      have ec2 : (A.rlen xs_r) ≤ n5 := lss_f hA c2
      refine go_exit ⟨fun _ => ?_, fun h => absurd rfl h⟩
      refine go_seq ?_
      refine go_reg ?_
      refine run_aops hA 1 _ _ _ _ (by cbv) ?_
      refine ops_done ?_
      refine go_ret ⟨_, by cbv, ?_⟩
      show _ = (PV.bool true)
      rfl

theorem r_laws_eqEvent (A : Alg) (hA : A = std) (x : GEvent) (hk : ∀ k ∈ zsEvent x, (k : Int) ≤ 4611686018427387904) : Real Try.prog 43 [.agg (eEvent x), .agg (eEvent x)] (.bool true) := by
  obtain ⟨x_Kind, x_At, x_Text, x_Keep⟩ := x
  obtain ⟨x_Keep_r, hx_Keep_r⟩ : ∃ r, r = x_Keep.map eInt := ⟨_, rfl⟩
  have lx_Keep_r : A.rlen x_Keep_r = (List.length x_Keep : Int) := rlen_map hA hx_Keep_r
  refine real_args (args' := [.agg [.int .i64 x_Kind, .int .i64 x_At, .str x_Text, .sl 1 x_Keep_r], .agg [.int .i64 x_Kind, .int .i64 x_At, .str x_Text, .sl 1 x_Keep_r]]) (by subst hx_Keep_r; rfl) ?_
  refine real tyOk Try.func43 (by kernel_rfl) (afun_of rfl ?_)
  refine go_seq ?_
  refine go_reg ?_
  refine run_aops hA 3 _ _ _ _ (by cbv) ?_
  refine ops_done ?_
  refine go_seq ?_
  refine go_seq ?_
  refine go_reg ?_
  refine run_aops hA 5 _ _ _ _ (by cbv) ?_
  refine ops_done ?_
  refine go_cond rfl (fun c1 => ?_) (fun c1 => ?_)
  · skip
    exact absurd (show (A.cmp .neq x_Kind x_Kind) = true from c1) (by rw [show (A.cmp .neq x_Kind x_Kind) = false from by subst hA; simp [std]]; decide)
  · skip
    refine go_skip ?_
    refine go_seq ?_
    refine go_seq ?_
    refine go_reg ?_
    refine run_aops hA 5 _ _ _ _ (by cbv) ?_
    refine ops_done ?_
    refine go_cond rfl (fun c2 => ?_) (fun c2 => ?_)
    · skip
      exact absurd (show (A.cmp .neq x_At x_At) = true from c2) (by rw [show (A.cmp .neq x_At x_At) = false from by subst hA; simp [std]]; decide)
    · skip
      refine go_skip ?_
      refine go_seq ?_
      refine go_seq ?_
      refine go_reg ?_
      refine run_aops hA 5 _ _ _ _ (by cbv) ?_
      refine ops_done ?_
      refine go_cond rfl (fun c3 => ?_) (fun c3 => ?_)
      · skip
        exact absurd (show (A.scmp .neq x_Text x_Text) = true from c3) (by rw [show (A.scmp .neq x_Text x_Text) = false from by subst hA; simp [std]]; decide)
      · skip
        refine go_skip ?_
        refine go_seq ?_
        refine go_seq ?_
        refine go_reg ?_
        refine run_aops hA 4 _ _ _ _ (by cbv) ?_
        have hc5 : Real Try.prog 70 [.sl 1 x_Keep_r, .sl 1 x_Keep_r] (.bool true) := by subst hx_Keep_r; exact r_laws_eqIntS A hA x_Keep (fun k h => hk k (by simp only [zsEvent, List.mem_append]; simp only [h, true_or, or_true]))
        refine ops_callV rfl rfl (by cbv) (by cbv) hc5 (.inr rfl) (by cbv) ?_
        refine run_aops hA 1 _ _ _ _ (by cbv) ?_
        refine ops_done ?_
        refine go_cond rfl (fun c6 => ?_) (fun c6 => ?_)
        · skip
          exact absurd (show (A.bnot true) = true from c6) (by rw [show (A.bnot true) = false from by subst hA; rfl]; decide)
        · skip
          refine go_skip ?_
          refine go_seq ?_
          refine go_reg ?_
          refine run_aops hA 1 _ _ _ _ (by cbv) ?_
          refine ops_done ?_
          refine go_ret ⟨_, by cbv, ?_⟩
          show _ = (PV.bool true)
          rfl

def S12_1 (p0 : List (List PV)) (p1 : Int) : St := { sl := [.sl 4 p0, .sl 4 p0, .bad, .bad, .bad, .int .i64 p1, .bad, .bad, .bad, .bad, .bad, .bad, .bad, .bad, .bad, .bad, .bad, .bad, .bad, .bad, .bad, .bad, .bad, .bad, .bad, .bad, .bad], bl := [] }
theorem r_laws_eqEventS (A : Alg) (hA : A = std) (xs : List GEvent) (hk : ∀ k ∈ zsEventS xs, (k : Int) ≤ 4611686018427387904) : Real Try.prog 12 [.sl 4 (List.map eEvent xs), .sl 4 (List.map eEvent xs)] (.bool true) := by
  obtain ⟨xs_r, hxs_r⟩ : ∃ r, r = xs.map eEvent := ⟨_, rfl⟩
  have lxs_r : A.rlen xs_r = (List.length xs : Int) := rlen_map hA hxs_r
  refine real_args (args' := [.sl 4 xs_r, .sl 4 xs_r]) (by subst hxs_r; rfl) ?_
  have hlen : (List.length xs : Int) ≤ 4611686018427387904 := hk _ (by simp [zsEventS])
  refine real tyOk Try.func12 (by kernel_rfl) (afun_of rfl ?_)
  refine go_seq ?_
  refine go_reg ?_
  refine run_aops hA 1 _ _ _ _ (by cbv) ?_
  refine ops_done ?_
  refine go_seq ?_
  refine go_seq ?_
  refine go_reg ?_
  refine run_aops hA 5 _ _ _ _ (by cbv) ?_
  refine ops_done ?_
  refine go_cond rfl (fun c1 => ?_) (fun c1 => ?_)
  · skip
    exact absurd (show (A.cmp .neq (A.rlen xs_r) (A.rlen xs_r)) = true from c1) (by rw [show (A.cmp .neq (A.rlen xs_r) (A.rlen xs_r)) = false from by subst hA; simp [std]]; decide)
  · skip
    refine go_skip ?_
    refine go_seq ?_
    refine go_seq ?_
    refine go_reg ?_
    refine run_aops hA 1 _ _ _ _ (by cbv) ?_
    refine ops_done ?_
    refine go_block ?_
    refine go_loopE (fun σ m => ∃ (i : Nat) (n5 : Int), σ = (S12_1 xs_r n5) ∧ (n5 = (i : Int) ∧ i ≤ List.length xs) ∧ m = List.length xs - i) _ [] [0, 1, 5] [] (S12_1 xs_r 0) rfl (by cbv) ⟨0, 0, rfl, ?_, rfl⟩ (fun σ m hI => ?_)
    · skip
      exact ⟨rfl, Nat.zero_le _⟩
    obtain ⟨i, n5, rfl, ⟨hn5, hi⟩, rfl⟩ := hI
    refine go_seq ?_
    refine go_seq ?_
    refine go_reg ?_
    refine run_aops hA 4 _ _ _ _ (by cbv) ?_
    refine ops_done ?_
    refine go_cond rfl (fun c2 => ?_) (fun c2 => ?_)
    · skip
      have ec2 : n5 < (A.rlen xs_r) := lss_t hA c2
      refine go_skip ?_
      refine go_seq ?_
      refine go_block ?_
      refine go_seq ?_
      refine go_draw (by cbv) ?_
      refine run_dops hA 2 _ _ _ _ (by cbv) ?_
      have h0x3 : (0 : Int) ≤ n5 := by
        omega
      have hlx3 : (Int.toNat n5) < List.length xs := by
        omega
      obtain ⟨x3, hx3⟩ : ∃ x, (xs)[(Int.toNat n5)]? = some x := ⟨_, List.getElem?_eq_getElem hlx3⟩
      have hmx3 := List.mem_of_getElem? hx3
      obtain ⟨x3_Kind, x3_At, x3_Text, x3_Keep⟩ := x3
      obtain ⟨x3_Keep_r, hx3_Keep_r⟩ : ∃ r, r = x3_Keep.map eInt := ⟨_, rfl⟩
      have lx3_Keep_r : A.rlen x3_Keep_r = (List.length x3_Keep : Int) := rlen_map hA hx3_Keep_r
      have hrx3 : xs_r[(Int.toNat n5)]? = some [.int .i64 x3_Kind, .int .i64 x3_At, .str x3_Text, .sl 1 x3_Keep_r] := by
        subst hx3_Keep_r; exact map_at eEvent hxs_r hx3
      have hkx := fun (k : Nat) h => hk k (List.mem_cons_of_mem _ (List.mem_flatMap.2 ⟨_, hmx3, h⟩))
      refine dops_step rfl rfl rfl (idx_sl rfl rfl rfl rfl rfl h0x3 rfl hrx3) ?_
      refine run_dops hA 3 _ _ _ _ (by cbv) ?_
      refine dops_step rfl rfl rfl (idx_sl rfl rfl rfl rfl rfl h0x3 rfl hrx3) ?_
      refine run_dops hA 1 _ _ _ _ (by cbv) ?_
      have hc5 : Real Try.prog 43 [.agg [.int .i64 x3_Kind, .int .i64 x3_At, .str x3_Text, .sl 1 x3_Keep_r], .agg [.int .i64 x3_Kind, .int .i64 x3_At, .str x3_Text, .sl 1 x3_Keep_r]] (.bool true) := by subst hx3_Keep_r; exact r_laws_eqEvent A hA (⟨x3_Kind, x3_At, x3_Text, x3_Keep⟩ : GEvent) hkx
      refine dops_callV rfl rfl (by cbv) (by cbv) hc5 (.inr rfl) ?_
      refine run_dops hA 1 _ _ _ _ (by cbv) ?_
      refine dops_done ?_
      refine go_cond rfl (fun c6 => ?_) (fun c6 => ?_)
      · skip
        exact absurd (show (A.bnot true) = true from c6) (by rw [show (A.bnot true) = false from by subst hA; rfl]; decide)
      · skip
        refine go_skip ?_
        refine go_reg ?_
        refine run_aops hA 3 _ _ _ _ (by cbv) ?_
        refine ops_done ?_
        refine ⟨(S12_1 xs_r (A.num .add .i64 n5 1)), List.length xs - (i + 1), ?_, by cbv, i + 1, (A.num .add .i64 n5 1), rfl, ?_, rfl⟩
        · skip
          omega
        · skip
          exact ⟨by rw [add_i64 hA (by omega) (by omega)]; omega, by omega⟩
    · skip
      have ec2 : (A.rlen xs_r) ≤ n5 := lss_f hA c2
      refine go_exit ⟨fun _ => ?_, fun h => absurd rfl h⟩
      refine go_seq ?_
      refine go_reg ?_
      refine run_aops hA 1 _ _ _ _ (by cbv) ?_
      refine ops_done ?_
      refine go_ret ⟨_, by cbv, ?_⟩
      show _ = (PV.bool true)
      rfl
end Go.Av
