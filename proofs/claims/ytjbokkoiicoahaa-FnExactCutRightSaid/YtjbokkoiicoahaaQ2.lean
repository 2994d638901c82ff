/- Walks: to of cuts. -/
import Derived.Test.YtjbokkoiicoahaaTy
namespace Go.Av
open Go Go.Proofs
set_option maxRecDepth 100000
set_option maxHeartbeats 4000000
set_option linter.unusedVariables false
set_option linter.unusedSimpArgs false
theorem r_laws_toMail (A : Alg) (hA : A = std) (x : GMail) (hk : ∀ k ∈ zsMail x, k ≤ 1048576) : Real Try.prog 144 [.agg (eMail x)] (.agg (eoMail x)) := by
  obtain ⟨x_Uid, x_Flags, x_Text⟩ := x
  refine real_args (args' := [.agg [.int .i64 x_Uid, .int .i64 x_Flags, .str x_Text]]) (by rfl) ?_
  refine real tyOk Try.func144 (by kernel_rfl) (afun_of rfl ?_)
  refine go_seq ?_
  refine go_reg ?_
  refine run_aops hA 2 _ _ _ _ (by cbv) ?_
  refine ops_done ?_
  refine go_seq ?_
  refine go_reg ?_
  refine run_aops hA 1 _ _ _ _ (by cbv) ?_
  refine ops_done ?_
  refine go_seq ?_
  refine go_reg ?_
  refine run_aops hA 4 _ _ _ _ (by cbv) ?_
  refine ops_done ?_
  refine go_seq ?_
  refine go_reg ?_
  refine run_aops hA 4 _ _ _ _ (by cbv) ?_
  refine ops_done ?_
  refine go_seq ?_
  refine go_reg ?_
  refine run_aops hA 4 _ _ _ _ (by cbv) ?_
  refine ops_done ?_
  refine go_seq ?_
  refine go_reg ?_
  refine run_aops hA 2 _ _ _ _ (by cbv) ?_
  refine ops_done ?_
  refine go_ret ⟨_, by cbv, ?_⟩
  show _ = (PV.agg [.int .i64 x_Uid, .int .i64 x_Flags, .str x_Text])
  rfl

def S126_1 (p0 : List (List PV)) (p1 : Int) (p2 : List (List PV)) : St := { sl := [.sl 3 p0, .bad, .bad, .own 7, .int .i64 p1, .bad, .bad, .bad, .bad, .bad, .bad, .bad, .bad, .bad, .bad, .bad, .bad, .bad, .bad, .bad, .bad, .bad, .bad], bl := [(7, ⟨.arr, 3, p2⟩)] }
theorem r_laws_toMailS (A : Alg) (hA : A = std) (xs : List GMail) (hk : ∀ k ∈ zsMailS xs, k ≤ 1048576) : Real Try.prog 126 [.sl 3 (List.map eMail xs)] (.ow 3 (List.map eoMail xs)) := by
  obtain ⟨xs_r, hxs_r⟩ : ∃ r, r = xs.map eMail := ⟨_, rfl⟩
  have lxs_r : A.rlen xs_r = (List.length xs : Int) := rlen_map hA hxs_r
  refine real_args (args' := [.sl 3 xs_r]) (by subst hxs_r; rfl) ?_
  have hlen : List.length xs ≤ 1048576 := hk _ (by simp [zsMailS])
  refine real tyOk Try.func126 (by kernel_rfl) (afun_of rfl ?_)
  refine go_seq ?_
  refine go_reg ?_
  refine run_aops hA 1 _ _ _ _ (by cbv) ?_
  refine ops_done ?_
  refine go_seq ?_
  refine go_reg ?_
  refine run_aops hA 2 _ _ _ _ (by cbv) ?_
  obtain ⟨rm, hrm⟩ : ∃ r : List (List PV), r = List.replicate (Int.toNat (A.rlen xs_r)) [.int .i64 0, .int .i64 0, .str ByteArray.empty] := ⟨_, rfl⟩
  have hn0 : (0 : Int) ≤ A.rlen xs_r := by omega
  have hmax : A.rlen xs_r * 32 ≤ 140737488355328 := by omega
  refine ops_step rfl rfl (mk_arr rfl rfl rfl rfl rfl rfl hn0 hmax (by decide) (by decide) rfl hrm) ?_
  refine run_aops hA 1 _ _ _ _ (by cbv) ?_
  refine ops_done ?_
  refine go_seq ?_
  refine go_seq ?_
  refine go_reg ?_
  refine run_aops hA 1 _ _ _ _ (by cbv) ?_
  refine ops_done ?_
  refine go_block ?_
  refine go_loopE (fun σ m => ∃ (i : Nat) (ro : List (List PV)) (n4 : Int), σ = (S126_1 xs_r n4 ro) ∧ (n4 = (i : Int) ∧ i ≤ List.length xs ∧ ro = fill eoMail [.int .i64 0, .int .i64 0, .str ByteArray.empty] xs i) ∧ m = List.length xs - i) _ [] [0, 3, 4] [7] (S126_1 xs_r 0 rm) rfl (by cbv) ⟨0, rm, 0, rfl, ?_, rfl⟩ (fun σ m hI => ?_)
  · skip
    exact ⟨rfl, Nat.zero_le _, by rw [hrm, fill_zero, lxs_r]; rfl⟩
  obtain ⟨i, ro, n4, rfl, ⟨hn4, hi, hro⟩, rfl⟩ := hI
  refine go_seq ?_
  refine go_seq ?_
  refine go_reg ?_
  refine run_aops hA 4 _ _ _ _ (by cbv) ?_
  refine ops_done ?_
  refine go_cond rfl (fun c1 => ?_) (fun c1 => ?_)
  · skip
    have ec1 : n4 < (A.rlen xs_r) := lss_t hA c1
    refine go_skip ?_
    refine go_seq ?_
    refine go_block ?_
    refine go_reg ?_
    refine run_aops hA 4 _ _ _ _ (by cbv) ?_
    have h0x2 : (0 : Int) ≤ n4 := by
      omega
    have hlx2 : (Int.toNat n4) < List.length xs := by
      omega
    obtain ⟨x2, hx2⟩ : ∃ x, (xs)[(Int.toNat n4)]? = some x := ⟨_, List.getElem?_eq_getElem hlx2⟩
    have hmx2 := List.mem_of_getElem? hx2
    obtain ⟨x2_Uid, x2_Flags, x2_Text⟩ := x2
    have hrx2 : xs_r[(Int.toNat n4)]? = some [.int .i64 x2_Uid, .int .i64 x2_Flags, .str x2_Text] := by
      exact map_at eMail hxs_r hx2
    have hkx := fun (k : Nat) h => hk k (List.mem_cons_of_mem _ (List.mem_flatMap.2 ⟨_, hmx2, h⟩))
    refine ops_step rfl rfl (idx_sl rfl rfl rfl rfl rfl h0x2 rfl hrx2) ?_
    refine run_aops hA 1 _ _ _ _ (by cbv) ?_
    have hc4 : Real Try.prog 144 [.agg [.int .i64 x2_Uid, .int .i64 x2_Flags, .str x2_Text]] (.agg [.int .i64 x2_Uid, .int .i64 x2_Flags, .str x2_Text]) := by exact r_laws_toMail A hA (⟨x2_Uid, x2_Flags, x2_Text⟩ : GMail) hkx
    refine ops_callV rfl rfl (by cbv) (by cbv) hc4 (.inr rfl) (by cbv) ?_
    have hlo : n4 < (List.length ro : Int) := by
      rw [hro, fill_len _ _ _ hi]; omega
    refine ops_step rfl rfl (idx_own rfl rfl rfl rfl rfl rfl (by omega) hlo rfl) ?_
    have hix2 := hx2
    rw [hn4] at hix2
    have hix2 : xs[i]? = some _ := hix2
    have hz : ro[Int.toNat n4]? = some [.int .i64 0, .int .i64 0, .str ByteArray.empty] := by
      rw [hro, hn4]; exact fill_at _ _ _ (by omega)
    have hset : fill eoMail [.int .i64 0, .int .i64 0, .str ByteArray.empty] xs (i + 1) = ro.set (Int.toNat n4) [.int .i64 x2_Uid, .int .i64 x2_Flags, .str x2_Text] := by
      rw [hro, hn4]; exact (fill_set eoMail _ xs hix2).symm
    obtain ⟨ro2, hro2⟩ : ∃ r, r = fill eoMail [.int .i64 0, .int .i64 0, .str ByteArray.empty] xs (i + 1) := ⟨_, rfl⟩
    rw [← hro2] at hset
    refine ops_step rfl rfl (sto_arr (r := [.int .i64 0, .int .i64 0, .str ByteArray.empty]) (cs := [.int .i64 x2_Uid, .int .i64 x2_Flags, .str x2_Text]) rfl rfl rfl rfl rfl ⟨_, _, rfl⟩ rfl rfl hz rfl hset) ?_
    refine ops_done ?_
    refine go_reg ?_
    refine run_aops hA 3 _ _ _ _ (by cbv) ?_
    refine ops_done ?_
    refine ⟨(S126_1 xs_r (A.num .add .i64 n4 1) ro2), List.length xs - (i + 1), ?_, by cbv, i + 1, ro2, (A.num .add .i64 n4 1), rfl, ?_, rfl⟩
    · skip
      omega
    · skip
      exact ⟨by rw [add_i64 hA (by omega) (by omega)]; omega, by omega, hro2⟩
  · skip
    have ec1 : (A.rlen xs_r) ≤ n4 := lss_f hA c1
    refine go_exit ⟨fun _ => ?_, fun h => absurd rfl h⟩
    refine go_seq ?_
    refine go_reg ?_
    refine run_aops hA 2 _ _ _ _ (by cbv) ?_
    refine ops_done ?_
    refine go_ret ⟨_, by cbv, ?_⟩
    show _ = (PV.ow 3 ro)
    refine congrArg (PV.ow 3) ?_
    rw [hro, fill_all _ _ _ (by omega)]

theorem r_laws_toBox (A : Alg) (hA : A = std) (x : GBox) (hk : ∀ k ∈ zsBox x, k ≤ 1048576) : Real Try.prog 121 [.agg (eBox x)] (.agg (eoBox x)) := by
  obtain ⟨x_Valid, x_User, x_Name, x_Next, x_Mails⟩ := x
  obtain ⟨x_Mails_r, hx_Mails_r⟩ : ∃ r, r = x_Mails.map eMail := ⟨_, rfl⟩
  have lx_Mails_r : A.rlen x_Mails_r = (List.length x_Mails : Int) := rlen_map hA hx_Mails_r
  refine real_args (args' := [.agg [.int .i64 x_Valid, .str x_User, .str x_Name, .int .i64 x_Next, .sl 3 x_Mails_r]]) (by subst hx_Mails_r; rfl) ?_
  refine real tyOk Try.func121 (by kernel_rfl) (afun_of rfl ?_)
  refine go_seq ?_
  refine go_reg ?_
  refine run_aops hA 2 _ _ _ _ (by cbv) ?_
  refine ops_done ?_
  refine go_seq ?_
  refine go_reg ?_
  refine run_aops hA 1 _ _ _ _ (by cbv) ?_
  refine ops_done ?_
  refine go_seq ?_
  refine go_reg ?_
  refine run_aops hA 4 _ _ _ _ (by cbv) ?_
  refine ops_done ?_
  refine go_seq ?_
  refine go_reg ?_
  refine run_aops hA 4 _ _ _ _ (by cbv) ?_
  refine ops_done ?_
  refine go_seq ?_
  refine go_reg ?_
  refine run_aops hA 4 _ _ _ _ (by cbv) ?_
  refine ops_done ?_
  refine go_seq ?_
  refine go_reg ?_
  refine run_aops hA 4 _ _ _ _ (by cbv) ?_
  refine ops_done ?_
  refine go_seq ?_
  refine go_reg ?_
  refine run_aops hA 2 _ _ _ _ (by cbv) ?_
  obtain ⟨v18_1, hv18_1, hc2⟩ : ∃ (v18_1 : List (List PV)), v18_1 = List.map eoMail x_Mails ∧ Real Try.prog 126 [.sl 3 x_Mails_r] (.ow 3 v18_1) := ⟨_, rfl, by subst hx_Mails_r; exact r_laws_toMailS A hA x_Mails (fun k h => hk k (by simp only [zsBox, List.mem_append]; simp only [h, true_or, or_true]))⟩
  have lv18_1 : A.rlen v18_1 = (List.length x_Mails : Int) := rlen_map hA hv18_1
  refine ops_callV rfl rfl (by cbv) (by cbv) hc2 (.inr rfl) (by cbv) ?_
  refine run_aops hA 2 _ _ _ _ (by cbv) ?_
  refine ops_done ?_
  refine go_seq ?_
  refine go_reg ?_
  refine run_aops hA 2 _ _ _ _ (by cbv) ?_
  refine ops_done ?_
  refine go_ret ⟨_, by cbv, ?_⟩
  show _ = (PV.agg [.int .i64 x_Valid, .str x_User, .str x_Name, .int .i64 x_Next, .ow 3 v18_1])
  subst hv18_1
  rfl

def S81_1 (p0 : List (List PV)) (p1 : Int) (p2 : List (List PV)) : St := { sl := [.sl 5 p0, .bad, .bad, .own 7, .int .i64 p1, .bad, .bad, .bad, .bad, .bad, .bad, .bad, .bad, .bad, .bad, .bad, .bad, .bad, .bad, .bad, .bad, .bad, .bad], bl := [(7, ⟨.arr, 5, p2⟩)] }
theorem r_laws_toBoxS (A : Alg) (hA : A = std) (xs : List GBox) (hk : ∀ k ∈ zsBoxS xs, k ≤ 1048576) : Real Try.prog 81 [.sl 5 (List.map eBox xs)] (.ow 5 (List.map eoBox xs)) := by
  obtain ⟨xs_r, hxs_r⟩ : ∃ r, r = xs.map eBox := ⟨_, rfl⟩
  have lxs_r : A.rlen xs_r = (List.length xs : Int) := rlen_map hA hxs_r
  refine real_args (args' := [.sl 5 xs_r]) (by subst hxs_r; rfl) ?_
  have hlen : List.length xs ≤ 1048576 := hk _ (by simp [zsBoxS])
  refine real tyOk Try.func81 (by kernel_rfl) (afun_of rfl ?_)
  refine go_seq ?_
  refine go_reg ?_
  refine run_aops hA 1 _ _ _ _ (by cbv) ?_
  refine ops_done ?_
  refine go_seq ?_
  refine go_reg ?_
  refine run_aops hA 2 _ _ _ _ (by cbv) ?_
  obtain ⟨rm, hrm⟩ : ∃ r : List (List PV), r = List.replicate (Int.toNat (A.rlen xs_r)) [.int .i64 0, .str ByteArray.empty, .str ByteArray.empty, .int .i64 0, .zc] := ⟨_, rfl⟩
  have hn0 : (0 : Int) ≤ A.rlen xs_r := by omega
  have hmax : A.rlen xs_r * 72 ≤ 140737488355328 := by omega
  refine ops_step rfl rfl (mk_arr rfl rfl rfl rfl rfl rfl hn0 hmax (by decide) (by decide) rfl hrm) ?_
  refine run_aops hA 1 _ _ _ _ (by cbv) ?_
  refine ops_done ?_
  refine go_seq ?_
  refine go_seq ?_
  refine go_reg ?_
  refine run_aops hA 1 _ _ _ _ (by cbv) ?_
  refine ops_done ?_
  refine go_block ?_
  refine go_loopE (fun σ m => ∃ (i : Nat) (ro : List (List PV)) (n4 : Int), σ = (S81_1 xs_r n4 ro) ∧ (n4 = (i : Int) ∧ i ≤ List.length xs ∧ ro = fill eoBox [.int .i64 0, .str ByteArray.empty, .str ByteArray.empty, .int .i64 0, .zc] xs i) ∧ m = List.length xs - i) _ [] [0, 3, 4] [7] (S81_1 xs_r 0 rm) rfl (by cbv) ⟨0, rm, 0, rfl, ?_, rfl⟩ (fun σ m hI => ?_)
  · skip
    exact ⟨rfl, Nat.zero_le _, by rw [hrm, fill_zero, lxs_r]; rfl⟩
  obtain ⟨i, ro, n4, rfl, ⟨hn4, hi, hro⟩, rfl⟩ := hI
  refine go_seq ?_
  refine go_seq ?_
  refine go_reg ?_
  refine run_aops hA 4 _ _ _ _ (by cbv) ?_
  refine ops_done ?_
  refine go_cond rfl (fun c1 => ?_) (fun c1 => ?_)
  · skip
    have ec1 : n4 < (A.rlen xs_r) := lss_t hA c1
    refine go_skip ?_
    refine go_seq ?_
    refine go_block ?_
    refine go_reg ?_
    refine run_aops hA 4 _ _ _ _ (by cbv) ?_
    have h0x2 : (0 : Int) ≤ n4 := by
      omega
    have hlx2 : (Int.toNat n4) < List.length xs := by
      omega
    obtain ⟨x2, hx2⟩ : ∃ x, (xs)[(Int.toNat n4)]? = some x := ⟨_, List.getElem?_eq_getElem hlx2⟩
    have hmx2 := List.mem_of_getElem? hx2
    obtain ⟨x2_Valid, x2_User, x2_Name, x2_Next, x2_Mails⟩ := x2
    obtain ⟨x2_Mails_r, hx2_Mails_r⟩ : ∃ r, r = x2_Mails.map eMail := ⟨_, rfl⟩
    have lx2_Mails_r : A.rlen x2_Mails_r = (List.length x2_Mails : Int) := rlen_map hA hx2_Mails_r
    have hrx2 : xs_r[(Int.toNat n4)]? = some [.int .i64 x2_Valid, .str x2_User, .str x2_Name, .int .i64 x2_Next, .sl 3 x2_Mails_r] := by
      subst hx2_Mails_r; exact map_at eBox hxs_r hx2
    have hkx := fun (k : Nat) h => hk k (List.mem_cons_of_mem _ (List.mem_flatMap.2 ⟨_, hmx2, h⟩))
    refine ops_step rfl rfl (idx_sl rfl rfl rfl rfl rfl h0x2 rfl hrx2) ?_
    refine run_aops hA 1 _ _ _ _ (by cbv) ?_
    obtain ⟨v20_3_Mails, hv20_3_Mails, hc4⟩ : ∃ (v20_3_Mails : List (List PV)), v20_3_Mails = List.map eoMail x2_Mails ∧ Real Try.prog 121 [.agg [.int .i64 x2_Valid, .str x2_User, .str x2_Name, .int .i64 x2_Next, .sl 3 x2_Mails_r]] (.agg [.int .i64 x2_Valid, .str x2_User, .str x2_Name, .int .i64 x2_Next, .ow 3 v20_3_Mails]) := ⟨_, rfl, by subst hx2_Mails_r; exact r_laws_toBox A hA (⟨x2_Valid, x2_User, x2_Name, x2_Next, x2_Mails⟩ : GBox) hkx⟩
    have lv20_3_Mails : A.rlen v20_3_Mails = (List.length x2_Mails : Int) := rlen_map hA hv20_3_Mails
    refine ops_callV rfl rfl (by cbv) (by cbv) hc4 (.inr rfl) (by cbv) ?_
    have hlo : n4 < (List.length ro : Int) := by
      rw [hro, fill_len _ _ _ hi]; omega
    refine ops_step rfl rfl (idx_own rfl rfl rfl rfl rfl rfl (by omega) hlo rfl) ?_
    have hix2 := hx2
    rw [hn4] at hix2
    have hix2 : xs[i]? = some _ := hix2
    have hz : ro[Int.toNat n4]? = some [.int .i64 0, .str ByteArray.empty, .str ByteArray.empty, .int .i64 0, .zc] := by
      rw [hro, hn4]; exact fill_at _ _ _ (by omega)
    have hset : fill eoBox [.int .i64 0, .str ByteArray.empty, .str ByteArray.empty, .int .i64 0, .zc] xs (i + 1) = ro.set (Int.toNat n4) [.int .i64 x2_Valid, .str x2_User, .str x2_Name, .int .i64 x2_Next, .ow 3 v20_3_Mails] := by
      rw [hro, hn4]; subst hv20_3_Mails; exact (fill_set eoBox _ xs hix2).symm
    obtain ⟨ro2, hro2⟩ : ∃ r, r = fill eoBox [.int .i64 0, .str ByteArray.empty, .str ByteArray.empty, .int .i64 0, .zc] xs (i + 1) := ⟨_, rfl⟩
    rw [← hro2] at hset
    refine ops_step rfl rfl (sto_arr (r := [.int .i64 0, .str ByteArray.empty, .str ByteArray.empty, .int .i64 0, .zc]) (cs := [.int .i64 x2_Valid, .str x2_User, .str x2_Name, .int .i64 x2_Next, .ow 3 v20_3_Mails]) rfl rfl rfl rfl rfl ⟨_, _, rfl⟩ rfl rfl hz rfl hset) ?_
    refine ops_done ?_
    refine go_reg ?_
    refine run_aops hA 3 _ _ _ _ (by cbv) ?_
    refine ops_done ?_
    refine ⟨(S81_1 xs_r (A.num .add .i64 n4 1) ro2), List.length xs - (i + 1), ?_, by cbv, i + 1, ro2, (A.num .add .i64 n4 1), rfl, ?_, rfl⟩
    · skip
      omega
    · skip
      exact ⟨by rw [add_i64 hA (by omega) (by omega)]; omega, by omega, hro2⟩
  · skip
    have ec1 : (A.rlen xs_r) ≤ n4 := lss_f hA c1
    refine go_exit ⟨fun _ => ?_, fun h => absurd rfl h⟩
    refine go_seq ?_
    refine go_reg ?_
    refine run_aops hA 2 _ _ _ _ (by cbv) ?_
    refine ops_done ?_
    refine go_ret ⟨_, by cbv, ?_⟩
    show _ = (PV.ow 5 ro)
    refine congrArg (PV.ow 5) ?_
    rw [hro, fill_all _ _ _ (by omega)]

theorem r_laws_toState (A : Alg) (hA : A = std) (x : GState) (hk : ∀ k ∈ zsState x, k ≤ 1048576) : Real Try.prog 49 [.agg (eState x)] (.agg (eoState x)) := by
  obtain ⟨x_Boxes⟩ := x
  obtain ⟨x_Boxes_r, hx_Boxes_r⟩ : ∃ r, r = x_Boxes.map eBox := ⟨_, rfl⟩
  have lx_Boxes_r : A.rlen x_Boxes_r = (List.length x_Boxes : Int) := rlen_map hA hx_Boxes_r
  refine real_args (args' := [.agg [.sl 5 x_Boxes_r]]) (by subst hx_Boxes_r; rfl) ?_
  refine real tyOk Try.func49 (by kernel_rfl) (afun_of rfl ?_)
  refine go_seq ?_
  refine go_reg ?_
  refine run_aops hA 2 _ _ _ _ (by cbv) ?_
  refine ops_done ?_
  refine go_seq ?_
  refine go_reg ?_
  refine run_aops hA 1 _ _ _ _ (by cbv) ?_
  refine ops_done ?_
  refine go_seq ?_
  refine go_reg ?_
  refine run_aops hA 2 _ _ _ _ (by cbv) ?_
  obtain ⟨v6_1, hv6_1, hc2⟩ : ∃ (v6_1 : List (List PV)), v6_1 = List.map eoBox x_Boxes ∧ Real Try.prog 81 [.sl 5 x_Boxes_r] (.ow 5 v6_1) := ⟨_, rfl, by subst hx_Boxes_r; exact r_laws_toBoxS A hA x_Boxes (fun k h => hk k (by simp only [zsState, List.mem_append]; simp only [h, true_or, or_true]))⟩
  have lv6_1 : A.rlen v6_1 = (List.length x_Boxes : Int) := rlen_map hA hv6_1
  refine ops_callV rfl rfl (by cbv) (by cbv) hc2 (.inr rfl) (by cbv) ?_
  refine run_aops hA 2 _ _ _ _ (by cbv) ?_
  refine ops_done ?_
  refine go_seq ?_
  refine go_reg ?_
  refine run_aops hA 2 _ _ _ _ (by cbv) ?_
  refine ops_done ?_
  refine go_ret ⟨_, by cbv, ?_⟩
  show _ = (PV.agg [.ow 5 v6_1])
  subst hv6_1
  rfl

theorem r_laws_toCut (A : Alg) (hA : A = std) (x : GCut) (hk : ∀ k ∈ zsCut x, k ≤ 1048576) : Real Try.prog 17 [.agg (eCut x)] (.agg (eoCut x)) := by
  obtain ⟨⟨x_Before_Boxes⟩, ⟨x_After_Boxes⟩, ⟨x_Risen_Boxes⟩, x_Ok, x_Clash⟩ := x
  obtain ⟨x_Before_Boxes_r, hx_Before_Boxes_r⟩ : ∃ r, r = x_Before_Boxes.map eBox := ⟨_, rfl⟩
  have lx_Before_Boxes_r : A.rlen x_Before_Boxes_r = (List.length x_Before_Boxes : Int) := rlen_map hA hx_Before_Boxes_r
  obtain ⟨x_After_Boxes_r, hx_After_Boxes_r⟩ : ∃ r, r = x_After_Boxes.map eBox := ⟨_, rfl⟩
  have lx_After_Boxes_r : A.rlen x_After_Boxes_r = (List.length x_After_Boxes : Int) := rlen_map hA hx_After_Boxes_r
  obtain ⟨x_Risen_Boxes_r, hx_Risen_Boxes_r⟩ : ∃ r, r = x_Risen_Boxes.map eBox := ⟨_, rfl⟩
  have lx_Risen_Boxes_r : A.rlen x_Risen_Boxes_r = (List.length x_Risen_Boxes : Int) := rlen_map hA hx_Risen_Boxes_r
  refine real_args (args' := [.agg [.sl 5 x_Before_Boxes_r, .sl 5 x_After_Boxes_r, .sl 5 x_Risen_Boxes_r, .bool x_Ok, .bool x_Clash]]) (by subst hx_Before_Boxes_r hx_After_Boxes_r hx_Risen_Boxes_r; rfl) ?_
  refine real tyOk Try.func17 (by kernel_rfl) (afun_of rfl ?_)
  refine go_seq ?_
  refine go_reg ?_
  refine run_aops hA 2 _ _ _ _ (by cbv) ?_
  refine ops_done ?_
  refine go_seq ?_
  refine go_reg ?_
  refine run_aops hA 1 _ _ _ _ (by cbv) ?_
  refine ops_done ?_
  refine go_seq ?_
  refine go_reg ?_
  refine run_aops hA 2 _ _ _ _ (by cbv) ?_
  obtain ⟨v6_1_Boxes, hv6_1_Boxes, hc2⟩ : ∃ (v6_1_Boxes : List (List PV)), v6_1_Boxes = List.map eoBox x_Before_Boxes ∧ Real Try.prog 49 [.agg [.sl 5 x_Before_Boxes_r]] (.agg [.ow 5 v6_1_Boxes]) := ⟨_, rfl, by subst hx_Before_Boxes_r; exact r_laws_toState A hA (⟨x_Before_Boxes⟩ : GState) (fun k h => hk k (by simp only [zsCut, List.mem_append]; simp only [h, true_or, or_true]))⟩
  have lv6_1_Boxes : A.rlen v6_1_Boxes = (List.length x_Before_Boxes : Int) := rlen_map hA hv6_1_Boxes
  refine ops_callV rfl rfl (by cbv) (by cbv) hc2 (.inr rfl) (by cbv) ?_
  refine run_aops hA 2 _ _ _ _ (by cbv) ?_
  refine ops_done ?_
  refine go_seq ?_
  refine go_reg ?_
  refine run_aops hA 2 _ _ _ _ (by cbv) ?_
  obtain ⟨v10_3_Boxes, hv10_3_Boxes, hc4⟩ : ∃ (v10_3_Boxes : List (List PV)), v10_3_Boxes = List.map eoBox x_After_Boxes ∧ Real Try.prog 49 [.agg [.sl 5 x_After_Boxes_r]] (.agg [.ow 5 v10_3_Boxes]) := ⟨_, rfl, by subst hx_After_Boxes_r; exact r_laws_toState A hA (⟨x_After_Boxes⟩ : GState) (fun k h => hk k (by simp only [zsCut, List.mem_append]; simp only [h, true_or, or_true]))⟩
  have lv10_3_Boxes : A.rlen v10_3_Boxes = (List.length x_After_Boxes : Int) := rlen_map hA hv10_3_Boxes
  refine ops_callV rfl rfl (by cbv) (by cbv) hc4 (.inr rfl) (by cbv) ?_
  refine run_aops hA 2 _ _ _ _ (by cbv) ?_
  refine ops_done ?_
  refine go_seq ?_
  refine go_reg ?_
  refine run_aops hA 2 _ _ _ _ (by cbv) ?_
  obtain ⟨v14_5_Boxes, hv14_5_Boxes, hc6⟩ : ∃ (v14_5_Boxes : List (List PV)), v14_5_Boxes = List.map eoBox x_Risen_Boxes ∧ Real Try.prog 49 [.agg [.sl 5 x_Risen_Boxes_r]] (.agg [.ow 5 v14_5_Boxes]) := ⟨_, rfl, by subst hx_Risen_Boxes_r; exact r_laws_toState A hA (⟨x_Risen_Boxes⟩ : GState) (fun k h => hk k (by simp only [zsCut, List.mem_append]; simp only [h, true_or, or_true]))⟩
  have lv14_5_Boxes : A.rlen v14_5_Boxes = (List.length x_Risen_Boxes : Int) := rlen_map hA hv14_5_Boxes
  refine ops_callV rfl rfl (by cbv) (by cbv) hc6 (.inr rfl) (by cbv) ?_
  refine run_aops hA 2 _ _ _ _ (by cbv) ?_
  refine ops_done ?_
  refine go_seq ?_
  refine go_reg ?_
  refine run_aops hA 4 _ _ _ _ (by cbv) ?_
  refine ops_done ?_
  refine go_seq ?_
  refine go_reg ?_
  refine run_aops hA 4 _ _ _ _ (by cbv) ?_
  refine ops_done ?_
  refine go_seq ?_
  refine go_reg ?_
  refine run_aops hA 2 _ _ _ _ (by cbv) ?_
  refine ops_done ?_
  refine go_ret ⟨_, by cbv, ?_⟩
  show _ = (PV.agg [.ow 5 v6_1_Boxes, .ow 5 v10_3_Boxes, .ow 5 v14_5_Boxes, .bool x_Ok, .bool x_Clash])
  subst hv6_1_Boxes hv10_3_Boxes hv14_5_Boxes
  rfl
end Go.Av
